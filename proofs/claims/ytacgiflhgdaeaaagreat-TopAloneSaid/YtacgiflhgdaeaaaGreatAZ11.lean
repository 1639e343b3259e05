/- Texts laid as one. -/
import Derived.Shelf.GgSortMore.Stable
import Derived.Ground.GgtProg
import Derived.Shelf.Abstract
import Derived.Deep.QuietTactic
import Derived.BigQuiet
import Derived.OwnWalk
import Derived.Lib.Hide
import Derived.Test.YtacgiflhgdaeaaaGreatAZ1
import Derived.Test.YtacgiflhgdaeaaaGreatAZ2
import Derived.Test.YtacgiflhgdaeaaaGreatAZ8
import Derived.Test.YtacgiflhgdaeaaaGreatAZ10
set_option linter.unusedVariables false
set_option linter.unusedSimpArgs false
set_option maxRecDepth 100000
set_option maxHeartbeats 20000000
namespace Go.Proofs.YtacgiflhgdaeaaaGreat
open Go.Proofs.Tryz
open Go renaming World->aA,Value->aC,Addr->aJ,Calls->aG
open Go.RowKit renaming Below->aD,Hid->aH,intOf->aL
open Go.Obj renaming cells->aI
section
open Go.RowKit Go.Lib Go.Shelf
variable{x:Lb}{sb nb:Nat->Nat}{K m n g i:Nat}{F:Nat->Prop}{w:aA}{y:La}
section
theorem dZ.RD{e:Nat}(h:dZ x sb nb K m e)(h1:∀i,sb i<=n)(c:∀i,nb i<=n)(k:K<=n)(l:m<=n):GS x n e:=
 ⟨h.lr,h.ls,h.ln,h.lw,h.n,λt a=>⟨(h.tk t a).co.1,(h.tk t a).co.2,(h.tk t a).pe.1,(h.tk t a).pe.2,(h.tk t a).de.1,(h.tk t a).de.2,(h.tk t a).se,(h.tk t a).po.1,(h.tk t a).po.2⟩,h.nw.1,h.nw.2,
  λs hs=>by
   obtain⟨i,hi,rfl⟩:=aa1 hs;exact(h.sk i _ (Zv hi)).mono (h1 i),
  λv d=>by
   obtain⟨i,hi,rfl⟩:=aa1 d;have:=h.nk i _ (Zv hi);have:=c i;omega,
  by have:=h.jl;omega,λj f=>by
   have h1:=h.jk j f;have b:=h1.tk;have a2:=h1.ra;have a3:=h1.lf;have a4:=h1.ca;have a5:=h1.de;have g:=h1.rs;have o:=h.nw;exact⟨b.1,b.2,a2.1,a2.2,aQ,a3.2,a4.1,aQ,a5.1,aQ,g.1,aQ⟩,h.lg⟩
theorem bR.Oq(h:bR F w g x y):y.a.length=x.sh.length:=by
 obtain⟨b,h1⟩:=h.o;have hs:EH (Fo w b 5) w y.a x.sh:=h1.get 4 (p:=N9 y.a x.sh) rfl;exact hs.len
theorem Qi{s:jJ}{n:Int}(h:(lY s n).2=false):(lY s n).1=s:=by
 unfold lY at *;split
 .rfl
 .rename_i hc;rw[aaA hc] at h;cases h
theorem WN(hi:i<x.sh.length):dT x i (jR x i)=x:=by
 have:x.sh.set i (jR x i)=x.sh:=by
  unfold jR;rw[aaG,aaI,Zv hi];simp
 unfold dT;rw[aaG,this]
def iV(x:Lb)(o:Option Nat):Int×Int:=match o with
 |none=>(-1,0)
 |some i=>((dK x i).tk,(dK x i).nu)
def Ak(F:Nat->Prop)(g:Nat)(x:Lb)(given:Bool)(w:aA)(e:Ending)(w':aA):Prop:=e= .returned (.tuple #[.int .i64 (iV x (gY x given)).1, .int .i64 (iV x (gY x given)).2,true])/\(∃y',bR F w' g (gG x given) y')/\Kp F w w'
theorem M7(h:bR F w g x y){k:Nat}(hI:kT x k)(hk:k<=2800)(hn:x.nw<1048576)(given:Bool):
 aG prog 28 #[.pointer g,given] w (Ak F g x given w):=by
 have t:=h.c 11 (.int .i64 x.nw) rfl;have HL:=aP h;have HI:=aP hI;have HN:aH (x.nw<1048576):=hn;have n0:=hI.nw.1;clear h hI;go_enter func28,ntmps28
 go_upto_if 21 with(fail)
 go_cut [7] (λs7 wx=>∃o,s7= .int .i64 (tT o)/\aH (gY x given=o)/\aD w w wx)
 case first=>
  cases given
  .have HE:aH (gY x false=none):=rfl;go_wp2_with fail
   go_meet
   exact⟨none,rfl,HE,Below.refl _ _⟩
  .have HE:aH (gY x true=mV x):=rfl;have Q:=aP (MX HL.o HI.o.RD aQ);go_wp2_with fail
   refine aR Q ?_;rintro e w2 ⟨rfl,hb⟩;have HB:=aP hb;clear hb Q;go_wp2_with fail
   go_meet
   exact⟨_,rfl,HE.o,HB.o⟩
 case rest=>
 obtain⟨o,rfl,HO,z⟩:=hcut;have W:aH (∀i,o=some i->i<x.jb.length):=λi hi=>by
  have h1:=HO.o;rw[hi] at h1;unfold gY at h1;split at h1
  .exact Q0 h1
  .cases h1
 have h2:=HL.o.below z;have H2:=bN h2 (HL.o.fl.below z);replace t:=h2.c 11 (.int .i64 x.nw) rfl;clear h2 z HL;generalize wc=w2 at *;go_upto_if 25 with(fail)
 go_cut [4,5] (λs4 s5 wx=>s4= .int .i64 (iV x o).1/\s5= .int .i64 (iV x o).2/\aD w2 w2 wx)
 case first=>
  cases o with
  |none=>
   rw[show tT none= -1 from rfl];go_wp2_with fail
   go_meet
   exact⟨rfl,rfl,Below.refl _ _⟩
  |some i=>
   have hi:=W.o i rfl;obtain⟨q,hq,R⟩:=H2.o.1.lI hi;have u:=H2.o.1.c 15 (.slice y.J x.jb.length y.cJ) rfl;rw[hq] at u;have c0:=R.c0;have c1:=R.c1;have i0:(0:Int)<=i:=aQ;have i1:(i:Int)<(x.jb.length:Int):=aQ;rw[show tT (some i)=(i:Int) from rfl];clear hq R hi;go_upto_region 8 with(fail)
   go_quiet (fail)
   go_wp2_with fail
   go_meet
   exact⟨rfl,rfl,eX _ _⟩
 case rest=>
 obtain⟨rfl,rfl,z⟩:=hcut;have h3:=H2.o.1.below z;have t:=h3.c 11 (.int .i64 x.nw) rfl;have f11:=h3.bk.frozen 11;have h4:=h3.now (x.nw+1);have H4:=aP (And.intro h4.1 ((H2.o.2.trans (H2.o.1.fl.below z)).trans h4.2));clear h3 h4 z H2;generalize wc=w3 at *;go_upto_if 52 with(fail)
 generalize w3.setCell (g,11) (.int .i64 (x.nw+1))=w4 at *;clear t f11;go_cut [] (λwx=>∃l,bR F wx g (qZ x given) l/\Kp F w wx)
 case first=>
  cases o with
  |none=>
   have L:aH (qZ x given={x with nw:=x.nw+1}):=by unfold aH qZ;rw[HO.o]
   rw[show tT none= -1 from rfl];go_wp2_with fail
   go_meet
   rw[L.o];exact⟨_,H4.o⟩
  |some i=>
   have L:aH (qZ x given=qG {x with nw:=x.nw+1} i):=by unfold aH qZ;rw[HO.o]
   have hi:=W.o i rfl;have Q:=aP (Hz H4.o.1 (k:=k) (dZ.up HI.o HN.o) aQ (i:=i) hi);rw[show tT (some i)=(i:Int) from rfl];go_wp2_with fail
   refine aR Q ?_;rintro e w5 ⟨rfl,⟨y5,h5⟩,k5⟩;have H5:=bN h5 (H4.o.2.trans k5);clear h5 k5 Q;go_wp2_with fail
   go_meet
   rw[L.o];exact⟨_,H5.o⟩
 case rest=>
 obtain⟨l,h5,k5⟩:=hcut;have C:=aP (kT.gL HI.o HN.o given);have HTK:aH (gG x given=eC (eJ (qZ x given) (qZ x given).jb.length) x.ts.length):=rfl;obtain⟨X,hX⟩:∃X,X=qZ x given:=⟨_,rfl⟩
 rw[<-hX] at h5 C HTK;obtain⟨m,hm⟩:∃m,m=X.jb.length:=⟨_,rfl⟩
 have L:=aP hm;have u:=h5.c 15 (.slice l.J X.jb.length l.cJ) rfl;rw[<-hm] at u;have hml:m<=100000:=by have:=C.o.1.jl;omega
 have H5:=bN h5 k5;clear h5 k5 H4 W hX hm n0;generalize wc=w5 at *;go_upto_region 13 with(fail)
 go_loopw [61] (λv61 wr=>∃j:Nat,j<=m/\v61= .int .i64 j/\∃A c,aH (bR F wr g (eJ X j) {l with G:=A,cG:=c}/\Kp F w wr)) (λv61 _=>m - (aL v61).toNat)
 case atStart=>exact⟨0,aaH _,rfl,l.G,l.cG,H5.o⟩
 case round=>
  obtain⟨j,hj,rfl,A,c,p⟩:=hrel;clear u;by_cases M:j<m
  .have hl:=(tR X j).1;rw[<-L.o] at hl;obtain⟨q,hq,R⟩:=p.o.1.lI (n:=j) (by rw[hl];exact M);have u:=p.o.1.c 15 (.slice l.J (eJ X j).jb.length l.cJ) rfl;have t:=p.o.1.c 11 (.int .i64 (eJ X j).nw) rfl;rw[hl] at u;rw[show l.J=some ⟨q,0,none⟩ from hq] at u;have HLG:aH ((eJ X j).lg.length<=3000000000):=by
    have h1:=(C.o.1.OP j (by have:=L.o;omega)).lg;unfold aH;omega
   have hjl:j<(eJ X j).jb.length:=aQ;have N:aH (eJ X (j+1)=if(dK (eJ X j) j).bh=false/\(dK (eJ X j) j).lt=false/\(dK (eJ X j) j).de<=(eJ X j).nw then iY (cH (eJ X j) j {dK (eJ X j) j with lt:=true}) 6 {dK (eJ X j) j with lt:=true} else eJ X j):=rfl;have HQ:aH (l.J=some ⟨q,0,none⟩):=hq;have HJL:aH (j<(eJ X j).jb.length):=hjl;generalize eJ X j=Z at *;have c3:=R.c3;have c8:=R.c8;have wV:=R.wV;obtain⟨U,hjv⟩:∃U,U=dK Z j:=⟨_,rfl⟩
   rw[<-hjv] at c3 c8 wV N;have HJV:=aP hjv;have j0:(0:Int)<=j:=aQ;have j1:(j:Int)<(m:Int):=aQ;clear hq R hl hjl hjv;cases hb:U.bh
   .rw[hb] at c8;cases r:U.lt
    .rw[r] at wV;by_cases hde:U.de<=Z.nw
     .have HE:aH (eJ X (j+1)=iY (cH Z j {U with lt:=true}) 6 {U with lt:=true}):=N.o.trans (Zz ⟨hb,r,hde⟩);clear N hb r;go_upto_region 16 with(fail)
      go_quiet (fail)
      have E:=p.o.1.below (eX wr nq);have k7:=p.o.2.trans (p.o.1.fl.below (eX wr nq));have f10:=E.wH (i:=j) HQ.o HJL.o (f:=10) aQ;have hx:=E.EF (i:=j) HQ.o HJL.o (f:=10) aQ {U with lt:=true} (.bool true) (by rw[<-HJV.o];rfl);have a10:=hx.1.pY HQ.o HJL.o;have HB:=aP (wN hx.1 6 a10.c0 a10.c1 (by show Z.lg.length<=_;exact HLG.o));have HK:=aP (k7.trans hx.2);have c10':(wr.drewN nq).cell? (q,j *11+10)=some (.bool false):=wV;clear t u c3 c8 wV E k7 hx a10 p HLG;generalize wr.drewN nq=wz at *;go_wp2_with fail
      refine aR HB ?_;rintro e w8 ⟨rfl,⟨A8,c9,h8⟩,k8⟩;have s:aH (bR F w8 g (eJ X (j+1)) {l with G:=A8,cG:=c9}/\Kp F w w8):=by rw[HE.o];exact⟨h8,HK.o.trans k8⟩
      clear h8 k8 HB HE;go_wp2_with fail
      refine⟨⟨j+1,aQ,rfl,A8,c9,s.o⟩,by simp only[aL];omega⟩
     .have s:aH (bR F wr g (eJ X (j+1)) {l with G:=A,cG:=c}/\Kp F w wr):=by rw[N.o,aaA (λh=>hde h.2.2)];exact p.o
      clear N p hb r;go_upto_region 16 with(fail)
      go_quiet (fail)
      go_wp2_with fail
      refine⟨⟨j+1,aQ,rfl,A,c,s.o.1.below (eX _ _),s.o.2.trans (s.o.1.fl.below (eX _ _))⟩,by simp only[aL];omega⟩
    .have s:aH (bR F wr g (eJ X (j+1)) {l with G:=A,cG:=c}/\Kp F w wr):=by rw[N.o,aaA (λh=>by rw[r] at h;exact absurd h.2.1 aT)];exact p.o
     rw[r] at wV;clear N p hb r;go_upto_region 16 with(fail)
     go_quiet (fail)
     go_wp2_with fail
     refine⟨⟨j+1,aQ,rfl,A,c,s.o.1.below (eX _ _),s.o.2.trans (s.o.1.fl.below (eX _ _))⟩,by simp only[aL];omega⟩
   .have s:aH (bR F wr g (eJ X (j+1)) {l with G:=A,cG:=c}/\Kp F w wr):=by rw[N.o,aaA (λh=>by rw[hb] at h;exact absurd h.1 aT)];exact p.o
    rw[hb] at c8;clear N p hb;go_upto_region 16 with(fail)
    go_quiet (fail)
    go_wp2_with fail
    refine⟨⟨j+1,aQ,rfl,A,c,s.o.1.below (eX _ _),s.o.2.trans (s.o.1.fl.below (eX _ _))⟩,by simp only[aL];omega⟩
  .obtain rfl:j=m:=aQ;have HD:=aP (dZ.OP C.o.1 j (by have:=L.o;omega));have hlt':¬(j:Int)<(j:Int):=aQ;have B:aH (gG x given=eC (eJ X j) x.ts.length):=by rw[HTK.o,<-L.o];exact rfl
   have H:aH ((eJ X j).ts.length=x.ts.length):=by unfold aH;rw[(tR X j).2];exact C.o.2
   obtain⟨Y,hY⟩:∃Y,Y=eJ X j:=⟨_,rfl⟩
   rw[<-hY] at p HD B H;have hsl:Y.sh.length=x.ts.length:=by have:=HD.o.ls;have:=H.o;omega
   have e12:=p.o.1.c 12 (.slice l.S l.a.length l.cS) rfl;have hal:=p.o.1.Oq;rw[show l.a.length=x.ts.length from hal.trans hsl] at e12;have htl:x.ts.length<=8:=by have:=HI.o.n;omega
   obtain⟨T,hT⟩:∃T,T=x.ts.length:=⟨_,rfl⟩
   rw[<-hT] at e12 htl B H;clear hY hsl hal hT HTK C L t H5;go_upto_region 21 with(fail)
   go_loopw [107] (λv107 wr=>∃i:Nat,i<=T/\v107= .int .i64 i/\∃J cJ G cG,aH (bR F wr g (eC Y i) {l with J:=J,cJ:=cJ,G:=G,cG:=cG}/\Kp F w wr)) (λv107 _=>T - (aL v107).toNat)
   case atStart=>exact⟨0,aaH _,rfl,l.J,l.cJ,A,c,p.o⟩
   case round=>
    clear p e12 hlt' M hj;obtain⟨i,hi,rfl,J,cJ,G,cG,p⟩:=hrel;by_cases M:i<T
    .have I:=aP (dZ.Gz (Zw _) HD.o i (by have:=H.o;omega));have D:i<(eC Y i).ts.length:=by rw[(FF Y i).1,H.o];exact M
     obtain⟨hs1,e1,O⟩:=I.o.qQ D;rw[aaA (abX i)] at O;obtain⟨qS,a,hS,x0,hsh,hlen,eQ⟩:=p.o.1.V3 I.o.ls D;have hS':l.S=some ⟨qS,0,none⟩:=hS;have Q:=Z6 (jR (eC Y i) i) (eC Y i).nw a (k+1) wr hsh O aQ;have HKC:=(dZ.CJ I.o i (QF (now:=(eC Y i).nw) O))
     have HSL:aH ((lY (jR (eC Y i) i) (eC Y i).nw).2=false->dT (eC Y i) i (lY (jR (eC Y i) i) (eC Y i).nw).1=eC Y i):=λh=>by
      rw[Qi h];exact WN (by rw[I.o.ls];exact D)
     have hDS:eC Y (i+1)=if(lY (jR (eC Y i) i) (eC Y i).nw).2 then sK (dT (eC Y i) i (lY (jR (eC Y i) i) (eC Y i).nw).1) i ((eC Y i).wt.getD i 0) else eC Y i:=rfl
     have hwl:i<(eC Y i).wt.length:=by rw[I.o.lw];exact D
     have t:=p.o.1.c 11 (.int .i64 (eC Y i).nw) rfl;have P:=aP hDS;have HTU:=aP eQ;have HCC:=aP Q;have HKW:=aP (HKC.RD (n:=8 *k+100) (λj=>by split <;> (try split) <;> omega) (λj=>by split <;> omega) aQ aQ);have HLI:aH (1000000 *k+1+j+i<=3000000000):=by unfold aH;omega
     have HIT:aH (i<(eC Y i).ts.length/\i<(eC Y i).wt.length):=⟨D,hwl⟩
     clear hDS eQ Q HKC D hwl hlen hS hsh O e1 hs1;generalize hb:(lY (jR (eC Y i) i) (eC Y i).nw).2=b at *;generalize (lY (jR (eC Y i) i) (eC Y i).nw).1=s' at *;generalize eC Y i=Z at *;have i0:(0:Int)<=i:=aQ;have i1:(i:Int)<(T:Int):=aQ;clear hb;rw[hS'];go_wp2_with fail
     refine aR HCC ?_;rintro e w6 ⟨rfl,hs6,hg6⟩;obtain⟨E,k7⟩:=HTU.o w6 s' hs6 hg6;cases b
     .rw[HSL.o rfl] at E;have s:aH (bR F w6 g (eC Y (i+1)) {l with J:=J,cJ:=cJ,G:=G,cG:=cG}/\Kp F w w6):=by rw[P.o];exact⟨E,p.o.2.trans k7⟩
      clear E k7 hs6 hg6 HCC HTU P HSL HKW x0 t;go_wp2_with fail
      rw[hS'] at s;refine⟨⟨i+1,aQ,rfl,J,cJ,G,cG,s.o⟩,by simp only[aL];omega⟩
     .obtain⟨qV,hV,r0⟩:=E.wait (n:=i) (by exact HIT.o.2);have e14:=E.c 14 (.slice l.V (dT Z i s').wt.length l.cV) rfl;rw[show l.V=some ⟨qV,0,none⟩ from hV] at e14;have hwl:(i:Int)<((dT Z i s').wt.length:Int):=by have:=HIT.o.2;show(i:Int)<(Z.wt.length:Int);omega
      have HCM:=aP (JT E HKW.o aQ HLI.o (i:=i) HIT.o.1 (Z.wt.getD i 0));have HKK:=aP (p.o.2.trans k7);have K:aH (eC Y (i+1)=sK (dT Z i s') i (Z.wt.getD i 0)):=P.o.trans (Zz rfl);have r0':w6.cell? ⟨qV,i,none⟩=some (.int .i64 (Z.wt.getD i 0)):=r0;obtain⟨d,hd⟩:∃d,d=Z.wt.getD i 0:=⟨_,rfl⟩
      rw[<-hd] at HCM K r0';clear E k7 hs6 hg6 HCC HTU P HSL HKW x0 t hV p r0 hd;go_wp2_with fail
      refine aR HCM ?_;rintro e w8 ⟨rfl,⟨J8,cJ8,G8,cG8,h8⟩,k8⟩;have s:aH (bR F w8 g (eC Y (i+1)) {l with J:=J8,cJ:=cJ8,G:=G8,cG:=cG8}/\Kp F w w8):=by rw[K.o];exact⟨h8,HKK.o.trans k8⟩
      clear h8 k8 HCM HKK K;go_wp2_with fail
      rw[hS'] at s;refine⟨⟨i+1,aQ,rfl,J8,cJ8,G8,cG8,s.o⟩,by simp only[aL];omega⟩
    .obtain rfl:i=T:=aQ;have s:aH (bR F wr g (gG x given) {l with J:=J,cJ:=cJ,G:=G,cG:=cG}/\Kp F w wr):=by rw[B.o];exact p.o
     clear p B HD;go_wp2_with fail
     refine bodyPost_ret (v:= .tuple #[.int .i64 (iV x o).1, .int .i64 (iV x o).2,true]) (by simp[results,results28,go_sem]) rfl ?_;unfold Ak;rw[HO.o];exact⟨rfl,⟨_,s.o.1⟩,s.o.2⟩
end
end
section
open Go.Shelf
def P4:Go.Shelf.Ren:=⟨λ|8=>226|13=>256|14=>257|16=>259|15=>258|29=>289|30=>290|42=>299|49=>309|n=>n,λ|20=>20|26=>356|36=>443|0=>0|38=>205|42=>448|3=>3|4=>4|47=>405|17=>17|33=>440|34=>441|89=>499|12=>12|56=>457|82=>492|5=>5|83=>493|84=>494|85=>495|86=>496|87=>497|n=>n,λ|n=>n⟩
theorem P3:Go.Proofs.LaysGt.n8 prog P4:={
 mixed:=aV
 f8:=func226.trans (congrArg some aV)
 f13:=func256.trans (congrArg some aV)
 f14:=func257.trans (congrArg some aV)
 f15:=func258.trans (congrArg some aV)
 f16:=func259.trans (congrArg some aV)
 f29:=func289.trans (congrArg some aV)
 f30:=func290.trans (congrArg some aV)
 f42:=func299.trans (congrArg some aV)
 f49:=func309.trans (congrArg some aV)
 t0:=underlying0
 a0:=isAgg0
 z0:=sizeOf0
 v0:=zeroValue0
 i0:=aV
 t3:=underlying3
 a3:=isAgg3
 z3:=sizeOf3
 v3:=zeroValue3
 i3:=aV
 t4:=underlying4
 a4:=isAgg4
 z4:=sizeOf4
 v4:=zeroValue4
 i4:=aV
 t5:=underlying5
 a5:=isAgg5
 z5:=sizeOf5
 v5:=zeroValue5
 i5:=aV
 t12:=underlying12
 a12:=isAgg12
 z12:=sizeOf12
 v12:=zeroValue12
 i12:=aV
 t17:=underlying17
 a17:=isAgg17
 z17:=sizeOf17
 v17:=zeroValue17
 i17:=aV
 t20:=underlying20
 a20:=isAgg20
 z20:=sizeOf20
 v20:=zeroValue20
 i20:=aV
 t26:=underlying356
 a26:=isAgg356
 z26:=sizeOf356
 v26:=zeroValue356
 i26:=aV
 t33:=underlying440
 a33:=isAgg440
 z33:=sizeOf440
 v33:=zeroValue440
 i33:=aV
 t34:=underlying441
 a34:=isAgg441
 z34:=sizeOf441
 v34:=zeroValue441
 i34:=aV
 t36:=underlying443
 a36:=isAgg443
 z36:=sizeOf443
 v36:=zeroValue443
 i36:=aV
 t38:=underlying205
 a38:=isAgg205
 z38:=sizeOf205
 v38:=zeroValue205
 i38:=aV
 t42:=underlying448
 a42:=isAgg448
 z42:=sizeOf448
 v42:=zeroValue448
 i42:=aV
 t47:=underlying405
 a47:=isAgg405
 z47:=sizeOf405
 v47:=zeroValue405
 i47:=aV
 t56:=underlying457
 a56:=isAgg457
 z56:=sizeOf457
 v56:=zeroValue457
 i56:=aV
 t82:=underlying492
 a82:=isAgg492
 z82:=sizeOf492
 v82:=zeroValue492
 i82:=aV
 t83:=underlying493
 a83:=isAgg493
 z83:=sizeOf493
 v83:=zeroValue493
 i83:=aV
 t84:=underlying494
 a84:=isAgg494
 z84:=sizeOf494
 v84:=zeroValue494
 i84:=aV
 t85:=underlying495
 a85:=isAgg495
 z85:=sizeOf495
 v85:=zeroValue495
 i85:=aV
 t86:=underlying496
 a86:=isAgg496
 z86:=sizeOf496
 v86:=zeroValue496
 i86:=aV
 t87:=underlying497
 a87:=isAgg497
 z87:=sizeOf497
 v87:=zeroValue497
 i87:=aV
 t89:=underlying499
 a89:=isAgg499
 z89:=sizeOf499
 v89:=zeroValue499
 i89:=by kernel_rfl}
end
section
open Go.RowKit Go.Lib Go.Shelf Go.Sort
variable{w:aA}{A:Option aJ}{n:Nat}
section
def BB(t:Tk):List aC:= [.int .i64 t.co, .int .i64 t.pe, .int .i64 t.de]
theorem PD:eL BB 3:=⟨λ_=>rfl,λx u hu=>by simp[BB] at hu;rcases hu with rfl|rfl|rfl <;> rfl⟩
def eF{n:Nat}(x:Fin (n+2)):aC:= .int .i64 (x.val:Int)
def yF(n:Nat)(key:Nat->Int)(a b:Fin (n+2)):Bool:=decide (key a<key b)
theorem Yb(n:Nat)(key:Nat->Int):SWO (yF n key):=⟨λx=>by simp[yF],λx y z h1 a=>by simp[yF] at *;omega,λx y z h1 a=>by simp[yF] at *;omega⟩
def uT(key:Nat->Int):Nat->List Int
 |n+2=>(Sort.insertionSort (yF n key) (Array.ofFn id) 0 (n+2)).toList.map λx=>(x.val:Int)
 |n=>(List.range n).map Int.ofNat
theorem RR(n:Nat)(key:Nat->Int):(Sort.insertionSort (yF n key) (Array.ofFn id) 0 (n+2)).size=n+2:=by
 have:=(insertionSort_holds (Yb n key) (Array.ofFn (n:=n+2) id) 0 (n+2) (aaH _) aT).1.1;simpa using this
theorem RM(key:Nat->Int):∀n,(uT key n).length=n
 |0=>rfl
 |1=>rfl
 |n+2=>by
  show((Sort.insertionSort (yF n key) (Array.ofFn id) 0 (n+2)).toList.map λx=>(x.val:Int)).length=_;rw[abB,ac6,RR]
theorem My(key:Nat->Int):∀n,∀x∈uT key n,0<=x/\x<n
 |0,x,h=>by simp[uT] at h
 |1,x,h=>by simp[uT] at h;subst h;simp
 |n+2,x,h=>by
  obtain⟨y,_,rfl⟩:=acL.1 h;exact⟨aQ,by have:=y.isLt;omega⟩
def OX(fv:aC)(n:Nat)(key:Nat->Int)(w:aA):Prop:=∀(W:aA) (bk bs q c:Nat) (dk:Array (Fin (n+2))),aD w w W->W.cell? (bk,0)=some fv->W.cell? (bs,0)=some (.slice (some ⟨q,0,none⟩) (n+2) c)->
 (∀t,t<n+2->W.cell? ⟨q,t,none⟩=some (eF dk[t]!))->∀i j:Nat,i<n+2->j<n+2->
  aG prog 227 #[i,j, .pointer bk, .pointer bs] W λe w'=>e= .returned (.bool (yF n key dk[i]! dk[j]!))/\∃q,w'=W.drewN q
theorem Td{L:List Tk}(h:Sl BB 3 w A L)(hl:L.length<=100000)(b c:Nat)(hb:w.cell? (b,0)=some (.slice A L.length c))(p:Nat)(hp:p<L.length):
 aG prog 180 #[p, .pointer b] w λe w'=>e= .returned (.int .i64 (L.getD p nB).pe)/\w=w':=by
 obtain⟨q,off,rfl,hc⟩:=h.at_ hp;have c0:=hc 1 (.int .i64 L[p].pe) rfl;have e:L.getD p nB=L[p]:=by rw[aaI,Zv hp];rfl
 rw[e];have p0:(0:Int)<=p:=aQ;have p1:(p:Int)<(L.length:Int):=aQ;have a:w.cell? (q,off+p *3+1)=some (.int .i64 L[p].pe):=by rw[abD];exact c0
 clear hc e h c0;generalize L[p]=t at *;go_enter func180,ntmps180
 go_wp2_with fail
 go_ret
 exact⟨rfl,rfl⟩
theorem Ik:∀args w,(callFunc 180 args).run prog w= .ok (.enter 180 args) w:=enters_of func180 aV rfl
theorem Ld{L:List Tk}(h:Sl BB 3 w A L)(k:L.length=n+2)(hl:L.length<=100000)(b c:Nat)(hb:w.cell? (b,0)=some (.slice A L.length c)):
 OX (.func (.func 180) #[] #[.pointer b]) n (λp=>(L.getD p nB).pe) w:=by
 intro W bk E q F l f hk hs hc i j hi r;have ci:=hc i hi;have u:=hc j r;have g:=aP (λm (p:Fin (n+2))=>Td (w:=W.drewN m) ((h.keep f).keep (fD (Below.refl _ _) m)) hl b c (bG (fD f m) hb) p.val (by rw[k];exact p.isLt));generalize l[i]! =x at *;generalize l[j]! =z at *;unfold eF at ci u;have i0:(0:Int)<=i:=aQ;have i1:(i:Int)<((n+2:Nat):Int):=aQ;have G:(0:Int)<=j:=aQ;have v:(j:Int)<((n+2:Nat):Int):=aQ;obtain⟨m,hm⟩:∃m,m=n+2:=⟨_,rfl⟩
 rw[<-hm] at hs i1 v;generalize a:(L.getD x.val nB).pe=s;generalize d:(L.getD z.val nB).pe=t;have y:aH (∀m,aG prog 180 #[x.val, .pointer b] (W.drewN m) λe w'=>e= .returned (.int .i64 s)/\W.drewN m=w'):=λm=>by rw[<-a];exact g.o m x
 have B:aH (∀m,aG prog 180 #[z.val, .pointer b] (W.drewN m) λe w'=>e= .returned (.int .i64 t)/\W.drewN m=w'):=λm=>by rw[<-d];exact g.o m z
 have C:aH (yF n (λp=>(L.getD p nB).pe) x z=decide (s<t)):=by
  show decide ((L.getD x.val nB).pe<(L.getD z.val nB).pe)=_;rw[a,d]
 clear g a d hc h hb k hm hl f hi r;generalize (x.val:Int)=xv at *;generalize (z.val:Int)=zv at *;have D:=Ik;go_enter func227,ntmps227
 go_upto_region 1 with(fail)
 go_quiet (first|exact Calls.quiet_of_same ((y.o _).mono λe w' h=>⟨h.1,h.2.symm⟩)|exact Calls.quiet_of_same ((B.o _).mono λe w' h=>⟨h.1,h.2.symm⟩))
 go_wp2_with fail
 go_ret
 rw[C.o];exact⟨rfl,_,rfl⟩
theorem Ox{L:List Tk}(h:Sl BB 3 w A L)(hl:L.length<=100000)(b c:Nat)(hb:w.cell? (b,0)=some (.slice A L.length c))(p:Nat)(hp:p<L.length):
 aG prog 181 #[p, .pointer b] w λe w'=>e= .returned (.int .i64 (L.getD p nB).de)/\w=w':=by
 obtain⟨q,off,rfl,hc⟩:=h.at_ hp;have c0:=hc 2 (.int .i64 L[p].de) rfl;have e:L.getD p nB=L[p]:=by rw[aaI,Zv hp];rfl
 rw[e];have p0:(0:Int)<=p:=aQ;have p1:(p:Int)<(L.length:Int):=aQ;have a:w.cell? (q,off+p *3+2)=some (.int .i64 L[p].de):=by rw[abD];exact c0
 clear hc e h c0;generalize L[p]=t at *;go_enter func181,ntmps181
 go_wp2_with fail
 go_ret
 exact⟨rfl,rfl⟩
theorem Em:∀args w,(callFunc 181 args).run prog w= .ok (.enter 181 args) w:=enters_of func181 aV rfl
theorem Mp{L:List Tk}(h:Sl BB 3 w A L)(k:L.length=n+2)(hl:L.length<=100000)(b c:Nat)(hb:w.cell? (b,0)=some (.slice A L.length c)):
 OX (.func (.func 181) #[] #[.pointer b]) n (λp=>(L.getD p nB).de) w:=by
 intro W bk E q F l f hk hs hc i j hi r;have ci:=hc i hi;have u:=hc j r;have g:=aP (λm (p:Fin (n+2))=>Ox (w:=W.drewN m) ((h.keep f).keep (fD (Below.refl _ _) m)) hl b c (bG (fD f m) hb) p.val (by rw[k];exact p.isLt));generalize l[i]! =x at *;generalize l[j]! =z at *;unfold eF at ci u;have i0:(0:Int)<=i:=aQ;have i1:(i:Int)<((n+2:Nat):Int):=aQ;have G:(0:Int)<=j:=aQ;have v:(j:Int)<((n+2:Nat):Int):=aQ;obtain⟨m,hm⟩:∃m,m=n+2:=⟨_,rfl⟩
 rw[<-hm] at hs i1 v;generalize a:(L.getD x.val nB).de=s;generalize d:(L.getD z.val nB).de=t;have y:aH (∀m,aG prog 181 #[x.val, .pointer b] (W.drewN m) λe w'=>e= .returned (.int .i64 s)/\W.drewN m=w'):=λm=>by rw[<-a];exact g.o m x
 have B:aH (∀m,aG prog 181 #[z.val, .pointer b] (W.drewN m) λe w'=>e= .returned (.int .i64 t)/\W.drewN m=w'):=λm=>by rw[<-d];exact g.o m z
 have C:aH (yF n (λp=>(L.getD p nB).de) x z=decide (s<t)):=by
  show decide ((L.getD x.val nB).de<(L.getD z.val nB).de)=_;rw[a,d]
 clear g a d hc h hb k hm hl f hi r;generalize (x.val:Int)=xv at *;generalize (z.val:Int)=zv at *;have D:=Em;go_enter func227,ntmps227
 go_upto_region 1 with(fail)
 go_quiet (first|exact Calls.quiet_of_same ((y.o _).mono λe w' h=>⟨h.1,h.2.symm⟩)|exact Calls.quiet_of_same ((B.o _).mono λe w' h=>⟨h.1,h.2.symm⟩))
 go_wp2_with fail
 go_ret
 rw[C.o];exact⟨rfl,_,rfl⟩
end
variable{q gf bs:Nat}{w0:aA}
section
noncomputable def Vu:TypeInfo:=(prog.info? 35).get aV
noncomputable def SS:TypeInfo:=(prog.info? 3).get aV
theorem IF:(prog.info? 3).map (λi=>(i.zero,i.size,i.bytes))=some (some (.int .i64 0),1,8):=aV
theorem Yl(n:Nat)(e:2<=n):Lib.swapperK n SS 2=5:=by
 have a:SS.hasPointers=false:=aV;have b:SS.bytes=8:=aV;have c:(n==0)=false:=bT;have d:(n==1)=false:=bT;simp[Lib.swapperK,a,b,c,d]
def N3(w:aA)(A:Option aJ):Prop:=∀b,aY A=some b->w.heap.size<=b
def lD(n k:Nat):List Int:=(List.range n).map λj=>if j<k then(j:Int) else 0
theorem CF(n k:Nat):(lD n k).length=n:=by simp[lD]
theorem Iv{k:Nat}:(lD n k).set k (k:Int)=lD n (k+1):=by
 apply ab8
 .simp[lD]
 .intro i h1 a;simp only[lD,aaL,abB,List.length_range] at h1 a⊢;rw[abA];simp only[List.getElem_map,List.getElem_range];split
  .rename_i e;subst e;rw[Zz aQ]
  .rename_i e;by_cases h:i<k
   .rw[Zz h,Zz aQ]
   .rw[aaA h,aaA aQ]
theorem Da(n:Nat):lD n n=(List.range n).map Int.ofNat:=by
 unfold lD;apply List.map_congr_left;intro j a;rw[Zz (ab1.1 a)];rfl
theorem Z5(n:Nat):(madeCells (Value.int .i64 0).cells (n *1)).toList=(lD n 0).flatMap eI:=by
 rw[DT];congr 1
 apply ab8
 .simp[lD]
 .intro i h1 a;simp[lD]
section
variable{α:Type}[Inhabited α]{enc:α->aC}
theorem Cw(w:aA)(q m:Nat)(d:Array α)(os:Array Obj):∀i,i<w.heap.size->(sortWorld enc w q 0 m d os).heap[i]?=(w.heap.modify q (onCells (putCells enc 0 d)))[i]?:=λi hi=>by
 show(w.heap.modify q _++os)[i]?=_;rw[adL (by simpa using hi)]
theorem GO(w:aA)(q m:Nat)(d:Array α)(os:Array Obj):w.grownBy (sortWorld enc w q 0 m d os) (some q):=by
 refine⟨rfl,rfl,rfl,?_,λi hi a=>?_⟩
 .show w.heap.size<=(w.heap.modify q _++os).size;rw[Array.size_append,Array.size_modify];omega
 .rw[Cw w q m d os i hi,adN,aaA (λe=>a (by rw[e]))]
end
theorem W8{base c:Nat}{e:TypeId}(h:bI eI 1 w base e q c (lD (n+2) (n+2))):Holds (eF (n:=n)) w q 0 (Array.ofFn id):=by
 intro j b;have a:j<n+2:=by simpa using b
 have h1:=bM gK h (i:=j) (by rw[CF];exact a) (j:=0) rfl;rw[acD,aaU] at h1;rw[aa8];refine⟨?_,(cZ h j (by have:=h.cap;rw[CF] at this;omega)).2⟩;rw[h1];congr 1
 rw[aeD _ j b];simp[lD,eF,a]
theorem Ex{base c:Nat}{e:TypeId}(h:bI eI 1 w base e q c (lD n n))(a:n<=1)(key:Nat->Int)(os:Array Obj):Sl eI 1 (Sort.grow w os) q (uT key n):=by
 have b:uT key n=lD n n:=by
  rw[Da];match n,a with
  |0,_=>rfl
  |1,_=>rfl
 rw[b];exact(h.sl gK).keep ⟨rfl,rfl,rfl,by simp[Sort.grow],λk hk=>by
  show(w.heap++os)[k]?=_;rw[adL hk]⟩
theorem Yp(n:Nat)(h:n<=1):∃f,prog.funcs.findIdx? (·.name== "internal/reflectlite" ++ ".Swapper$" ++toString (Lib.swapperK n SS 2))=some f:=by
 match n,h with
 |0,_=>exact⟨280,aV⟩
 |1,_=>exact⟨281,aV⟩
theorem XV{cap:Array aC}{bk:Nat}(key:Nat->Int)(y:n<=20)(hb:aD w0 w0 w)(own:bI eI 1 w w0.heap.size 3 q n (lD n n))(hk:bF w bk 254 #[.func (.func gf) #[] cap])(hs:bF w bs 35 #[.slice q n n])(h1:bk≠q)(A:bs≠q)
 (b:∀m,n=m+2->OX (.func (.func gf) #[] cap) m key w0):
 aG prog 226 #[.iface 35 (.slice q n n), .func (.func 227) #[] #[.pointer bk, .pointer bs]] w λe w'=>e= .returned (.tuple #[])/\Sl eI 1 w' q (uT key n)/\w.grownBy w' (some q):=by
 by_cases c:n<=1
 .obtain⟨f,hf⟩:=Yp n c;have h:=Any.sort_SliceStable_tiny P3 35 3 Vu SS aV aV aV aV 2 (λ_=>by kernel_rfl) q n n c f hf (.func 227) #[] #[.pointer bk, .pointer bs] w;refine Calls.mono (f:=226) h ?_;rintro e w' ⟨rfl,os,rfl⟩;exact⟨rfl,Ex own c key os,rfl,rfl,rfl,by simp[Sort.grow],λk hk _=>by
   show(w.heap++os)[k]?=_;rw[adL hk]⟩
 .obtain⟨m,rfl⟩:∃m,n=m+2:=⟨n - 2,aQ⟩
  have hq:=(own.lt q rfl)
  have hH:=W8 own;have hl:LessReads prog 227 #[.pointer bk, .pointer bs] (eF (n:=m)) (yF m key) q 0 (Array.ofFn (n:=m+2) id).size w:=by
   intro d os l hd i j hi o;have jA:(Array.ofFn (n:=m+2) id).size=m+2:=aT;rw[jA] at hd hi o;have g:=GO (enc:=eF (n:=m)) w q d l os;refine b m rfl (sortWorld eF w q 0 d l os) bk bs q (m+2) l (hb.grown g hb.size (λr p=>by injection p with p;omega)) ((hk.grown g (λe=>h1 (by injection e))).cell 0 _ rfl) ((hs.grown g (λe=>A (by injection e))).cell 0 _ rfl) (λt B=>?_) i j hi o;have:=(holds_sortWorld (eF (n:=m)) w q 0 d (Array.ofFn id) l os hq.2 hH (by rw[hd,jA])) t (by rw[hd];exact B);rw[aa8] at this;exact this.1
  have s:=Any.sort_SliceStable_small P3 35 3 Vu SS aV aV aV aV 2 (λ_=>by kernel_rfl) aV (λ_=>by kernel_rfl) (eF (n:=m)) (λ_=>rfl) (yF m key) 227 #[.pointer bk, .pointer bs]
   (enters_of func227 aV rfl) q 0 (m+2) (Array.ofFn id) aT (by simpa using y) 284 (by rw[Yl _ aT];kernel_rfl) true
   (λargs W=>run_callFunc_extern func284 aV aV aV (e:=Extern.ReflectliteSwapper.swap true) aV args W) w hl hH hq.2
  rw[show(Array.ofFn (n:=m+2) id).size=m+2 by simp] at s;refine Calls.mono (f:=226) s ?_;rintro e w' ⟨rfl,d,os,rfl⟩;have g:=GO (enc:=eF (n:=m)) w q d (Sort.insertionSort (yF m key) (Array.ofFn id) 0 (m+2)) os;refine⟨rfl,λ_=>⟨q,0,rfl,λi x j u v hu=>?_⟩,g⟩;have hi:i<m+2:=by have:=(aaN.1 v).1;rw[RM] at this;exact this
  have hc:=(holds_sortWorld (eF (n:=m)) w q 0 d (Array.ofFn id) (Sort.insertionSort (yF m key) (Array.ofFn id) 0 (m+2)) os hq.2 hH (by rw[RR];simp)) i (by rw[RR];exact hi);have o:j=0:=by have:=(aaN.1 hu).1;simp[eI] at this;exact this
  subst o;simp[eI] at hu;subst hu;have C:0+(i *1+0)=0+i:=aQ;rw[C];refine hc.1.trans ?_;have a:((Sort.insertionSort (yF m key) (Array.ofFn id) 0 (m+2)).toList.map λx=>(x.val:Int))[i]?=some x:=v;rw[acS,aaX,abO (by rw[RR];exact hi)] at a;injection a with a;rw[aeD _ i (by rw[RR];exact hi)];exact congrArg (λz=>some (Value.int .i64 z)) a
theorem P6(gf:Nat)(cap:Array aC)(n:Nat)(P:n<=20)(key:Nat->Int)(w:aA)(f:∀m,n=m+2->OX (.func (.func gf) #[] cap) m key w):
 aG prog 179 #[n, .func (.func gf) #[] cap] w λe w'=>∃A c,e= .returned (.slice A n c)/\Sl eI 1 w' A (uT key n)/\aD w w w'/\N3 w A:=by
 obtain⟨i0,F,G,H,I⟩:=info_parts IF;have u:=aX w (aI #[.func (.func gf) #[] cap] 254);have bk:=bF.new w 254 #[.func (.func gf) #[] cap];have p:=bN u bk;have J:=aP f;clear f u bk;go_enter func179,ntmps179
 go_wp2_with(at_make;refine wpList_make_full _ rfl _ _ 35 rfl w.heap.size 3 i0 _ 1 underlying35 F G H _ _ _ _ n rfl rfl rfl rfl (by rw[I];omega) dI aT ?_;intro i g s)
 rw[Z5] at g;obtain⟨q,hq⟩:∃q,q=(w.alloc (aI #[.func (.func gf) #[] cap] 254)).heap.size:=⟨_,rfl⟩
 have v:q=w.heap.size+1:=by rw[hq];simp
 have yD:bI eI 1 i w.heap.size 3 (some ⟨q,0,none⟩) n (lD n 0):=by
  unfold bI;rw[CF,hq];exact g
 have h:aD w w i:=p.o.1.grown s aT (λk hk=>by cases hk);have x:bF i w.heap.size 254 #[.func (.func gf) #[] cap]:=p.o.2.grown s aT;have K:=(yD.lt q rfl).2;rw[<-v];have y:=h.alloc h.size (aI #[.slice (some ⟨q,0,none⟩) n n] 35);have z:=x.alloc (aI #[.slice (some ⟨q,0,none⟩) n n] 35);have B:=bF.new i 35 #[.slice (some ⟨q,0,none⟩) n n];have l:=yD.alloc (aI #[.slice (some ⟨q,0,none⟩) n n] 35);have a:aH (w.heap.size≠q/\i.heap.size≠q/\w.heap.size<=q/\w.heap.size<=i.heap.size):=⟨aQ,aQ,aQ,h.size⟩
 have M:=dA y z (And.intro B l);clear y z B l h x yD g s hq v K p;generalize i.alloc (aI #[.slice (some ⟨q,0,none⟩) n n] 35)=w4 at *;generalize i.heap.size=bs at *;go_loopw [6,11] (λ_ v11 wr=>∃k:Nat,k<=n/\v11= .int .i64 k/\aH (aD w w wr/\bF wr w.heap.size 254 #[.func (.func gf) #[] cap]/\bF wr bs 35 #[.slice (some ⟨q,0,none⟩) n n]/\bI eI 1 wr w.heap.size 3 (some ⟨q,0,none⟩) n (lD n k))) (λ_ v11 _=>n - (aL v11).toNat)
 case atStart=>exact⟨0,aaH _,rfl,M.o⟩
 case round=>
  clear M;obtain⟨k,hk,rfl,d⟩:=hrel;by_cases L:k<n
  .have S:(0:Int)<=k:=aQ;have T:(k:Int)<(n:Int):=aQ;have cs:=d.o.2.2.1.cell 0 _ rfl;have C:k<(lD n k).length:=by rw[CF];exact L
   obtain⟨r1,U⟩:=cZ d.o.2.2.2 k aQ;obtain⟨v0,r1⟩:=ad3.1 r1;obtain⟨o1,o2⟩:=qO KS d.o.2.2.2 C (j:=0) aQ (k:Int) (.int .i64 k) rfl;rw[acD,aaU,Iv] at o1;rw[acD,aaU] at o2;have Q:aH (aD w w (wr.setCell ⟨q,k,none⟩ k)/\bF (wr.setCell ⟨q,k,none⟩ k) w.heap.size 254 #[.func (.func gf) #[] cap]/\bF (wr.setCell ⟨q,k,none⟩ k) bs 35 #[.slice (some ⟨q,0,none⟩) n n]/\bI eI 1 (wr.setCell ⟨q,k,none⟩ k) w.heap.size 3 (some ⟨q,0,none⟩) n (lD n (k+1))):=
    ⟨d.o.1.grown o2 d.o.1.size (λr D=>by injection D with D;have:=a.o.2.2.1;omega),d.o.2.1.grown o2 (λe=>a.o.1 (by injection e)),d.o.2.2.1.grown o2 (λe=>a.o.2.1 (by injection e)),o1⟩
   clear d o1 o2 C;go_wp2_with fail
   refine⟨⟨k+1,aQ,rfl,Q.o⟩,by simp only[aL];omega⟩
  .obtain rfl:k=n:=aQ;have cs:=d.o.2.2.1.cell 0 _ rfl;have N:=aP (XV key P d.o.1 d.o.2.2.2 d.o.2.1 d.o.2.2.1 a.o.1 a.o.2.1 J.o);go_wp2_with fail
   refine aR N ?_;rintro e V ⟨rfl,E,t⟩;have R:=(d.o.2.2.1.grown t (λe=>a.o.2.1 (by injection e))).cell 0 _ rfl;have O:=bN E (d.o.1.grown t d.o.1.size (λr D=>by injection D with D;have:=a.o.2.2.1;omega));clear E t N d cs;go_wp2_with fail
   go_ret
   exact⟨_,_,rfl,O.o.1,O.o.2,λb hb=>by injection hb with hb;have:=a.o.2.2.1;simp only at hb;omega⟩
theorem Pp{L:List Tk}(h:Sl BB 3 w A L)(hl:L.length<=20)(c:Nat):
 aG prog 124 #[(A,L.length,c)] w λe w'=>∃B d,e= .returned (.slice B L.length d)/\Sl eI 1 w' B (uT (λp=>(L.getD p nB).pe) L.length)/\aD w w w'/\N3 w B:=by
 have a:=aX w (aI #[(A,L.length,c)] 291);have bk:=(bF.new w 291 #[(A,L.length,c)]).cell 0 _ rfl;have g:=aP (P6 180 #[.pointer w.heap.size] L.length hl (λp=>(L.getD p nB).pe) (w.alloc (aI #[(A,L.length,c)] 291)) (λm hm=>Ld (h.keep a) hm aQ _ c bk));have f:=aP a;clear h a;generalize (λp=>(L.getD p nB).pe)=key at *;go_enter func124,ntmps124
 go_wp2_with fail
 refine aR g ?_;rintro e k ⟨B,d,rfl,hs,hb,i⟩;have j:=dA hs (f.o.trans (hb.mono f.o.size)) (show N3 w B from λb hb=>aaC f.o.size (i b hb));clear hs hb i g;go_wp2_with fail
 go_ret
 exact⟨_,_,rfl,j.o⟩
theorem Oz{L:List Tk}(h:Sl BB 3 w A L)(hl:L.length<=20)(c:Nat):
 aG prog 126 #[(A,L.length,c)] w λe w'=>∃B d,e= .returned (.slice B L.length d)/\Sl eI 1 w' B (uT (λp=>(L.getD p nB).de) L.length)/\aD w w w'/\N3 w B:=by
 have a:=aX w (aI #[(A,L.length,c)] 291);have bk:=(bF.new w 291 #[(A,L.length,c)]).cell 0 _ rfl;have g:=aP (P6 181 #[.pointer w.heap.size] L.length hl (λp=>(L.getD p nB).de) (w.alloc (aI #[(A,L.length,c)] 291)) (λm hm=>Mp (h.keep a) hm aQ _ c bk));have f:=aP a;clear h a;generalize (λp=>(L.getD p nB).de)=key at *;go_enter func126,ntmps126
 go_wp2_with fail
 refine aR g ?_;rintro e k ⟨B,d,rfl,hs,hb,i⟩;have j:=dA hs (f.o.trans (hb.mono f.o.size)) (show N3 w B from λb hb=>aaC f.o.size (i b hb));clear hs hb i g;go_wp2_with fail
 go_ret
 exact⟨_,_,rfl,j.o⟩
end
end
section
open Go.RowKit Go.Lib Go.Shelf
variable{w w':aA}{A:Option aJ}{i:Nat}
section
structure qK(w:aA)(A:Option aJ)(L:List Tm):Prop where
 o:Sl pI 5 w A L
 sl:∀x∈L,Sl lP 3 w x.A x.t.se
 cp:∀x∈L,x.t.se.length<=x.c
theorem qK.keep{L:List Tm}(h:qK w A L)(hb:aD w w w'):qK w' A L:=⟨h.o.keep hb,λx a=>(h.sl x a).keep hb,h.cp⟩
theorem qK.at_{L:List Tm}(h:qK w A L)(hi:i<L.length):∃b off,A=some ⟨b,off,none⟩/\w.cell? ⟨b,off+i *5,none⟩=some (.int .i64 L[i].t.co)/\w.cell? ⟨b,off+i *5+1,none⟩=some (.int .i64 L[i].t.pe)/\w.cell? ⟨b,off+i *5+2,none⟩=some (.int .i64 L[i].t.de)/\w.cell? ⟨b,off+i *5+3,none⟩=some (.slice L[i].A L[i].t.se.length L[i].c)/\w.cell? ⟨b,off+i *5+4,none⟩=some (.int .i64 L[i].t.po):=by
 obtain⟨b,off,a,hc⟩:=h.o.at_ hi;exact⟨b,off,a,by simpa using hc 0 _ (show(pI L[i])[0]?=some (.int .i64 L[i].t.co) from rfl),by simpa[abD] using hc 1 _ (show(pI L[i])[1]?=some (.int .i64 L[i].t.pe) from rfl),by simpa[abD] using hc 2 _ (show(pI L[i])[2]?=some (.int .i64 L[i].t.de) from rfl),by simpa[abD] using hc 3 _ (show(pI L[i])[3]?=some (.slice L[i].A L[i].t.se.length L[i].c) from rfl),by simpa[abD] using hc 4 _ (show(pI L[i])[4]?=some (.int .i64 L[i].t.po) from rfl)⟩
theorem Xh:jS prog 291 122 3 24:=fU (z:= .agg #[aU,aU,aU]) underlying291 aV (by simp[Value.cells]) aQ
theorem VG{L:List Tm}(h:qK w A L)(hl:L.length<=20)(c:Nat):
 aG prog 125 #[(A,L.length,c)] w λe w'=>∃B d,e= .returned (.slice B L.length d)/\Sl BB 3 w' B (L.map Tm.t)/\aD w w w':=by
 have D:=aP h;clear h;go_enter func125,ntmps125
 go_wp2_with fail
 go_loopw [3,5,8] (λv3 _ v8 wr=>∃k:Nat,k<=L.length/\v8= .int .i64 k/\(∃B d,v3= .slice B k d/\aH (bI BB 3 wr w.heap.size 122 B d ((L.take k).map Tm.t)))/\aH (aD w w wr)) (λ_ _ v8 _=>L.length - (aL v8).toNat)
 case atStart=>exact⟨0,aaH _,rfl,⟨none,0,rfl,bI.nil _ _ _⟩,Below.refl _ _⟩
 case round=>
  obtain⟨k,hk,rfl,⟨B,d,rfl,l⟩,g⟩:=hrel;by_cases i:k<L.length
  .obtain⟨b,off,rfl,t0,t1,t2,t3,t4⟩:=(D.o.keep g.o).at_ i;have H:(0:Int)<=k:=aQ;have I:(k:Int)<(L.length:Int):=aQ;have E:aH ((L.take (k+1)).map Tm.t=(L.take k).map Tm.t++ [L[k].t]):=by unfold aH;rw[<-aa3 i,adU];rfl
   have q:((L.take k).map Tm.t).length=k:=bT;generalize L[k]=x at *;have p:=bF.new wr 125 #[x.t.co,x.t.pe,x.t.de,(x.A,x.t.se.length,x.c),x.t.po];have d0:=p.cell 0 _ rfl;have d1:=p.cell 1 _ rfl;have d2:=p.cell 2 _ rfl;have a:aH (bI BB 3 (wr.alloc (aI #[x.t.co,x.t.pe,x.t.de,(x.A,x.t.se.length,x.c),x.t.po] 125)) w.heap.size 122 B d ((L.take k).map Tm.t)/\aD w w (wr.alloc (aI #[x.t.co,x.t.pe,x.t.de,(x.A,x.t.se.length,x.c),x.t.po] 125))):=⟨l.o.alloc _,g.o.alloc g.o.size _⟩
   clear l g p;go_upto_region 5 with(fail)
   generalize wr.alloc (aI #[x.t.co,x.t.pe,x.t.de,(x.A,x.t.se.length,x.c),x.t.po] 125)=F at *;clear t0 t1 t2 t3 t4;have jA:=a.o.2.size;go_wp2_with(at_builtin;refine bP _ rfl _ _ rfl Xh PD (a.o.1.alloc _) (n:=k) q rfl (m:=1) rfl (ys:= [x.t]) rfl (Sl.new PD F x.t _ rfl _) dI aQ bT _ rfl (k+1) rfl ?_;intro A6 c6 z f j s)
   have u:aH (aD w w z):=(a.o.2.alloc jA _).grown j bT (λr G=>(a.o.1.lt r G).1);have v:aH (bI BB 3 z w.heap.size 122 A6 c6 ((L.take (k+1)).map Tm.t)):=by rw[E.o];exact f
   clear f j s a d0 d1 d2;refine⟨⟨k+1,aQ,rfl,⟨A6,c6,rfl,v.o⟩,u.o⟩,by simp only[aL];omega⟩
  .obtain rfl:k=L.length:=aQ;have C:L.take L.length=L:=aaS (Zw _);have y:aH (Sl BB 3 wr B (L.map Tm.t)):=by have:=l.o.sl PD;rw[C] at this;exact this
   clear C l;go_wp2_with fail
   go_ret
   exact⟨_,_,rfl,y.o,g.o⟩
def mN(L:List Tk)(od:Int):List Int:=if od=1 then uT (λp=>(L.getD p nB).pe) L.length else uT (λp=>(L.getD p nB).de) L.length
theorem R8(L:List Tk)(od:Int):(mN L od).length=L.length:=by unfold mN;split <;> exact RM _ _
theorem UZ(L:List Tk)(od:Int):∀x∈mN L od,0<=x/\x<L.length:=by unfold mN;split <;> exact My _ _
theorem SL{L:List Tm}(h:qK w A L)(hl:L.length<=20)(c:Nat)(od:Int):
 aG prog 86 #[(A,L.length,c),od] w λe w'=>∃B d,e= .returned (.slice B L.length d)/\Sl eI 1 w' B (mN (L.map Tm.t) od)/\aD w w w'/\N3 w B:=by
 have l:=aP (VG h hl c);clear h;by_cases h1:od=1
 .have o1:(od==1)=true:=by simpa using h1
  have g:aH (mN (L.map Tm.t) od=uT (λp=>((L.map Tm.t).getD p nB).pe) (L.map Tm.t).length):=Zz h1;clear h1;go_enter func86,ntmps86
  go_wp2_with fail
  refine aR l ?_;rintro e n ⟨B,d,rfl,hs,hb⟩;have f:=aP (Pp hs (by simpa using hl) d);rw[abB] at f;have a:=aP hb;clear hs hb l;go_wp2_with fail
  refine aR f ?_;rintro e i ⟨j,d3,rfl,hs,hb,k⟩;have m:aH (Sl eI 1 i j (mN (L.map Tm.t) od)/\aD w w i/\N3 w j):=⟨by rw[g.o,abB];exact hs,a.o.trans (hb.mono a.o.size),λb hb=>aaC a.o.size (k b hb)⟩
  clear hs hb k f a g;go_wp2_with fail
  go_ret
  exact⟨_,_,rfl,m.o⟩
 .have o1:(od==1)=false:=by simpa using h1
  have g:aH (mN (L.map Tm.t) od=uT (λp=>((L.map Tm.t).getD p nB).de) (L.map Tm.t).length):=aaA h1;clear h1;go_enter func86,ntmps86
  go_wp2_with fail
  refine aR l ?_;rintro e n ⟨B,d,rfl,hs,hb⟩;have f:=aP (Oz hs (by simpa using hl) d);rw[abB] at f;have a:=aP hb;clear hs hb l;go_wp2_with fail
  refine aR f ?_;rintro e i ⟨j,d3,rfl,hs,hb,k⟩;have m:aH (Sl eI 1 i j (mN (L.map Tm.t) od)/\aD w w i/\N3 w j):=⟨by rw[g.o,abB];exact hs,a.o.trans (hb.mono a.o.size),λb hb=>aaC a.o.size (k b hb)⟩
  clear hs hb k f a g;go_wp2_with fail
  go_ret
  exact⟨_,_,rfl,m.o⟩
end
theorem Ti:jS prog 123 199 3 24:=fU (z:= .agg #[aU,aU,aU]) underlying123 aV (by simp[Value.cells]) aQ
theorem Dw:jS prog 102 125 5 56:=fU (z:= .agg #[aU,aU,aU,bH,aU]) underlying102 aV (by simp[Value.cells]) aQ
theorem Sn:jS prog 34 75 1 8:=fU (z:= .int .u64 0) underlying34 aV rfl aQ
def xV{α:Type}(enc:α->List aC)(sz:Nat)(e:TypeId)(L:List α)(w:aA)(r:Ending)(w':aA):Prop:=∃(B:Option aJ) (d:Nat),r= .returned (.slice B L.length d)/\bI enc sz w' w e B d L/\aD w w w'
theorem P2(A:Option aJ)(L:List Sc)(c:Nat)(w:aA)(h:Sl lP 3 w A L)(hl:L.length<=4000000000):
 aG prog 53 #[(A,L.length,c)] w (xV lP 3 199 L w):=by
 cases A with
 |none=>
  have e:L= []:=by
   cases L with
   |nil=>rfl
   |cons x xs=>obtain⟨_,_,f,_⟩:=h aT;cases f
  subst e;simp only[abM];have hq:=λw=>Lib.run_eql_slice_nil (P:=prog) w 123 199 none 0 c 0 0 underlying123
  clear h;go_enter func53,ntmps53
  go_wp2_with fail
  go_ret
  exact⟨none,0,rfl,bI.nil _ _ _,Below.refl _ _⟩
 |some a=>
  have g:=λw=>Lib.run_eql_slice_nil (P:=prog) w 123 199 (some a) L.length c 0 0 underlying123
  go_enter func53,ntmps53
  go_wp2_with(at_builtin;refine bP _ rfl _ _ rfl Ti BR (bI.empty w 199 (base:=w.heap.size) (Zw _)) (n:=0) rfl rfl (m:=L.length) rfl (ys:=L) rfl (h.alloc _) dI aQ aT _ rfl L.length aT ?_;intro i j o b d l;simp only[adF] at b)
  go_ret
  exact⟨i,j,rfl,b,(aX _ _).grown d aT (λk hk=>by simp[aY] at hk;omega)⟩
theorem Gp(A:Option aJ)(L:List Tm)(c:Nat)(w:aA)(h:Sl pI 5 w A L)(hl:L.length<=4000000000):
 aG prog 68 #[(A,L.length,c)] w (xV pI 5 125 L w):=by
 cases A with
 |none=>
  have e:L= []:=by
   cases L with
   |nil=>rfl
   |cons x xs=>obtain⟨_,_,f,_⟩:=h aT;cases f
  subst e;simp only[abM];have hq:=λw=>Lib.run_eql_slice_nil (P:=prog) w 102 125 none 0 c 0 0 underlying102
  clear h;go_enter func68,ntmps68
  go_wp2_with fail
  go_ret
  exact⟨none,0,rfl,bI.nil _ _ _,Below.refl _ _⟩
 |some a=>
  have g:=λw=>Lib.run_eql_slice_nil (P:=prog) w 102 125 (some a) L.length c 0 0 underlying102
  go_enter func68,ntmps68
  go_wp2_with(at_builtin;refine bP _ rfl _ _ rfl Dw lK (bI.empty w 125 (base:=w.heap.size) (Zw _)) (n:=0) rfl rfl (m:=L.length) rfl (ys:=L) rfl (h.alloc _) dI aQ aT _ rfl L.length aT ?_;intro i j o b d l;simp only[adF] at b)
  go_ret
  exact⟨i,j,rfl,b,(aX _ _).grown d aT (λk hk=>by simp[aY] at hk;omega)⟩
theorem He(A:Option aJ)(L:List Ev)(c:Nat)(w:aA)(h:Sl qW 4 w A L)(hl:L.length<=4000000000):
 aG prog 120 #[(A,L.length,c)] w (xV qW 4 165 L w):=by
 cases A with
 |none=>
  have e:L= []:=by
   cases L with
   |nil=>rfl
   |cons x xs=>obtain⟨_,_,f,_⟩:=h aT;cases f
  subst e;simp only[abM];have hq:=λw=>Lib.run_eql_slice_nil (P:=prog) w 162 165 none 0 c 0 0 underlying162
  clear h;go_enter func120,ntmps120
  go_wp2_with fail
  go_ret
  exact⟨none,0,rfl,bI.nil _ _ _,Below.refl _ _⟩
 |some a=>
  have g:=λw=>Lib.run_eql_slice_nil (P:=prog) w 162 165 (some a) L.length c 0 0 underlying162
  go_enter func120,ntmps120
  go_wp2_with(at_builtin;refine bP _ rfl _ _ rfl Si wQ (bI.empty w 165 (base:=w.heap.size) (Zw _)) (n:=0) rfl rfl (m:=L.length) rfl (ys:=L) rfl (h.alloc _) dI aQ aT _ rfl L.length aT ?_;intro i j o b d l;simp only[adF] at b)
  go_ret
  exact⟨i,j,rfl,b,(aX _ _).grown d aT (λk hk=>by simp[aY] at hk;omega)⟩
theorem Og(A:Option aJ)(L:List Int)(c:Nat)(w:aA)(h:Sl eU 1 w A L)(hl:L.length<=4000000000):
 aG prog 72 #[(A,L.length,c)] w (xV eU 1 75 L w):=by
 cases A with
 |none=>
  have e:L= []:=by
   cases L with
   |nil=>rfl
   |cons x xs=>obtain⟨_,_,f,_⟩:=h aT;cases f
  subst e;simp only[abM];have hq:=λw=>Lib.run_eql_slice_nil (P:=prog) w 34 75 none 0 c 0 0 underlying34
  clear h;go_enter func72,ntmps72
  go_wp2_with fail
  go_ret
  exact⟨none,0,rfl,bI.nil _ _ _,Below.refl _ _⟩
 |some a=>
  have g:=λw=>Lib.run_eql_slice_nil (P:=prog) w 34 75 (some a) L.length c 0 0 underlying34
  go_enter func72,ntmps72
  go_wp2_with(at_builtin;refine bP _ rfl _ _ rfl Sn xS (bI.empty w 75 (base:=w.heap.size) (Zw _)) (n:=0) rfl rfl (m:=L.length) rfl (ys:=L) rfl (h.alloc _) dI aQ aT _ rfl L.length aT ?_;intro i j o b d l;simp only[adF] at b)
  go_ret
  exact⟨i,j,rfl,b,(aX _ _).grown d aT (λk hk=>by simp[aY] at hk;omega)⟩
section
def sQ(P:List Int)(n k:Nat):List Int:=(List.range k).foldl (λR i=>R.set (P.getD i 0).toNat (i:Int)) (List.replicate n 0)
theorem K8(P:List Int)(n k:Nat):sQ P n (k+1)=(sQ P n k).set (P.getD k 0).toNat (k:Int):=by unfold sQ;rw[acV,acC];rfl
theorem DR(P:List Int)(n:Nat):∀k,(sQ P n k).length=n
 |0=>by simp[sQ]
 |k+1=>by rw[K8,aaL];exact DR P n k
def sM(L:List Tk)(od:Int):List Int:=sQ (mN L od) L.length L.length
theorem CD(L:List Tk)(od:Int):(sM L od).length=L.length:=DR _ _ _
theorem JO{L:List Tm}(h:qK w A L)(hl:L.length<=20)(c:Nat)(od:Int):
 aG prog 51 #[(A,L.length,c),od] w λe w'=>∃q,e= .returned (.slice (some ⟨q,0,none⟩) L.length L.length)/\bI eI 1 w' w.heap.size 3 (some ⟨q,0,none⟩) L.length (sM (L.map Tm.t) od)/\aD w w w':=by
 obtain⟨i0,M,N,O,Q⟩:=info_parts IF;have Y:=aP h;clear h;go_enter func51,ntmps51
 go_wp2_with(at_make;refine wpList_make_full _ rfl _ _ 35 rfl w.heap.size 3 i0 _ 1 underlying35 M N O _ _ _ _ L.length rfl rfl rfl rfl (by rw[Q];omega) dI aT ?_;intro U a z)
 rw[DT] at a;have yD:bI eI 1 U w.heap.size 3 (some ⟨w.heap.size,0,none⟩) L.length (List.replicate L.length 0):=by
  unfold bI;rw[acN];exact a
 have v:aD w w U:=(Below.refl _ _).grown z aT (λk hk=>by cases hk);have V:=aP (SL (Y.o.keep v) hl c od);have C:=bN yD v;clear yD v a z;generalize hq:w.heap.size=q at *;go_wp2_with fail
 refine aR V ?_;rintro e Z ⟨B,d,rfl,D,x,E⟩;have s:=C.o.1.keep x;have F:aH (∀r,some q=some r->aY B≠some r):=λr G e=>by injection G with G;have h1:=E r e;have h2:=(C.o.1.lt q rfl).2;omega
 have I:=aP (And.intro D (And.intro s (C.o.2.trans (x.mono (by have:=C.o.2.size;omega)))));have g:=aP (R8 (L.map Tm.t) od);have i:=aP (UZ (L.map Tm.t) od);have f:aH (sM (L.map Tm.t) od=sQ (mN (L.map Tm.t) od) (L.map Tm.t).length (L.map Tm.t).length):=rfl;clear s D x E V C;obtain⟨P,W⟩:∃P,P=mN (L.map Tm.t) od:=⟨_,rfl⟩
 rw[<-W] at I g i f;rw[abB] at g i f;obtain⟨n,J⟩:∃n,n=L.length:=⟨_,rfl⟩
 rw[<-J] at I g i f hl;rw[<-J];have R:=aP J;clear W J;go_wp2_with fail
 go_loopw [6,7,15] (λ_ _ y wr=>∃k:Nat,k<=n/\y= .int .i64 k/\aH (Sl eI 1 wr B P/\bI eI 1 wr q 3 (some ⟨q,0,none⟩) n (sQ P n k)/\aD q w wr)) (λ_ _ y _=>n - (aL y).toNat)
 case atStart=>exact⟨0,aaH _,rfl,I.o⟩
 case round=>
  clear I;obtain⟨k,hk,rfl,l⟩:=hrel;by_cases S:k<n
  .have k0:(0:Int)<=k:=aQ;have k1:(k:Int)<(n:Int):=aQ;have p:k<P.length:=by rw[g.o];exact S
   obtain⟨b,off,X,c0⟩:=l.o.1.ET p;obtain⟨p0,p1⟩:=i.o P[k] (aaF p);obtain⟨m,hm⟩:=aaB p0;have T:m<n:=aQ;have m0:(0:Int)<=m:=aQ;have m1:(m:Int)<(n:Int):=aQ;obtain⟨r1,r2⟩:=cZ l.o.2.1 m aQ;obtain⟨v0,r1⟩:=ad3.1 r1;have H:m<(sQ P n k).length:=by rw[DR];exact T
   obtain⟨o1,o2⟩:=qO KS l.o.2.1 H (j:=0) aQ (k:Int) (.int .i64 k) rfl;rw[acD,aaU] at o1 o2;have u:(sQ P n k).set m (k:Int)=sQ P n (k+1):=by
    rw[K8,aaI,Zv p];simp[hm]
   rw[u] at o1;have K:aH (Sl eI 1 (wr.setCell ⟨q,m,none⟩ k) B P/\bI eI 1 (wr.setCell ⟨q,m,none⟩ k) q 3 (some ⟨q,0,none⟩) n (sQ P n (k+1))/\aD q w (wr.setCell ⟨q,m,none⟩ k)):=
    ⟨l.o.1.grown o2 F.o,o1,l.o.2.2.grown o2 (by rw[<-hq];exact l.o.2.2.size) (λr G=>by injection G with G;omega)⟩
   rw[hm] at c0;clear l o1 o2 u H p0 p1 p hm;rw[X];rw[X] at K F;go_wp2_with fail
   refine⟨⟨k+1,aQ,rfl,K.o⟩,by simp only[aL];omega⟩
  .obtain rfl:k=n:=aQ;have K:aH (bI eI 1 wr q 3 (some ⟨q,0,none⟩) k (sM (L.map Tm.t) od)/\aD q w wr):=by rw[f.o];exact l.o.2
   clear l f;go_wp2_with fail
   go_ret
   rw[show L.length=k from R.o.symm,hq];exact⟨_,rfl,K.o⟩
def Kc(t:Tk)(lock:Int):Bool:=t.se.any λs=>decide (s.lk=lock)
def AB(L:List Tk)(R:List Int)(lock:Int)(n:Int):Nat->Int
 |0=>n
 |k+1=>if Kc (L.getD k nB) lock then min (AB L R lock n k) (R.getD k 0) else AB L R lock n k
def mT(L:List Tk)(od lock:Int):Int:=AB L (sM L od) lock L.length L.length
theorem Bh{L:List Tm}(h:qK w A L)(hl:L.length<=20)(W:∀x∈L,x.t.se.length<=20)(c:Nat)(od lock:Int):
 aG prog 54 #[(A,L.length,c),od,lock] w λe w'=>e= .returned (.int .i64 (mT (L.map Tm.t) od lock))/\aD w w w':=by
 have X:=aP (JO h hl c od);have Y:=aP h;have H8:=aP W;clear h W;go_enter func54,ntmps54
 go_wp2_with fail
 refine aR X ?_;rintro e w2 ⟨q,rfl,C9,B⟩;have g:=CD (L.map Tm.t) od;rw[abB] at g;have C:aH (mT (L.map Tm.t) od lock=AB (L.map Tm.t) (sM (L.map Tm.t) od) lock L.length L.length):=by unfold aH mT;rw[abB]
 generalize sM (L.map Tm.t) od=R at *;have Z:=bN (C9.sl gK) B;have N:=aP g;clear C9 B X g;go_wp2_with fail
 go_loopw [7,8,9,11,18] (λO _ _ _ j wr=>∃k:Nat,k<=L.length/\j= .int .i64 k/\(∃m:Int,O= .int .i64 m/\aH (AB (L.map Tm.t) R lock L.length k=m))/\aH (Sl eI 1 wr q R/\aD w w wr)) (λ_ _ _ _ j _=>L.length - (aL j).toNat)
 case atStart=>exact⟨0,aaH _,rfl,⟨_,rfl,rfl⟩,Z.o⟩
 case round=>
  clear Z;obtain⟨k,hk,rfl,⟨m,rfl,K⟩,HQ⟩:=hrel;by_cases f:k<L.length
  .have k0:(0:Int)<=k:=aQ;have k1:(k:Int)<(L.length:Int):=aQ;have l:k<R.length:=by rw[N.o];exact f
   obtain⟨b,off,P,c0⟩:=HQ.o.1.ET l;injection P with P;injection P with Q S;subst Q S;rw[aa8] at c0;obtain⟨b,off,T,t0,t1,t2,t3,t4⟩:=(Y.o.keep HQ.o.2).at_ f;have D:=(Y.o.keep HQ.o.2).sl _ (aaF f);have h8x:=H8.o _ (aaF f);have E:aH (AB (L.map Tm.t) R lock L.length (k+1)=if Kc L[k].t lock then min m R[k] else m):=by
    unfold aH;rw[AB,K.o,aaI,acS,Zv f,aaI,Zv l];rfl
   generalize L[k]=x at *;generalize R[k]=r at *;have n:=aP D;have U:=aP T;clear D l t0 t1 t2 t4;rw[T];obtain⟨wz,F⟩:∃z,z=wr:=⟨_,rfl⟩
   rw[<-F] at n HQ;go_upto_region 6 with(fail)
   rw[<-F];clear t3 c0 T;go_loopw [7,11,29] (λO _ p wi=>∃i:Nat,i<=x.t.se.length/\p= .int .i64 i/\(∃u:Int,O= .int .i64 u/\aH (u=if(x.t.se.take i).any (λs=>decide (s.lk=lock)) then min m r else m))/\aH (aD wz wz wi)) (λ_ _ p _=>x.t.se.length - (aL p).toNat)
   case atStart=>exact⟨0,aaH _,rfl,⟨m,rfl,by simp[aH]⟩,Below.refl _ _⟩
   case round=>
    obtain⟨i,hi,rfl,⟨u,rfl,a⟩,v⟩:=hrel;by_cases G:i<x.t.se.length
    .obtain⟨b2,off2,y,s0,s1,s2⟩:=(n.o.keep v.o).K4 G;have i0:(0:Int)<=i:=aQ;have i1:(i:Int)<(x.t.se.length:Int):=aQ;have M:aH ((x.t.se.take (i+1)).any (λs=>decide (s.lk=lock))=((x.t.se.take i).any (λs=>decide (s.lk=lock)) || decide ((x.t.se[i]).lk=lock))):=by
      unfold aH;rw[<-aa3 G,List.any_append];simp
     generalize x.t.se[i]=sv at *;have H:=v.o.alloc v.o.size (aI #[sv.lk,sv.fr,sv.iJ] 199);have x0:=(bF.new wr 199 #[sv.lk,sv.fr,sv.iJ]).cell 0 _ rfl;have I:=aP H;clear H v;rw[y];go_upto_region 8 with(fail)
     generalize wr.alloc (aI #[sv.lk,sv.fr,sv.iJ] 199)=w8 at *;clear s0 s1 s2;by_cases d:sv.lk=lock
     .have he:(sv.lk==lock)=true:=by simpa using d
      have J:aH (min u r=if(x.t.se.take (i+1)).any (λs=>decide (s.lk=lock)) then min m r else m):=by
       unfold aH;rw[M.o,a.o];simp only[d,decide_true,Bool.or_true,abI];split <;> omega
      clear d a M;go_wp2_with fail
      try rw[<-y]
      refine⟨⟨i+1,aQ,rfl,⟨_,rfl,J.o⟩,I.o⟩,by simp only[aL];omega⟩
     .have he:(sv.lk==lock)=false:=by simpa using d
      have J:aH (u=if(x.t.se.take (i+1)).any (λs=>decide (s.lk=lock)) then min m r else m):=by
       unfold aH;rw[M.o,a.o];simp only[d,decide_false,Bool.or_false]
      clear d a M;go_wp2_with fail
      try rw[<-y]
      refine⟨⟨i+1,aQ,rfl,⟨_,rfl,J.o⟩,I.o⟩,by simp only[aL];omega⟩
    .obtain rfl:i=x.t.se.length:=aQ;have J:aH (AB (L.map Tm.t) R lock L.length (k+1)=u):=by
      unfold aH;rw[E.o,a.o,aaS (Zw _)];rfl
     have V:aH (Sl eI 1 wr q R/\aD w w wr):=⟨HQ.o.1.keep v.o,HQ.o.2.trans (v.o.mono HQ.o.2.size)⟩
     clear a E v HQ n K;go_wp2_with fail
     try rw[<-U.o]
     refine⟨⟨k+1,aQ,rfl,⟨u,rfl,J.o⟩,V.o⟩,by simp only[aL];omega⟩
  .obtain rfl:k=L.length:=aQ;have HE:aH (mT (L.map Tm.t) od lock=m):=C.o.trans K.o;clear C K;go_wp2_with fail
   go_ret
   rw[HE.o];exact⟨rfl,HQ.o.2⟩
end
end
end Go.Proofs.YtacgiflhgdaeaaaGreat
