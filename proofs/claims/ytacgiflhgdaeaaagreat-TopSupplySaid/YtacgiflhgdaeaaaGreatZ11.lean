/- Texts laid as one. -/
import Derived.Shelf.GgSortMore.Stable
import Derived.Ground.GgtProg
import Derived.Shelf.Abstract
import Derived.Deep.QuietTactic
import Derived.BigQuiet
import Derived.OwnWalk
import Derived.Test.YtacgiflhgdaeaaaGreatZ1
import Derived.Test.YtacgiflhgdaeaaaGreatZ2
import Derived.Test.YtacgiflhgdaeaaaGreatZ8
import Derived.Test.YtacgiflhgdaeaaaGreatZ10
set_option linter.unusedVariables false
set_option linter.unusedSimpArgs false
set_option maxRecDepth 100000
set_option maxHeartbeats 20000000
namespace Go.Proofs.YtacgiflhgdaeaaaGreat
open Go.Proofs.Tryz
open Go renaming World->aA,Value->aC,Addr->aJ,Calls->aG
open Go.RowKit renaming Below->aD,Hid->aH,intOf->aL
open Go.Obj renaming cells->aI
section
open Go.RowKit Go.Lib Go.Shelf
variable{x:Lb}{sb nb:Nat->Nat}{K m n g i:Nat}{F:Nat->Prop}{w:aA}{y:La}
section
theorem eA.SG{e:Nat}(h:eA x sb nb K m e)(h1:∀i,sb i<=n)(c:∀i,nb i<=n)(k:K<=n)(l:m<=n):IV x n e:=
 ⟨h.lr,h.ls,h.ln,h.lw,h.n,λt a=>⟨(h.tk t a).co.1,(h.tk t a).co.2,(h.tk t a).pe.1,(h.tk t a).pe.2,(h.tk t a).de.1,(h.tk t a).de.2,(h.tk t a).se,(h.tk t a).po.1,(h.tk t a).po.2⟩,h.nw.1,h.nw.2,
  λs hs=>by
   obtain⟨i,hi,rfl⟩:=aa2 hs;exact(h.sk i _ (aaG hi)).mono (h1 i),
  λv d=>by
   obtain⟨i,hi,rfl⟩:=aa2 d;have:=h.nk i _ (aaG hi);have:=c i;omega,
  by have:=h.jl;omega,λj f=>by
   have h1:=h.jk j f;have b:=h1.tk;have a2:=h1.ra;have a3:=h1.lf;have a4:=h1.ca;have a5:=h1.de;have g:=h1.rs;have o:=h.nw;exact⟨b.1,b.2,a2.1,a2.2,aQ,a3.2,a4.1,aQ,a5.1,aQ,g.1,aQ⟩,h.lg⟩
theorem bP.Tz(h:bP F w g x y):y.a.length=x.sh.length:=by
 obtain⟨b,h1⟩:=h.o;have hs:EI (Fo w b 5) w y.a x.sh:=h1.get 4 (p:=OB y.a x.sh) rfl;exact hs.len
theorem Qs{s:iY}{n:Int}(h:(l6 s n).2=false):(l6 s n).1=s:=by
 unfold l6 at *;split
 .rfl
 .rename_i hc;rw[aaL hc] at h;cases h
theorem X5(hi:i<x.sh.length):dX x i (jA x i)=x:=by
 have:x.sh.set i (jA x i)=x.sh:=by
  unfold jA;rw[aaW,aaU,aaG hi];simp
 unfold dX;rw[aaW,this]
def qY(x:Lb)(o:Option Nat):Int×Int:=match o with
 |none=>(-1,0)
 |some i=>((dN x i).tk,(dN x i).nu)
def Y0(F:Nat->Prop)(g:Nat)(x:Lb)(given:Bool)(w:aA)(e:Ending)(w':aA):Prop:=e= .returned (.tuple #[.int .i64 (qY x (oM x given)).1, .int .i64 (qY x (oM x given)).2,true])/\(∃y',bP F w' g (jF x given) y')/\Kp F w w'
theorem Cx(h:bP F w g x y){k:Nat}(hI:lN x k)(hk:k<=2800)(hn:x.nw<1048576)(given:Bool):
 aG prog 28 #[.pointer g,given] w (Y0 F g x given w):=by
 have t:=h.c 11 (.int .i64 x.nw) rfl;have HL:=aP h;have HI:=aP hI;have HN:aH (x.nw<1048576):=hn;have n0:=hI.nw.1;clear h hI;go_enter func28,ntmps28
 go_upto_if 21 with(fail)
 go_cut [7] (λs7 wx=>∃o,s7= .int .i64 (uE o)/\aH (oM x given=o)/\aD w w wx)
 case first=>
  cases given
  .have HE:aH (oM x false=none):=rfl;go_wp2_with fail
   go_meet
   exact⟨none,rfl,HE,Below.refl _ _⟩
  .have HE:aH (oM x true=nF x):=rfl;have R:=aP (NX HL.o HI.o.SG aQ);go_wp2_with fail
   refine aR R ?_;rintro e w2 ⟨rfl,C⟩;have HB:=aP C;clear C R;go_wp2_with fail
   go_meet
   exact⟨_,rfl,HE.o,HB.o⟩
 case rest=>
 obtain⟨o,rfl,HO,z⟩:=hcut;have a1:aH (∀i,o=some i->i<x.jb.length):=λi hi=>by
  have h1:=HO.o;rw[hi] at h1;unfold oM at h1;split at h1
  .exact QC h1
  .cases h1
 have h2:=HL.o.below z;have H2:=bH h2 (HL.o.fl.below z);replace t:=h2.c 11 (.int .i64 x.nw) rfl;clear h2 z HL;generalize wc=w2 at *;go_upto_if 25 with(fail)
 go_cut [4,5] (λs4 s5 wx=>s4= .int .i64 (qY x o).1/\s5= .int .i64 (qY x o).2/\aD w2 w2 wx)
 case first=>
  cases o with
  |none=>
   rw[show uE none= -1 from rfl];go_wp2_with fail
   go_meet
   exact⟨rfl,rfl,Below.refl _ _⟩
  |some i=>
   have hi:=a1.o i rfl;obtain⟨q,hq,U⟩:=H2.o.1.l9 hi;have u:=H2.o.1.c 15 (.slice y.J x.jb.length y.cJ) rfl;rw[hq] at u;have c0:=U.c0;have c1:=U.c1;have i0:(0:Int)<=i:=aQ;have i1:(i:Int)<(x.jb.length:Int):=aQ;rw[show uE (some i)=(i:Int) from rfl];clear hq U hi;go_upto_region 8 with(fail)
   go_quiet (fail)
   go_wp2_with fail
   go_meet
   exact⟨rfl,rfl,fC _ _⟩
 case rest=>
 obtain⟨rfl,rfl,z⟩:=hcut;have h3:=H2.o.1.below z;have t:=h3.c 11 (.int .i64 x.nw) rfl;have f11:=h3.bk.frozen 11;have h4:=h3.now (x.nw+1);have H4:=aP (And.intro h4.1 ((H2.o.2.trans (H2.o.1.fl.below z)).trans h4.2));clear h3 h4 z H2;generalize wc=w3 at *;go_upto_if 52 with(fail)
 generalize w3.setCell (g,11) (.int .i64 (x.nw+1))=w4 at *;clear t f11;go_cut [] (λwx=>∃l,bP F wx g (sM x given) l/\Kp F w wx)
 case first=>
  cases o with
  |none=>
   have M:aH (sM x given={x with nw:=x.nw+1}):=by unfold aH sM;rw[HO.o]
   rw[show uE none= -1 from rfl];go_wp2_with fail
   go_meet
   rw[M.o];exact⟨_,H4.o⟩
  |some i=>
   have M:aH (sM x given=tR {x with nw:=x.nw+1} i):=by unfold aH sM;rw[HO.o]
   have hi:=a1.o i rfl;have R:=aP (Fa H4.o.1 (k:=k) (eA.up HI.o HN.o) aQ (i:=i) hi);rw[show uE (some i)=(i:Int) from rfl];go_wp2_with fail
   refine aR R ?_;rintro e w5 ⟨rfl,⟨y5,h5⟩,k5⟩;have H5:=bH h5 (H4.o.2.trans k5);clear h5 k5 R;go_wp2_with fail
   go_meet
   rw[M.o];exact⟨_,H5.o⟩
 case rest=>
 obtain⟨l,h5,k5⟩:=hcut;have D:=aP (lN.dL HI.o HN.o given);have HTK:aH (jF x given=eQ (eX (sM x given) (sM x given).jb.length) x.ts.length):=rfl;obtain⟨X,hX⟩:∃X,X=sM x given:=⟨_,rfl⟩
 rw[<-hX] at h5 D HTK;obtain⟨m,hm⟩:∃m,m=X.jb.length:=⟨_,rfl⟩
 have M:=aP hm;have u:=h5.c 15 (.slice l.J X.jb.length l.cJ) rfl;rw[<-hm] at u;have hml:m<=100000:=by have:=D.o.1.jl;omega
 have H5:=bH h5 k5;clear h5 k5 H4 a1 hX hm n0;generalize wc=w5 at *;go_upto_region 13 with(fail)
 go_loopw [61] (λv61 wr=>∃j:Nat,j<=m/\v61= .int .i64 j/\∃A c,aH (bP F wr g (eX X j) {l with G:=A,cG:=c}/\Kp F w wr)) (λv61 _=>m - (aL v61).toNat)
 case atStart=>exact⟨0,aaQ _,rfl,l.G,l.cG,H5.o⟩
 case round=>
  obtain⟨j,hj,rfl,A,c,p⟩:=hrel;clear u;by_cases N:j<m
  .have hl:=(uG X j).1;rw[<-M.o] at hl;obtain⟨q,hq,U⟩:=p.o.1.l9 (n:=j) (by rw[hl];exact N);have u:=p.o.1.c 15 (.slice l.J (eX X j).jb.length l.cJ) rfl;have t:=p.o.1.c 11 (.int .i64 (eX X j).nw) rfl;rw[hl] at u;rw[show l.J=some ⟨q,0,none⟩ from hq] at u;have HLG:aH ((eX X j).lg.length<=3000000000):=by
    have h1:=(D.o.1.PM j (by have:=M.o;omega)).lg;unfold aH;omega
   have hjl:j<(eX X j).jb.length:=aQ;have O:aH (eX X (j+1)=if(dN (eX X j) j).bh=false/\(dN (eX X j) j).lt=false/\(dN (eX X j) j).de<=(eX X j).nw then iK (cC (eX X j) j {dN (eX X j) j with lt:=true}) 6 {dN (eX X j) j with lt:=true} else eX X j):=rfl;have HQ:aH (l.J=some ⟨q,0,none⟩):=hq;have HJL:aH (j<(eX X j).jb.length):=hjl;generalize eX X j=Z at *;have c3:=U.c3;have c8:=U.c8;have vD:=U.vD;obtain⟨W,hjv⟩:∃W,W=dN Z j:=⟨_,rfl⟩
   rw[<-hjv] at c3 c8 vD O;have HJV:=aP hjv;have j0:(0:Int)<=j:=aQ;have j1:(j:Int)<(m:Int):=aQ;clear hq U hl hjl hjv;cases C:W.bh
   .rw[C] at c8;cases r:W.lt
    .rw[r] at vD;by_cases hde:W.de<=Z.nw
     .have HE:aH (eX X (j+1)=iK (cC Z j {W with lt:=true}) 6 {W with lt:=true}):=O.o.trans (aaK ⟨C,r,hde⟩);clear O C r;go_upto_region 16 with(fail)
      go_quiet (fail)
      have H:=p.o.1.below (fC wr nq);have k7:=p.o.2.trans (p.o.1.fl.below (fC wr nq));have f10:=H.wO (i:=j) HQ.o HJL.o (f:=10) aQ;have hx:=H.ED (i:=j) HQ.o HJL.o (f:=10) aQ {W with lt:=true} (.bool true) (by rw[<-HJV.o];rfl);have a10:=hx.1.qG HQ.o HJL.o;have HB:=aP (wV hx.1 6 a10.c0 a10.c1 (by show Z.lg.length<=_;exact HLG.o));have HK:=aP (k7.trans hx.2);have c10':(wr.drewN nq).cell? (q,j *11+10)=some (.bool false):=vD;clear t u c3 c8 vD H k7 hx a10 p HLG;generalize wr.drewN nq=wz at *;go_wp2_with fail
      refine aR HB ?_;rintro e w8 ⟨rfl,⟨A8,c9,h8⟩,k8⟩;have s:aH (bP F w8 g (eX X (j+1)) {l with G:=A8,cG:=c9}/\Kp F w w8):=by rw[HE.o];exact⟨h8,HK.o.trans k8⟩
      clear h8 k8 HB HE;go_wp2_with fail
      refine⟨⟨j+1,aQ,rfl,A8,c9,s.o⟩,by simp only[aL];omega⟩
     .have s:aH (bP F wr g (eX X (j+1)) {l with G:=A,cG:=c}/\Kp F w wr):=by rw[O.o,aaL (λh=>hde h.2.2)];exact p.o
      clear O p C r;go_upto_region 16 with(fail)
      go_quiet (fail)
      go_wp2_with fail
      refine⟨⟨j+1,aQ,rfl,A,c,s.o.1.below (fC _ _),s.o.2.trans (s.o.1.fl.below (fC _ _))⟩,by simp only[aL];omega⟩
    .have s:aH (bP F wr g (eX X (j+1)) {l with G:=A,cG:=c}/\Kp F w wr):=by rw[O.o,aaL (λh=>by rw[r] at h;exact absurd h.2.1 aT)];exact p.o
     rw[r] at vD;clear O p C r;go_upto_region 16 with(fail)
     go_quiet (fail)
     go_wp2_with fail
     refine⟨⟨j+1,aQ,rfl,A,c,s.o.1.below (fC _ _),s.o.2.trans (s.o.1.fl.below (fC _ _))⟩,by simp only[aL];omega⟩
   .have s:aH (bP F wr g (eX X (j+1)) {l with G:=A,cG:=c}/\Kp F w wr):=by rw[O.o,aaL (λh=>by rw[C] at h;exact absurd h.1 aT)];exact p.o
    rw[C] at c8;clear O p C;go_upto_region 16 with(fail)
    go_quiet (fail)
    go_wp2_with fail
    refine⟨⟨j+1,aQ,rfl,A,c,s.o.1.below (fC _ _),s.o.2.trans (s.o.1.fl.below (fC _ _))⟩,by simp only[aL];omega⟩
  .obtain rfl:j=m:=aQ;have HD:=aP (eA.PM D.o.1 j (by have:=M.o;omega));have hlt':¬(j:Int)<(j:Int):=aQ;have B:aH (jF x given=eQ (eX X j) x.ts.length):=by rw[HTK.o,<-M.o];exact rfl
   have I:aH ((eX X j).ts.length=x.ts.length):=by unfold aH;rw[(uG X j).2];exact D.o.2
   obtain⟨Y,hY⟩:∃Y,Y=eX X j:=⟨_,rfl⟩
   rw[<-hY] at p HD B I;have hsl:Y.sh.length=x.ts.length:=by have:=HD.o.ls;have:=I.o;omega
   have e12:=p.o.1.c 12 (.slice l.S l.a.length l.cS) rfl;have hal:=p.o.1.Tz;rw[show l.a.length=x.ts.length from hal.trans hsl] at e12;have htl:x.ts.length<=8:=by have:=HI.o.n;omega
   obtain⟨T,hT⟩:∃T,T=x.ts.length:=⟨_,rfl⟩
   rw[<-hT] at e12 htl B I;clear hY hsl hal hT HTK D M t H5;go_upto_region 21 with(fail)
   go_loopw [107] (λv107 wr=>∃i:Nat,i<=T/\v107= .int .i64 i/\∃J cJ G cG,aH (bP F wr g (eQ Y i) {l with J:=J,cJ:=cJ,G:=G,cG:=cG}/\Kp F w wr)) (λv107 _=>T - (aL v107).toNat)
   case atStart=>exact⟨0,aaQ _,rfl,l.J,l.cJ,A,c,p.o⟩
   case round=>
    clear p e12 hlt' N hj;obtain⟨i,hi,rfl,J,cJ,G,cG,p⟩:=hrel;by_cases N:i<T
    .have K:=aP (eA.Hi (aaH _) HD.o i (by have:=I.o;omega));have E:i<(eQ Y i).ts.length:=by rw[(GV Y i).1,I.o];exact N
     obtain⟨hs1,e1,P⟩:=K.o.rK E;rw[aaL (acA i)] at P;obtain⟨qS,a,hS,x0,hsh,hlen,eV⟩:=p.o.1.XO K.o.ls E;have hS':l.S=some ⟨qS,0,none⟩:=hS;have R:=Ep (jA (eQ Y i) i) (eQ Y i).nw a (k+1) wr hsh P aQ;have HKC:=(eA.CY K.o i (SI (now:=(eQ Y i).nw) P))
     have HSL:aH ((l6 (jA (eQ Y i) i) (eQ Y i).nw).2=false->dX (eQ Y i) i (l6 (jA (eQ Y i) i) (eQ Y i).nw).1=eQ Y i):=λh=>by
      rw[Qs h];exact X5 (by rw[K.o.ls];exact E)
     have hDS:eQ Y (i+1)=if(l6 (jA (eQ Y i) i) (eQ Y i).nw).2 then sV (dX (eQ Y i) i (l6 (jA (eQ Y i) i) (eQ Y i).nw).1) i ((eQ Y i).wt.getD i 0) else eQ Y i:=rfl
     have hwl:i<(eQ Y i).wt.length:=by rw[K.o.lw];exact E
     have t:=p.o.1.c 11 (.int .i64 (eQ Y i).nw) rfl;have Q:=aP hDS;have HTU:=aP eV;have HCC:=aP R;have HKW:=aP (HKC.SG (n:=8 *k+100) (λj=>by split <;> (try split) <;> omega) (λj=>by split <;> omega) aQ aQ);have HLI:aH (1000000 *k+1+j+i<=3000000000):=by unfold aH;omega
     have HIT:aH (i<(eQ Y i).ts.length/\i<(eQ Y i).wt.length):=⟨E,hwl⟩
     clear hDS eV R HKC E hwl hlen hS hsh P e1 hs1;generalize C:(l6 (jA (eQ Y i) i) (eQ Y i).nw).2=b at *;generalize (l6 (jA (eQ Y i) i) (eQ Y i).nw).1=s' at *;generalize eQ Y i=Z at *;have i0:(0:Int)<=i:=aQ;have i1:(i:Int)<(T:Int):=aQ;clear C;rw[hS'];go_wp2_with fail
     refine aR HCC ?_;rintro e w6 ⟨rfl,hs6,hg6⟩;obtain⟨H,k7⟩:=HTU.o w6 s' hs6 hg6;cases b
     .rw[HSL.o rfl] at H;have s:aH (bP F w6 g (eQ Y (i+1)) {l with J:=J,cJ:=cJ,G:=G,cG:=cG}/\Kp F w w6):=by rw[Q.o];exact⟨H,p.o.2.trans k7⟩
      clear H k7 hs6 hg6 HCC HTU Q HSL HKW x0 t;go_wp2_with fail
      rw[hS'] at s;refine⟨⟨i+1,aQ,rfl,J,cJ,G,cG,s.o⟩,by simp only[aL];omega⟩
     .obtain⟨qV,hV,r0⟩:=H.wait (n:=i) (by exact HIT.o.2);have e14:=H.c 14 (.slice l.V (dX Z i s').wt.length l.cV) rfl;rw[show l.V=some ⟨qV,0,none⟩ from hV] at e14;have hwl:(i:Int)<((dX Z i s').wt.length:Int):=by have:=HIT.o.2;show(i:Int)<(Z.wt.length:Int);omega
      have HCM:=aP (LQ H HKW.o aQ HLI.o (i:=i) HIT.o.1 (Z.wt.getD i 0));have HKK:=aP (p.o.2.trans k7);have L:aH (eQ Y (i+1)=sV (dX Z i s') i (Z.wt.getD i 0)):=Q.o.trans (aaK rfl);have r0':w6.cell? ⟨qV,i,none⟩=some (.int .i64 (Z.wt.getD i 0)):=r0;obtain⟨d,hd⟩:∃d,d=Z.wt.getD i 0:=⟨_,rfl⟩
      rw[<-hd] at HCM L r0';clear H k7 hs6 hg6 HCC HTU Q HSL HKW x0 t hV p r0 hd;go_wp2_with fail
      refine aR HCM ?_;rintro e w8 ⟨rfl,⟨J8,cJ8,G8,cG8,h8⟩,k8⟩;have s:aH (bP F w8 g (eQ Y (i+1)) {l with J:=J8,cJ:=cJ8,G:=G8,cG:=cG8}/\Kp F w w8):=by rw[L.o];exact⟨h8,HKK.o.trans k8⟩
      clear h8 k8 HCM HKK L;go_wp2_with fail
      rw[hS'] at s;refine⟨⟨i+1,aQ,rfl,J8,cJ8,G8,cG8,s.o⟩,by simp only[aL];omega⟩
    .obtain rfl:i=T:=aQ;have s:aH (bP F wr g (jF x given) {l with J:=J,cJ:=cJ,G:=G,cG:=cG}/\Kp F w wr):=by rw[B.o];exact p.o
     clear p B HD;go_wp2_with fail
     refine bodyPost_ret (v:= .tuple #[.int .i64 (qY x o).1, .int .i64 (qY x o).2,true]) (by simp[results,results28,go_sem]) rfl ?_;unfold Y0;rw[HO.o];exact⟨rfl,⟨_,s.o.1⟩,s.o.2⟩
end
end
section
open Go.Shelf
def R4:Go.Shelf.Ren:=⟨λ|8=>226|13=>256|14=>257|16=>259|15=>258|29=>289|30=>290|42=>299|49=>309|n=>n,λ|20=>20|26=>356|36=>443|0=>0|38=>205|42=>448|3=>3|4=>4|47=>405|17=>17|33=>440|34=>441|89=>499|12=>12|56=>457|82=>492|5=>5|83=>493|84=>494|85=>495|86=>496|87=>497|n=>n,λ|n=>n⟩
theorem P5:Go.Proofs.LaysGt.n8 prog R4:={
 mixed:=aV
 f8:=func226.trans (congrArg some aV)
 f13:=func256.trans (congrArg some aV)
 f14:=func257.trans (congrArg some aV)
 f15:=func258.trans (congrArg some aV)
 f16:=func259.trans (congrArg some aV)
 f29:=func289.trans (congrArg some aV)
 f30:=func290.trans (congrArg some aV)
 f42:=func299.trans (congrArg some aV)
 f49:=func309.trans (congrArg some aV)
 t0:=underlying0
 a0:=isAgg0
 z0:=sizeOf0
 v0:=zeroValue0
 i0:=aV
 t3:=underlying3
 a3:=isAgg3
 z3:=sizeOf3
 v3:=zeroValue3
 i3:=aV
 t4:=underlying4
 a4:=isAgg4
 z4:=sizeOf4
 v4:=zeroValue4
 i4:=aV
 t5:=underlying5
 a5:=isAgg5
 z5:=sizeOf5
 v5:=zeroValue5
 i5:=aV
 t12:=underlying12
 a12:=isAgg12
 z12:=sizeOf12
 v12:=zeroValue12
 i12:=aV
 t17:=underlying17
 a17:=isAgg17
 z17:=sizeOf17
 v17:=zeroValue17
 i17:=aV
 t20:=underlying20
 a20:=isAgg20
 z20:=sizeOf20
 v20:=zeroValue20
 i20:=aV
 t26:=underlying356
 a26:=isAgg356
 z26:=sizeOf356
 v26:=zeroValue356
 i26:=aV
 t33:=underlying440
 a33:=isAgg440
 z33:=sizeOf440
 v33:=zeroValue440
 i33:=aV
 t34:=underlying441
 a34:=isAgg441
 z34:=sizeOf441
 v34:=zeroValue441
 i34:=aV
 t36:=underlying443
 a36:=isAgg443
 z36:=sizeOf443
 v36:=zeroValue443
 i36:=aV
 t38:=underlying205
 a38:=isAgg205
 z38:=sizeOf205
 v38:=zeroValue205
 i38:=aV
 t42:=underlying448
 a42:=isAgg448
 z42:=sizeOf448
 v42:=zeroValue448
 i42:=aV
 t47:=underlying405
 a47:=isAgg405
 z47:=sizeOf405
 v47:=zeroValue405
 i47:=aV
 t56:=underlying457
 a56:=isAgg457
 z56:=sizeOf457
 v56:=zeroValue457
 i56:=aV
 t82:=underlying492
 a82:=isAgg492
 z82:=sizeOf492
 v82:=zeroValue492
 i82:=aV
 t83:=underlying493
 a83:=isAgg493
 z83:=sizeOf493
 v83:=zeroValue493
 i83:=aV
 t84:=underlying494
 a84:=isAgg494
 z84:=sizeOf494
 v84:=zeroValue494
 i84:=aV
 t85:=underlying495
 a85:=isAgg495
 z85:=sizeOf495
 v85:=zeroValue495
 i85:=aV
 t86:=underlying496
 a86:=isAgg496
 z86:=sizeOf496
 v86:=zeroValue496
 i86:=aV
 t87:=underlying497
 a87:=isAgg497
 z87:=sizeOf497
 v87:=zeroValue497
 i87:=aV
 t89:=underlying499
 a89:=isAgg499
 z89:=sizeOf499
 v89:=zeroValue499
 i89:=by kernel_rfl}
end
section
open Go.RowKit Go.Lib Go.Shelf Go.Sort
variable{w:aA}{A:Option aJ}{n:Nat}
section
def BD(t:Tk):List aC:= [.int .i64 t.co, .int .i64 t.pe, .int .i64 t.de]
theorem R9:eY BD 3:=⟨λ_=>rfl,λx u hu=>by simp[BD] at hu;rcases hu with rfl|rfl|rfl <;> rfl⟩
def eF{n:Nat}(x:Fin (n+2)):aC:= .int .i64 (x.val:Int)
def zH(n:Nat)(key:Nat->Int)(a b:Fin (n+2)):Bool:=decide (key a<key b)
theorem Yk(n:Nat)(key:Nat->Int):SWO (zH n key):=⟨λx=>by simp[zH],λx y z h1 a=>by simp[zH] at *;omega,λx y z h1 a=>by simp[zH] at *;omega⟩
def vB(key:Nat->Int):Nat->List Int
 |n+2=>(Sort.insertionSort (zH n key) (Array.ofFn id) 0 (n+2)).toList.map λx=>(x.val:Int)
 |n=>(List.range n).map Int.ofNat
theorem SC(n:Nat)(key:Nat->Int):(Sort.insertionSort (zH n key) (Array.ofFn id) 0 (n+2)).size=n+2:=by
 have:=(insertionSort_holds (Yk n key) (Array.ofFn (n:=n+2) id) 0 (n+2) (aaQ _) aT).1.1;simpa using this
theorem QH(key:Nat->Int):∀n,(vB key n).length=n
 |0=>rfl
 |1=>rfl
 |n+2=>by
  show((Sort.insertionSort (zH n key) (Array.ofFn id) 0 (n+2)).toList.map λx=>(x.val:Int)).length=_;rw[abT,adF,SC]
theorem Nd(key:Nat->Int):∀n,∀x∈vB key n,0<=x/\x<n
 |0,x,h=>by simp[vB] at h
 |1,x,h=>by simp[vB] at h;subst h;simp
 |n+2,x,h=>by
  obtain⟨y,_,rfl⟩:=ac1.1 h;exact⟨aQ,by have:=y.isLt;omega⟩
def O1(fv:aC)(n:Nat)(key:Nat->Int)(w:aA):Prop:=∀(W:aA) (bk bs q c:Nat) (dk:Array (Fin (n+2))),aD w w W->W.cell? (bk,0)=some fv->W.cell? (bs,0)=some (.slice (some ⟨q,0,none⟩) (n+2) c)->
 (∀t,t<n+2->W.cell? ⟨q,t,none⟩=some (eF dk[t]!))->∀i j:Nat,i<n+2->j<n+2->
  aG prog 227 #[i,j, .pointer bk, .pointer bs] W λe w'=>e= .returned (.bool (zH n key dk[i]! dk[j]!))/\∃q,w'=W.drewN q
theorem Rt{L:List Tk}(h:Sl BD 3 w A L)(d:L.length<=100000)(b c:Nat)(f:w.cell? (b,0)=some (.slice A L.length c))(p:Nat)(hp:p<L.length):
 aG prog 180 #[p, .pointer b] w λe w'=>e= .returned (.int .i64 (L.getD p nO).pe)/\w=w':=by
 obtain⟨q,off,rfl,hc⟩:=h.at_ hp;have c0:=hc 1 (.int .i64 L[p].pe) rfl;have e:L.getD p nO=L[p]:=by rw[aaU,aaG hp];rfl
 rw[e];have p0:(0:Int)<=p:=aQ;have p1:(p:Int)<(L.length:Int):=aQ;have a:w.cell? (q,off+p *3+1)=some (.int .i64 L[p].pe):=by rw[abV];exact c0
 clear hc e h c0;generalize L[p]=t at *;go_enter func180,ntmps180
 go_wp2_with fail
 go_ret
 exact⟨rfl,rfl⟩
theorem Fz:∀args w,(callFunc 180 args).run prog w= .ok (.enter 180 args) w:=enters_of func180 aV rfl
theorem Pc{L:List Tk}(h:Sl BD 3 w A L)(k:L.length=n+2)(l:L.length<=100000)(b c:Nat)(r:w.cell? (b,0)=some (.slice A L.length c)):
 O1 (.func (.func 180) #[] #[.pointer b]) n (λp=>(L.getD p nO).pe) w:=by
 intro W bk G q H s f hk hs hc i j hi t;have ci:=hc i hi;have y:=hc j t;have g:=aP (λm (p:Fin (n+2))=>Rt (w:=W.drewN m) ((h.keep f).keep (gJ (Below.refl _ _) m)) l b c (bD (gJ f m) r) p.val (by rw[k];exact p.isLt));generalize s[i]! =x at *;generalize s[j]! =z at *;unfold eF at ci y;have i0:(0:Int)<=i:=aQ;have i1:(i:Int)<((n+2:Nat):Int):=aQ;have I:(0:Int)<=j:=aQ;have B:(j:Int)<((n+2:Nat):Int):=aQ;obtain⟨m,hm⟩:∃m,m=n+2:=⟨_,rfl⟩
 rw[<-hm] at hs i1 B;generalize a:(L.getD x.val nO).pe=u;generalize d:(L.getD z.val nO).pe=v;have C:aH (∀m,aG prog 180 #[x.val, .pointer b] (W.drewN m) λe w'=>e= .returned (.int .i64 u)/\W.drewN m=w'):=λm=>by rw[<-a];exact g.o m x
 have D:aH (∀m,aG prog 180 #[z.val, .pointer b] (W.drewN m) λe w'=>e= .returned (.int .i64 v)/\W.drewN m=w'):=λm=>by rw[<-d];exact g.o m z
 have E:aH (zH n (λp=>(L.getD p nO).pe) x z=decide (u<v)):=by
  show decide ((L.getD x.val nO).pe<(L.getD z.val nO).pe)=_;rw[a,d]
 clear g a d hc h r k hm l f hi t;generalize (x.val:Int)=xv at *;generalize (z.val:Int)=zv at *;have F:=Fz;go_enter func227,ntmps227
 go_upto_region 1 with(fail)
 go_quiet (first|exact Calls.quiet_of_same ((C.o _).mono λe w' h=>⟨h.1,h.2.symm⟩)|exact Calls.quiet_of_same ((D.o _).mono λe w' h=>⟨h.1,h.2.symm⟩))
 go_wp2_with fail
 go_ret
 rw[E.o];exact⟨rfl,_,rfl⟩
theorem Qi{L:List Tk}(h:Sl BD 3 w A L)(d:L.length<=100000)(b c:Nat)(f:w.cell? (b,0)=some (.slice A L.length c))(p:Nat)(hp:p<L.length):
 aG prog 181 #[p, .pointer b] w λe w'=>e= .returned (.int .i64 (L.getD p nO).de)/\w=w':=by
 obtain⟨q,off,rfl,hc⟩:=h.at_ hp;have c0:=hc 2 (.int .i64 L[p].de) rfl;have e:L.getD p nO=L[p]:=by rw[aaU,aaG hp];rfl
 rw[e];have p0:(0:Int)<=p:=aQ;have p1:(p:Int)<(L.length:Int):=aQ;have a:w.cell? (q,off+p *3+2)=some (.int .i64 L[p].de):=by rw[abV];exact c0
 clear hc e h c0;generalize L[p]=t at *;go_enter func181,ntmps181
 go_wp2_with fail
 go_ret
 exact⟨rfl,rfl⟩
theorem Kk:∀args w,(callFunc 181 args).run prog w= .ok (.enter 181 args) w:=enters_of func181 aV rfl
theorem Oh{L:List Tk}(h:Sl BD 3 w A L)(k:L.length=n+2)(l:L.length<=100000)(b c:Nat)(r:w.cell? (b,0)=some (.slice A L.length c)):
 O1 (.func (.func 181) #[] #[.pointer b]) n (λp=>(L.getD p nO).de) w:=by
 intro W bk G q H s f hk hs hc i j hi t;have ci:=hc i hi;have y:=hc j t;have g:=aP (λm (p:Fin (n+2))=>Qi (w:=W.drewN m) ((h.keep f).keep (gJ (Below.refl _ _) m)) l b c (bD (gJ f m) r) p.val (by rw[k];exact p.isLt));generalize s[i]! =x at *;generalize s[j]! =z at *;unfold eF at ci y;have i0:(0:Int)<=i:=aQ;have i1:(i:Int)<((n+2:Nat):Int):=aQ;have I:(0:Int)<=j:=aQ;have B:(j:Int)<((n+2:Nat):Int):=aQ;obtain⟨m,hm⟩:∃m,m=n+2:=⟨_,rfl⟩
 rw[<-hm] at hs i1 B;generalize a:(L.getD x.val nO).de=u;generalize d:(L.getD z.val nO).de=v;have C:aH (∀m,aG prog 181 #[x.val, .pointer b] (W.drewN m) λe w'=>e= .returned (.int .i64 u)/\W.drewN m=w'):=λm=>by rw[<-a];exact g.o m x
 have D:aH (∀m,aG prog 181 #[z.val, .pointer b] (W.drewN m) λe w'=>e= .returned (.int .i64 v)/\W.drewN m=w'):=λm=>by rw[<-d];exact g.o m z
 have E:aH (zH n (λp=>(L.getD p nO).de) x z=decide (u<v)):=by
  show decide ((L.getD x.val nO).de<(L.getD z.val nO).de)=_;rw[a,d]
 clear g a d hc h r k hm l f hi t;generalize (x.val:Int)=xv at *;generalize (z.val:Int)=zv at *;have F:=Kk;go_enter func227,ntmps227
 go_upto_region 1 with(fail)
 go_quiet (first|exact Calls.quiet_of_same ((C.o _).mono λe w' h=>⟨h.1,h.2.symm⟩)|exact Calls.quiet_of_same ((D.o _).mono λe w' h=>⟨h.1,h.2.symm⟩))
 go_wp2_with fail
 go_ret
 rw[E.o];exact⟨rfl,_,rfl⟩
end
variable{q gf bs:Nat}{w0:aA}
section
noncomputable def Wo:TypeInfo:=(prog.info? 35).get aV
noncomputable def UM:TypeInfo:=(prog.info? 3).get aV
theorem JL:(prog.info? 3).map (λi=>(i.zero,i.size,i.bytes))=some (some (.int .i64 0),1,8):=aV
theorem pQ(n:Nat)(e:2<=n):Lib.swapperK n UM 2=5:=by
 have a:UM.hasPointers=false:=aV;have b:UM.bytes=8:=aV;have c:(n==0)=false:=bL;have d:(n==1)=false:=bL;simp[Lib.swapperK,a,b,c,d]
def OJ(w:aA)(A:Option aJ):Prop:=∀b,aZ A=some b->w.heap.size<=b
def kX(n k:Nat):List Int:=(List.range n).map λj=>if j<k then(j:Int) else 0
theorem CV(n k:Nat):(kX n k).length=n:=by simp[kX]
theorem Ko{k:Nat}:(kX n k).set k (k:Int)=kX n (k+1):=by
 apply abX
 .simp[kX]
 .intro i h1 a;simp only[kX,aaV,abT,List.length_range] at h1 a⊢;rw[abF];simp only[List.getElem_map,List.getElem_range];split
  .rename_i e;subst e;rw[aaK aQ]
  .rename_i e;by_cases h:i<k
   .rw[aaK h,aaK aQ]
   .rw[aaL h,aaL aQ]
theorem Gj(n:Nat):kX n n=(List.range n).map Int.ofNat:=by
 unfold kX;apply List.map_congr_left;intro j a;rw[aaK (ab3.1 a)];rfl
theorem ZP(n:Nat):(madeCells (Value.int .i64 0).cells (n *1)).toList=(kX n 0).flatMap eI:=by
 rw[FV];congr 1
 apply abX
 .simp[kX]
 .intro i h1 a;simp[kX]
section
variable{α:Type}[Inhabited α]{enc:α->aC}
theorem Iy(w:aA)(q m:Nat)(d:Array α)(os:Array Obj):∀i,i<w.heap.size->(sortWorld enc w q 0 m d os).heap[i]?=(w.heap.modify q (onCells (putCells enc 0 d)))[i]?:=λi hi=>by
 show(w.heap.modify q _++os)[i]?=_;rw[adW (by simpa using hi)]
theorem IY(w:aA)(q m:Nat)(d:Array α)(os:Array Obj):w.grownBy (sortWorld enc w q 0 m d os) (some q):=by
 refine⟨rfl,rfl,rfl,?_,λi hi a=>?_⟩
 .show w.heap.size<=(w.heap.modify q _++os).size;rw[Array.size_append,Array.size_modify];omega
 .rw[Iy w q m d os i hi,adX,aaL (λe=>a (by rw[e]))]
end
theorem WV{base c:Nat}{e:TypeId}(h:bB eI 1 w base e q c (kX (n+2) (n+2))):Holds (eF (n:=n)) w q 0 (Array.ofFn id):=by
 intro j b;have a:j<n+2:=by simpa using b
 have h1:=bG fX h (i:=j) (by rw[CV];exact a) (j:=0) rfl;rw[acI,aa3] at h1;rw[abQ];refine⟨?_,(cH h j (by have:=h.cap;rw[CV] at this;omega)).2⟩;rw[h1];congr 1
 rw[afD _ j b];simp[kX,eF,a]
theorem Kn{base c:Nat}{e:TypeId}(h:bB eI 1 w base e q c (kX n n))(a:n<=1)(key:Nat->Int)(os:Array Obj):Sl eI 1 (Sort.grow w os) q (vB key n):=by
 have b:vB key n=kX n n:=by
  rw[Gj];match n,a with
  |0,_=>rfl
  |1,_=>rfl
 rw[b];exact(h.sl fX).keep ⟨rfl,rfl,rfl,by simp[Sort.grow],λk hk=>by
  show(w.heap++os)[k]?=_;rw[adW hk]⟩
theorem Zu(n:Nat)(h:n<=1):∃f,prog.funcs.findIdx? (·.name== "internal/reflectlite" ++ ".Swapper$" ++toString (Lib.swapperK n UM 2))=some f:=by
 match n,h with
 |0,_=>exact⟨280,aV⟩
 |1,_=>exact⟨281,aV⟩
theorem Ba{cap:Array aC}{bk:Nat}(key:Nat->Int)(A:n<=20)(p:aD w0 w0 w)(own:bB eI 1 w w0.heap.size 3 q n (kX n n))(hk:bC w bk 254 #[.func (.func gf) #[] cap])(hs:bC w bs 35 #[.slice q n n])(h1:bk≠q)(B:bs≠q)
 (b:∀m,n=m+2->O1 (.func (.func gf) #[] cap) m key w0):
 aG prog 226 #[.iface 35 (.slice q n n), .func (.func 227) #[] #[.pointer bk, .pointer bs]] w λe w'=>e= .returned (.tuple #[])/\Sl eI 1 w' q (vB key n)/\w.grownBy w' (some q):=by
 by_cases c:n<=1
 .obtain⟨f,C⟩:=Zu n c;have h:=Any.sort_SliceStable_tiny P5 35 3 Wo UM aV aV aV aV 2 (λ_=>by kernel_rfl) q n n c f C (.func 227) #[] #[.pointer bk, .pointer bs] w;refine Calls.mono (f:=226) h ?_;rintro e w' ⟨rfl,os,rfl⟩;exact⟨rfl,Kn own c key os,rfl,rfl,rfl,by simp[Sort.grow],λk hk _=>by
   show(w.heap++os)[k]?=_;rw[adW hk]⟩
 .obtain⟨m,rfl⟩:∃m,n=m+2:=⟨n - 2,aQ⟩
  have hq:=(own.lt q rfl)
  have hH:=WV own;have D:LessReads prog 227 #[.pointer bk, .pointer bs] (eF (n:=m)) (zH m key) q 0 (Array.ofFn (n:=m+2) id).size w:=by
   intro d os l hd i j hi o;have lF:(Array.ofFn (n:=m+2) id).size=m+2:=aT;rw[lF] at hd hi o;have g:=IY (enc:=eF (n:=m)) w q d l os;refine b m rfl (sortWorld eF w q 0 d l os) bk bs q (m+2) l (p.grown g p.size (λr s=>by injection s with s;omega)) ((hk.grown g (λe=>h1 (by injection e))).cell 0 _ rfl) ((hs.grown g (λe=>B (by injection e))).cell 0 _ rfl) (λt E=>?_) i j hi o;have:=(holds_sortWorld (eF (n:=m)) w q 0 d (Array.ofFn id) l os hq.2 hH (by rw[hd,lF])) t (by rw[hd];exact E);rw[abQ] at this;exact this.1
  have v:=Any.sort_SliceStable_small P5 35 3 Wo UM aV aV aV aV 2 (λ_=>by kernel_rfl) aV (λ_=>by kernel_rfl) (eF (n:=m)) (λ_=>rfl) (zH m key) 227 #[.pointer bk, .pointer bs]
   (enters_of func227 aV rfl) q 0 (m+2) (Array.ofFn id) aT (by simpa using A) 284 (by rw[pQ _ aT];kernel_rfl) true
   (λargs W=>run_callFunc_extern func284 aV aV aV (e:=Extern.ReflectliteSwapper.swap true) aV args W) w D hH hq.2
  rw[show(Array.ofFn (n:=m+2) id).size=m+2 by simp] at v;refine Calls.mono (f:=226) v ?_;rintro e w' ⟨rfl,d,os,rfl⟩;have g:=IY (enc:=eF (n:=m)) w q d (Sort.insertionSort (zH m key) (Array.ofFn id) 0 (m+2)) os;refine⟨rfl,λ_=>⟨q,0,rfl,λi x j u y hu=>?_⟩,g⟩;have hi:i<m+2:=by have:=(aaX.1 y).1;rw[QH] at this;exact this
  have hc:=(holds_sortWorld (eF (n:=m)) w q 0 d (Array.ofFn id) (Sort.insertionSort (zH m key) (Array.ofFn id) 0 (m+2)) os hq.2 hH (by rw[SC];simp)) i (by rw[SC];exact hi);have o:j=0:=by have:=(aaX.1 hu).1;simp[eI] at this;exact this
  subst o;simp[eI] at hu;subst hu;have F:0+(i *1+0)=0+i:=aQ;rw[F];refine hc.1.trans ?_;have a:((Sort.insertionSort (zH m key) (Array.ofFn id) 0 (m+2)).toList.map λx=>(x.val:Int))[i]?=some x:=y;rw[ab7,abG,abE (by rw[SC];exact hi)] at a;injection a with a;rw[afD _ i (by rw[SC];exact hi)];exact congrArg (λz=>some (Value.int .i64 z)) a
theorem RI(gf:Nat)(cap:Array aC)(n:Nat)(Q:n<=20)(key:Nat->Int)(w:aA)(f:∀m,n=m+2->O1 (.func (.func gf) #[] cap) m key w):
 aG prog 179 #[n, .func (.func gf) #[] cap] w λe w'=>∃A c,e= .returned (.slice A n c)/\Sl eI 1 w' A (vB key n)/\aD w w w'/\OJ w A:=by
 obtain⟨i0,F,G,H,I⟩:=info_parts JL;have u:=aX w (aI #[.func (.func gf) #[] cap] 254);have bk:=bC.new w 254 #[.func (.func gf) #[] cap];have p:=bH u bk;have J:=aP f;clear f u bk;go_enter func179,ntmps179
 go_wp2_with(at_make;refine wpList_make_full _ rfl _ _ 35 rfl w.heap.size 3 i0 _ 1 underlying35 F G H _ _ _ _ n rfl rfl rfl rfl (by rw[I];omega) dT aT ?_;intro i g s)
 rw[ZP] at g;obtain⟨q,hq⟩:∃q,q=(w.alloc (aI #[.func (.func gf) #[] cap] 254)).heap.size:=⟨_,rfl⟩
 have v:q=w.heap.size+1:=by rw[hq];simp
 have yR:bB eI 1 i w.heap.size 3 (some ⟨q,0,none⟩) n (kX n 0):=by
  unfold bB;rw[CV,hq];exact g
 have h:aD w w i:=p.o.1.grown s aT (λk hk=>by cases hk);have x:bC i w.heap.size 254 #[.func (.func gf) #[] cap]:=p.o.2.grown s aT;have K:=(yR.lt q rfl).2;rw[<-v];have y:=h.alloc h.size (aI #[.slice (some ⟨q,0,none⟩) n n] 35);have z:=x.alloc (aI #[.slice (some ⟨q,0,none⟩) n n] 35);have B:=bC.new i 35 #[.slice (some ⟨q,0,none⟩) n n];have l:=yR.alloc (aI #[.slice (some ⟨q,0,none⟩) n n] 35);have a:aH (w.heap.size≠q/\i.heap.size≠q/\w.heap.size<=q/\w.heap.size<=i.heap.size):=⟨aQ,aQ,aQ,h.size⟩
 have N:=cZ y z (And.intro B l);clear y z B l h x yR g s hq v K p;generalize i.alloc (aI #[.slice (some ⟨q,0,none⟩) n n] 35)=w4 at *;generalize i.heap.size=bs at *;go_loopw [6,11] (λ_ v11 wr=>∃k:Nat,k<=n/\v11= .int .i64 k/\aH (aD w w wr/\bC wr w.heap.size 254 #[.func (.func gf) #[] cap]/\bC wr bs 35 #[.slice (some ⟨q,0,none⟩) n n]/\bB eI 1 wr w.heap.size 3 (some ⟨q,0,none⟩) n (kX n k))) (λ_ v11 _=>n - (aL v11).toNat)
 case atStart=>exact⟨0,aaQ _,rfl,N.o⟩
 case round=>
  clear N;obtain⟨k,hk,rfl,d⟩:=hrel;by_cases L:k<n
  .have T:(0:Int)<=k:=aQ;have U:(k:Int)<(n:Int):=aQ;have cs:=d.o.2.2.1.cell 0 _ rfl;have C:k<(kX n k).length:=by rw[CV];exact L
   obtain⟨r1,V⟩:=cH d.o.2.2.2 k aQ;obtain⟨v0,r1⟩:=ae2.1 r1;obtain⟨o1,o2⟩:=qR LN d.o.2.2.2 C (j:=0) aQ (k:Int) (.int .i64 k) rfl;rw[acI,aa3,Ko] at o1;rw[acI,aa3] at o2;have R:aH (aD w w (wr.setCell ⟨q,k,none⟩ k)/\bC (wr.setCell ⟨q,k,none⟩ k) w.heap.size 254 #[.func (.func gf) #[] cap]/\bC (wr.setCell ⟨q,k,none⟩ k) bs 35 #[.slice (some ⟨q,0,none⟩) n n]/\bB eI 1 (wr.setCell ⟨q,k,none⟩ k) w.heap.size 3 (some ⟨q,0,none⟩) n (kX n (k+1))):=
    ⟨d.o.1.grown o2 d.o.1.size (λr D=>by injection D with D;have:=a.o.2.2.1;omega),d.o.2.1.grown o2 (λe=>a.o.1 (by injection e)),d.o.2.2.1.grown o2 (λe=>a.o.2.1 (by injection e)),o1⟩
   clear d o1 o2 C;go_wp2_with fail
   refine⟨⟨k+1,aQ,rfl,R.o⟩,by simp only[aL];omega⟩
  .obtain rfl:k=n:=aQ;have cs:=d.o.2.2.1.cell 0 _ rfl;have O:=aP (Ba key Q d.o.1 d.o.2.2.2 d.o.2.1 d.o.2.2.1 a.o.1 a.o.2.1 J.o);go_wp2_with fail
   refine aR O ?_;rintro e W ⟨rfl,E,t⟩;have S:=(d.o.2.2.1.grown t (λe=>a.o.2.1 (by injection e))).cell 0 _ rfl;have P:=bH E (d.o.1.grown t d.o.1.size (λr D=>by injection D with D;have:=a.o.2.2.1;omega));clear E t O d cs;go_wp2_with fail
   go_ret
   exact⟨_,_,rfl,P.o.1,P.o.2,λb M=>by injection M with M;have:=a.o.2.2.1;simp only at M;omega⟩
theorem Rg{L:List Tk}(h:Sl BD 3 w A L)(k:L.length<=20)(c:Nat):
 aG prog 124 #[(A,L.length,c)] w λe w'=>∃B d,e= .returned (.slice B L.length d)/\Sl eI 1 w' B (vB (λp=>(L.getD p nO).pe) L.length)/\aD w w w'/\OJ w B:=by
 have a:=aX w (aI #[(A,L.length,c)] 291);have bk:=(bC.new w 291 #[(A,L.length,c)]).cell 0 _ rfl;have i:=aP (RI 180 #[.pointer w.heap.size] L.length k (λp=>(L.getD p nO).pe) (w.alloc (aI #[(A,L.length,c)] 291)) (λm hm=>Pc (h.keep a) hm aQ _ c bk));have g:=aP a;clear h a;generalize (λp=>(L.getD p nO).pe)=key at *;go_enter func124,ntmps124
 go_wp2_with fail
 refine aR i ?_;rintro e n ⟨B,d,rfl,hs,f,j⟩;have l:=cZ hs (g.o.trans (f.mono g.o.size)) (show OJ w B from λb f=>aaR g.o.size (j b f));clear hs f j i;go_wp2_with fail
 go_ret
 exact⟨_,_,rfl,l.o⟩
theorem Rp{L:List Tk}(h:Sl BD 3 w A L)(k:L.length<=20)(c:Nat):
 aG prog 126 #[(A,L.length,c)] w λe w'=>∃B d,e= .returned (.slice B L.length d)/\Sl eI 1 w' B (vB (λp=>(L.getD p nO).de) L.length)/\aD w w w'/\OJ w B:=by
 have a:=aX w (aI #[(A,L.length,c)] 291);have bk:=(bC.new w 291 #[(A,L.length,c)]).cell 0 _ rfl;have i:=aP (RI 181 #[.pointer w.heap.size] L.length k (λp=>(L.getD p nO).de) (w.alloc (aI #[(A,L.length,c)] 291)) (λm hm=>Oh (h.keep a) hm aQ _ c bk));have g:=aP a;clear h a;generalize (λp=>(L.getD p nO).de)=key at *;go_enter func126,ntmps126
 go_wp2_with fail
 refine aR i ?_;rintro e n ⟨B,d,rfl,hs,f,j⟩;have l:=cZ hs (g.o.trans (f.mono g.o.size)) (show OJ w B from λb f=>aaR g.o.size (j b f));clear hs f j i;go_wp2_with fail
 go_ret
 exact⟨_,_,rfl,l.o⟩
end
end
section
open Go.RowKit Go.Lib Go.Shelf
variable{w w':aA}{A:Option aJ}{i:Nat}
section
structure wS(w:aA)(A:Option aJ)(L:List Tm):Prop where
 o:Sl sI 5 w A L
 sl:∀x∈L,Sl qP 3 w x.A x.t.se
 cp:∀x∈L,x.t.se.length<=x.c
theorem wS.keep{L:List Tm}(h:wS w A L)(a:aD w w w'):wS w' A L:=⟨h.o.keep a,λx b=>(h.sl x b).keep a,h.cp⟩
theorem wS.at_{L:List Tm}(h:wS w A L)(hi:i<L.length):∃b off,A=some ⟨b,off,none⟩/\w.cell? ⟨b,off+i *5,none⟩=some (.int .i64 L[i].t.co)/\w.cell? ⟨b,off+i *5+1,none⟩=some (.int .i64 L[i].t.pe)/\w.cell? ⟨b,off+i *5+2,none⟩=some (.int .i64 L[i].t.de)/\w.cell? ⟨b,off+i *5+3,none⟩=some (.slice L[i].A L[i].t.se.length L[i].c)/\w.cell? ⟨b,off+i *5+4,none⟩=some (.int .i64 L[i].t.po):=by
 obtain⟨b,off,a,hc⟩:=h.o.at_ hi;exact⟨b,off,a,by simpa using hc 0 _ (show(sI L[i])[0]?=some (.int .i64 L[i].t.co) from rfl),by simpa[abV] using hc 1 _ (show(sI L[i])[1]?=some (.int .i64 L[i].t.pe) from rfl),by simpa[abV] using hc 2 _ (show(sI L[i])[2]?=some (.int .i64 L[i].t.de) from rfl),by simpa[abV] using hc 3 _ (show(sI L[i])[3]?=some (.slice L[i].A L[i].t.se.length L[i].c) from rfl),by simpa[abV] using hc 4 _ (show(sI L[i])[4]?=some (.int .i64 L[i].t.po) from rfl)⟩
theorem Xw:jM prog 291 122 3 24:=gA (z:= .agg #[aU,aU,aU]) underlying291 aV (by simp[Value.cells]) aQ
theorem WE{L:List Tm}(h:wS w A L)(H:L.length<=20)(c:Nat):
 aG prog 125 #[(A,L.length,c)] w λe w'=>∃B d,e= .returned (.slice B L.length d)/\Sl BD 3 w' B (L.map Tm.t)/\aD w w w':=by
 have D:=aP h;clear h;go_enter func125,ntmps125
 go_wp2_with fail
 go_loopw [3,5,8] (λv3 _ v8 wr=>∃k:Nat,k<=L.length/\v8= .int .i64 k/\(∃B d,v3= .slice B k d/\aH (bB BD 3 wr w.heap.size 122 B d ((L.take k).map Tm.t)))/\aH (aD w w wr)) (λ_ _ v8 _=>L.length - (aL v8).toNat)
 case atStart=>exact⟨0,aaQ _,rfl,⟨none,0,rfl,bB.nil _ _ _⟩,Below.refl _ _⟩
 case round=>
  obtain⟨k,hk,rfl,⟨B,d,rfl,l⟩,g⟩:=hrel;by_cases i:k<L.length
  .obtain⟨b,off,rfl,t0,t1,t2,t3,t4⟩:=(D.o.keep g.o).at_ i;have I:(0:Int)<=k:=aQ;have J:(k:Int)<(L.length:Int):=aQ;have E:aH ((L.take (k+1)).map Tm.t=(L.take k).map Tm.t++ [L[k].t]):=by unfold aH;rw[<-abS i,aeJ];rfl
   have q:((L.take k).map Tm.t).length=k:=bL;generalize L[k]=x at *;have p:=bC.new wr 125 #[x.t.co,x.t.pe,x.t.de,(x.A,x.t.se.length,x.c),x.t.po];have d0:=p.cell 0 _ rfl;have d1:=p.cell 1 _ rfl;have d2:=p.cell 2 _ rfl;have a:aH (bB BD 3 (wr.alloc (aI #[x.t.co,x.t.pe,x.t.de,(x.A,x.t.se.length,x.c),x.t.po] 125)) w.heap.size 122 B d ((L.take k).map Tm.t)/\aD w w (wr.alloc (aI #[x.t.co,x.t.pe,x.t.de,(x.A,x.t.se.length,x.c),x.t.po] 125))):=⟨l.o.alloc _,g.o.alloc g.o.size _⟩
   clear l g p;go_upto_region 5 with(fail)
   generalize wr.alloc (aI #[x.t.co,x.t.pe,x.t.de,(x.A,x.t.se.length,x.c),x.t.po] 125)=F at *;clear t0 t1 t2 t3 t4;have lF:=a.o.2.size;go_wp2_with(at_builtin;refine bN _ rfl _ _ rfl Xw R9 (a.o.1.alloc _) (n:=k) q rfl (m:=1) rfl (ys:= [x.t]) rfl (Sl.new R9 F x.t _ rfl _) dT aQ bL _ rfl (k+1) rfl ?_;intro A6 c6 z f j s)
   have u:aH (aD w w z):=(a.o.2.alloc lF _).grown j bL (λr G=>(a.o.1.lt r G).1);have v:aH (bB BD 3 z w.heap.size 122 A6 c6 ((L.take (k+1)).map Tm.t)):=by rw[E.o];exact f
   clear f j s a d0 d1 d2;refine⟨⟨k+1,aQ,rfl,⟨A6,c6,rfl,v.o⟩,u.o⟩,by simp only[aL];omega⟩
  .obtain rfl:k=L.length:=aQ;have C:L.take L.length=L:=aa7 (aaH _);have y:aH (Sl BD 3 wr B (L.map Tm.t)):=by have:=l.o.sl R9;rw[C] at this;exact this
   clear C l;go_wp2_with fail
   go_ret
   exact⟨_,_,rfl,y.o,g.o⟩
def mO(L:List Tk)(od:Int):List Int:=if od=1 then vB (λp=>(L.getD p nO).pe) L.length else vB (λp=>(L.getD p nO).de) L.length
theorem S8(L:List Tk)(od:Int):(mO L od).length=L.length:=by unfold mO;split <;> exact QH _ _
theorem XE(L:List Tk)(od:Int):∀x∈mO L od,0<=x/\x<L.length:=by unfold mO;split <;> exact Nd _ _
theorem SX{L:List Tm}(h:wS w A L)(n:L.length<=20)(c:Nat)(od:Int):
 aG prog 86 #[(A,L.length,c),od] w λe w'=>∃B d,e= .returned (.slice B L.length d)/\Sl eI 1 w' B (mO (L.map Tm.t) od)/\aD w w w'/\OJ w B:=by
 have m:=aP (WE h n c);clear h;by_cases h1:od=1
 .have o1:(od==1)=true:=by simpa using h1
  have i:aH (mO (L.map Tm.t) od=vB (λp=>((L.map Tm.t).getD p nO).pe) (L.map Tm.t).length):=aaK h1;clear h1;go_enter func86,ntmps86
  go_wp2_with fail
  refine aR m ?_;rintro e r ⟨B,d,rfl,hs,a⟩;have g:=aP (Rg hs (by simpa using n) d);rw[abT] at g;have f:=aP a;clear hs a m;go_wp2_with fail
  refine aR g ?_;rintro e j ⟨k,d3,rfl,hs,a,l⟩;have q:aH (Sl eI 1 j k (mO (L.map Tm.t) od)/\aD w w j/\OJ w k):=⟨by rw[i.o,abT];exact hs,f.o.trans (a.mono f.o.size),λb a=>aaR f.o.size (l b a)⟩
  clear hs a l g f i;go_wp2_with fail
  go_ret
  exact⟨_,_,rfl,q.o⟩
 .have o1:(od==1)=false:=by simpa using h1
  have i:aH (mO (L.map Tm.t) od=vB (λp=>((L.map Tm.t).getD p nO).de) (L.map Tm.t).length):=aaL h1;clear h1;go_enter func86,ntmps86
  go_wp2_with fail
  refine aR m ?_;rintro e r ⟨B,d,rfl,hs,a⟩;have g:=aP (Rp hs (by simpa using n) d);rw[abT] at g;have f:=aP a;clear hs a m;go_wp2_with fail
  refine aR g ?_;rintro e j ⟨k,d3,rfl,hs,a,l⟩;have q:aH (Sl eI 1 j k (mO (L.map Tm.t) od)/\aD w w j/\OJ w k):=⟨by rw[i.o,abT];exact hs,f.o.trans (a.mono f.o.size),λb a=>aaR f.o.size (l b a)⟩
  clear hs a l g f i;go_wp2_with fail
  go_ret
  exact⟨_,_,rfl,q.o⟩
end
end
end Go.Proofs.YtacgiflhgdaeaaaGreat
