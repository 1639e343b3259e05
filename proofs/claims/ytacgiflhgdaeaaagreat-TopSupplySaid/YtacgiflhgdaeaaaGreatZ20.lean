/- Texts laid as one. -/
import Derived.Test.YtacgiflhgdaeaaaGreatZ13
import Derived.Test.YtacgiflhgdaeaaaGreatZ19
set_option linter.unusedVariables false
set_option linter.unusedSimpArgs false
set_option maxRecDepth 100000
set_option maxHeartbeats 20000000
namespace Go.Proofs.YtacgiflhgdaeaaaGreat
open Go.Proofs.Tryz
open Go renaming World->aA,Value->aC,Ending->aM,Calls->aG
open Go.RowKit renaming Below->aD,Hid->aH,intOf->aL
open Go.Obj renaming cells->aI
section
open Go.RowKit Go.Lib Go.Shelf dH Fr Up Nt
variable{F:Nat->Prop}{w:aA}{g:Nat}
section
theorem fK{a:Ka}{k:Kv}(h:bJ F w g a k)(e:Int):aG prog 103 #[.pointer g,e] w λr w'=>r= .returned (.bool (oZ e))/\w=w':=by
 obtain⟨_,_,c9⟩:=h.LX;clear h;by_cases c:e<0
 .have b:aH (oZ e=false):=by unfold aH oZ;simp;omega
  go_enter func103,ntmps103
  go_wp2_with fail
  go_ret
  rw[b.o];exact⟨rfl,rfl⟩
 .have h1:0<=e:=aQ;clear c;by_cases d:e<4
  .have b:aH (oZ e=true):=by unfold aH oZ;simp;omega
   go_enter func103,ntmps103
   go_wp2_with fail
   go_ret
   rw[b.o];exact⟨rfl,rfl⟩
  .have b:aH (oZ e=false):=by unfold aH oZ;simp;omega
   go_enter func103,ntmps103
   go_wp2_with fail
   go_ret
   rw[b.o];exact⟨rfl,rfl⟩
def EP(a:Ka)(i:Int):Int:=if 0<=i/\i<2 then a.bd.getD i.toNat 0 else -1
theorem CM{a:Ka}{k:Kv}(h:bJ F w g a k)(i:Int):aG prog 110 #[.pointer g,i] w λr w'=>r= .returned (.int .i64 (EP a i))/\w=w':=by
 obtain⟨_,c8,_⟩:=h.LX;by_cases c:i<0
 .have b:aH (EP a i= -1):=by unfold aH EP;rw[aaL aQ]
  clear h;go_enter func110,ntmps110
  go_wp2_with fail
  go_ret
  rw[b.o];exact⟨rfl,rfl⟩
 .by_cases d:2<=i
  .have b:aH (EP a i= -1):=by unfold aH EP;rw[aaL aQ]
   clear h;go_enter func110,ntmps110
   go_wp2_with fail
   go_ret
   rw[b.o];exact⟨rfl,rfl⟩
  .obtain⟨n,rfl⟩:=aaO (show 0<=i by omega);obtain⟨v,e,hd⟩:=h.ZW (i:=n) aQ;have b:aH (EP a n=v):=by unfold aH EP;rw[aaK aQ,aaW];exact hd
   have n8:(n:Int)<8:=aQ;clear h hd;go_enter func110,ntmps110
   go_wp2_with fail
   go_ret
   rw[b.o];exact⟨rfl,rfl⟩
def gD(F:Nat->Prop)(g:Nat)(k:Kv)(v:aC)(w:aA)(e:aM)(w':aA):Prop:=e= .returned v/\KM F w' g k/\Kp F w w'
theorem OC{a:Ka}{k:Kv}(h:bJ F w g a k)(i v:Int):aG prog 194 #[.pointer g,i,v] w (gD F g k (.tuple #[]) w):=by
 obtain⟨_,c8,_⟩:=h.LX;by_cases b:0<=i/\i<2
 .obtain⟨n,rfl⟩:=aaO b.1;have n8:(n:Int)<2:=b.2;obtain⟨u,hu⟩:=h.bound (i:=n) aQ;have f0:=h.fz (19+n);have c:aH (gD F g k (.tuple #[]) w (.returned (.tuple #[])) (w.setCell (g,19+n) v)):=⟨rfl,(h.store (19+n) aQ v).1,(h.store (19+n) aQ v).2⟩
  clear h b;go_enter func194,ntmps194
  go_wp2_with fail
  go_end0
  exact c.o
 .have c:aH (gD F g k (.tuple #[]) w (.returned (.tuple #[])) w):=⟨rfl,⟨a,h⟩,Kp.refl _ _⟩
  clear h;by_cases h1:i<0
  .go_enter func194,ntmps194
   go_wp2_with fail
   go_end0
   exact c.o
  .have d:0<=i:=aQ;have e:¬i<2:=aQ;clear b h1;go_enter func194,ntmps194
   go_wp2_with fail
   go_end0
   exact c.o
theorem wY{a:Ka}{k:Kv}(h:bJ F w g a k)(W:k.s.P.length<=8)(e kd x b:Int)(hk:1<=kd/\kd<=8):
 aG prog 83 #[.pointer g,e, .agg #[kd,x, .int .u64 b]] w λr w'=>∃v:Int,r= .returned (.int .i64 v)/\bJ F w' g a (fI k e)/\Kp F w w':=by
 have fl:=h.fl;have h1:=(bJ.bX g a k).box h fl (aI #[kd,x, .int .u64 b] 248);have z:=fl.below (aX w (aI #[kd,x, .int .u64 b] 248));have C:=bC.new w 248 #[kd,x, .int .u64 b];have A:=aP (fK h1 e);have H1:=bH h1 z;have D:=aP (λ(w':aA) (k':Kv) (I:bJ (Fb F w) w' g a k')=>dV.less (bJ.bX g a k') I (λb X=>I.fl b (.inl X)));by_cases he:0<=e/\e<4
 .have E:aH (fI k e={k with s:=gS k.s e true}):=by unfold aH fI oZ;rw[aaK (by simpa using he)]
  have m:aH (oZ e=true):=by unfold aH oZ;simpa using he
  rw[m.o] at A;clear h h1 z fl;go_enter func83,ntmps83
  go_upto_region 1 with(fail)
  generalize w.alloc (aI #[kd,x, .int .u64 b] 248)=w1 at *;generalize w.heap.size=q1 at *;go_wp2_with fail
  refine aR A ?_;rintro r J ⟨rfl,rfl⟩;obtain⟨G,hs,back⟩:=H1.o.1.sd;have ps:=H1.o.1.ps;have L:=aP (F7 hs W e true);have n:=aP back;clear hs back;unfold pA at ps;go_wp2_with fail
  refine aR L ?_;rintro r J ⟨rfl,p,q⟩;obtain⟨M,H⟩:=n.o _ _ p q;have B:=bH M (H1.o.2.trans H.unbox);have c:=H.aZ C (.inr rfl);clear M H p q n L C H1;have pr:=B.o.1.pr;unfold pA at pr;have Y:=c.cell 0 kd rfl;have Z:=c.cell 1 x rfl;have x2:=c.cell 2 (.int .u64 b) rfl;go_upto_region 6 with(fail)
  have f:=bF pr;have i:=bF Y;have j:=bF Z;have l:=bF x2;refine bS (bV _) (λ_=>bV) [] (λ_ _ _=>True) [6,7] [] 26 (cM _) (λ_ _ _ h N=>bZ h N) (λ_ d hd _ v w w' _ h N=>by cases hd) aV aV bK ?_;repeat refine fQ ?_
  refine eL ?_;intro γ w5 hb5 hT;clear f i j l;simp only[dG,Act.put,aaI,aaP,aaN];refine eT ?_;obtain⟨O,Q⟩:=B.o.1.below hb5;obtain⟨G,R,back⟩:=O.rw;have S:=aP (NT R e aQ kd x b hk);have n:=aP back;have T:=aP (B.o.2.trans Q.unbox);clear R back O Q hb5 hT B c;refine wpList_plain rfl (λK hK=>?_);go_wp2_with fail
  refine aR S ?_;rintro r w6 ⟨v,rfl,t,u⟩;obtain⟨U,V⟩:=n.o _ t u;have y:=bH (D.o _ _ U) (T.o.trans V.unbox);clear U V t u n S T;refine hK _ _ ?_;clear hK K;refine wpList_plain rfl (λK hK=>?_);go_simp
  refine hK _ _ ?_;clear hK K;refine cP ?_;try refine dB ?_
  go_wp2_with fail
  go_ret
  rw[E.o];exact⟨v,rfl,y.o.1,y.o.2⟩
 .have E:aH (fI k e=k):=by unfold aH fI oZ;rw[aaL (by simpa using he)]
  have m:aH (oZ e=false):=by unfold aH oZ;simpa using he
  rw[m.o] at A;have y:=bH (D.o _ _ h1) z;clear h h1 z fl C H1 D;go_enter func83,ntmps83
  go_upto_region 1 with(fail)
  generalize w.alloc (aI #[kd,x, .int .u64 b] 248)=w1 at *;go_wp2_with fail
  refine aR A ?_;rintro r J ⟨rfl,rfl⟩;go_wp2_with fail
  go_ret
  rw[E.o];exact⟨1,rfl,y.o.1,y.o.2⟩
end
variable{i:Nat}
section
def Ma(L:List Int)(w:aA)(e:aM)(w':aA):Prop:=∃A c,e= .returned (.slice A L.length c)/\bB eI 1 w' w.heap.size 3 A c L/\aD w w w'
theorem XJ(o:Int)(L:List dK)(p:dK):(L++ [p]).filterMap (uV o)=L.filterMap (uV o)++(if p.h.kd=1/\p.h.ob=o then [p.s] else []):=by
 rw[acS];congr 1
 simp only[aeV,List.filterMap_nil,uV];split
 .rename_i h;split at h
  .cases h
  .rename_i a;rw[aaL a]
 .rename_i h;split at h
  .rename_i a;injection h with h;rw[aaK a,h]
  .cases h
theorem C8{a:Ka}{k:Kv}(h:bJ F w g a k)(e o:Int):aG prog 104 #[.pointer g,e,o] w (Ma (fG k e o) w):=by
 obtain⟨G,hc,_⟩:=h.cp;have Y:=aP (RG hc e);have Q:=F9 k.c e;have pc:=h.pc;unfold fG;generalize AA k.c e=L at *;generalize a.gc=gc at *;clear h hc;unfold pA at pc;go_enter func104,ntmps104
 go_wp2_with fail
 refine aR Y ?_;rintro x K ⟨A,c,rfl,own,D⟩;obtain⟨n,M⟩:∃n,n=L.length:=⟨_,rfl⟩
 have C:=cZ M own D;rw[<-M];rw[<-M] at Q;clear M own D pc Y;go_wp2_with fail
 go_loopw [7,17] (λv7 v17 wr=>∃(i m:Nat) (u:Option Addr) (c2:Nat) (R:List Int),v17= .int .i64 i/\v7= .slice u m c2/\i<=n/\m<=i/\aH (m=R.length/\R=(L.take i).filterMap (uV o)/\bB eI 1 wr K.heap.size 3 u c2 R/\aD K K wr)) (λ_ v17 _=>n - (aL v17).toNat)
 case atStart=>exact⟨0,0,none,0, [],rfl,rfl,aaQ _,aaH _,rfl,rfl,bB.nil _ _ _,Below.refl _ _⟩
 case round=>
  obtain⟨i,m,u,c2,R,rfl,rfl,hi,hm,l⟩:=hrel;by_cases S:i<n
  .have b:i<L.length:=by rw[<-C.o.1];exact S
   have z:=C.o.2.1.keep l.o.2.2.2;obtain⟨q,rfl⟩:∃q,A=some ⟨q,0,none⟩:=by
    rcases z.shape with⟨_,T,_⟩|T
    .rw[T] at b;simp at b
    .exact T
   have Z:=bG fR z b (j:=0) (v:= .int .i64 L[i].e) rfl;have e1:=bG fR z b (j:=1) (v:= .int .i64 L[i].s) rfl;have e2:=bG fR z b (j:=2) (v:= .int .i64 L[i].h.kd) rfl;have e3:=bG fR z b (j:=3) (v:= .int .i64 L[i].h.ob) rfl;have e4:=bG fR z b (j:=4) (v:= .int .i64 L[i].h.rt) rfl;rw[aa3] at Z;have k0:(0:Int)<=i:=aQ;have k1:(i:Int)<(n:Int):=aQ;clear z;have E:L.take (i+1)=L.take i++ [L[i]]:=by rw[abN,aaG b];rfl
   have f:aH ((L.take (i+1)).filterMap (uV o)=R++(if L[i].h.kd=1/\L[i].h.ob=o then [L[i].s] else [])):=by unfold aH;rw[E,XJ,<-l.o.2.1]
   clear E;generalize L[i]=y at *;obtain⟨N,p,r,B,O,y6,y7⟩:=y;simp only at Z e1 e2 e3 e4 f;have HB:=l.o.2.2.2.alloc l.o.2.2.2.size (aI #[N,p,r,B,O] 156);have HW:=l.o.2.2.1.alloc (aI #[N,p,r,B,O] 156);have d:=bH HB HW;clear HB HW;by_cases hc:r=1
   .by_cases hd:B=o
    .have H:aH ((L.take (i+1)).filterMap (uV o)=R++ [p]):=by unfold aH;rw[f.o,aaK ⟨hc,hd⟩]
     clear f;have I:(r==1)=true:=by simp[hc]
     have U:(B==o)=true:=by simp[hd]
     clear hc hd;have V:aH (K.heap.size<=(wr.alloc (aI #[N,p,r,B,O] 156)).heap.size):=d.o.1.size;go_wp2_with(at_builtin;refine bN _ rfl _ _ rfl Lf fX (d.o.2.alloc _) (n:=m) l.o.1.symm rfl (m:=1) rfl (ys:= [p]) rfl (Sl.gK fX (wr.alloc (aI #[N,p,r,B,O] 156)) p _ rfl _ aT) dT aQ (aaR V.o aT) _ rfl (m+1) rfl ?_;intro A9 c9 w9 t J W;(have P:=aP (And.intro t (WX (d.o.1.alloc d.o.1.size _) J (λq hq=>(l.o.2.2.1.lt q hq).1))));clear t J W)
     go_roundw
     case rel=>exact⟨i+1,m+1,A9,c9,R++ [p],by go_num,rfl,aQ,aQ,by rw[aaT,<-l.o.1];rfl,H.o.symm,P.o.1,P.o.2⟩
     case measure=>simp[aL];omega
    .have H:aH ((L.take (i+1)).filterMap (uV o)=R):=by unfold aH;rw[f.o,aaL (λh=>hd h.2),acX]
     clear f;have I:(r==1)=true:=by simp[hc]
     have U:(B==o)=false:=by simp[hd]
     clear hc hd;go_wp2_with fail
     go_roundw
     case rel=>exact⟨i+1,m,u,c2,R,by go_num,rfl,aQ,aQ,l.o.1,H.o.symm,d.o.2,d.o.1⟩
     case measure=>simp[aL];omega
   .have H:aH ((L.take (i+1)).filterMap (uV o)=R):=by unfold aH;rw[f.o,aaL (λh=>hc h.1),acX]
    clear f;have I:(r==1)=false:=by simp[hc]
    clear hc;go_wp2_with fail
    go_roundw
    case rel=>exact⟨i+1,m,u,c2,R,by go_num,rfl,aQ,aQ,l.o.1,H.o.symm,d.o.2,d.o.1⟩
    case measure=>simp[aL];omega
  .obtain rfl:i=n:=aQ;have k1:¬(i:Int)<(i:Int):=aQ;have X:R=L.filterMap (uV o):=by rw[l.o.2.1,aa7 (by rw[<-C.o.1];exact aaH _)]
   have P:aH (Ma (L.filterMap (uV o)) w (.returned (.slice u m c2)) wr):=⟨u,c2,by rw[<-X,<-l.o.1],by rw[<-X];exact l.o.2.2.1.from_ C.o.2.2.size,C.o.2.2.trans (l.o.2.2.2.mono C.o.2.2.size)⟩
   clear X;go_wp2_with fail
   go_ret
   exact P.o
theorem Tj{k:Kv}{o:Int}(hi:i<8)(h:0<(fG k (i:Nat) o).length):mJ k o=true:=by
 unfold mJ;rw[adI];exact⟨i,ab3.2 hi,by simpa using h⟩
theorem Qu{k:Kv}{o:Int}(h:∀i:Nat,i<8->¬0<(fG k (i:Nat) o).length):mJ k o=false:=by
 unfold mJ;rw[List.any_eq_false];intro i hi;have:=h i (ab3.1 hi);simpa using this
theorem RO{a:Ka}{k:Kv}(h:bJ F w g a k)(o:Int):aG prog 151 #[.pointer g,o] w λe w'=>e= .returned (.bool (mJ k o))/\aD w w w':=by
 have v:=aP h;clear h;go_enter func151,ntmps151
 go_wp2_with fail
 go_loopw [6] (λv6 wr=>∃i:Nat,v6= .int .i64 i/\i<=8/\aH ((∀j:Nat,j<i->¬0<(fG k (j:Nat) o).length)/\aD w w wr)) (λv6 _=>8 - (aL v6).toNat)
 case atStart=>exact⟨0,rfl,aQ,λj l=>absurd l (acK _),Below.refl _ _⟩
 case round=>
  obtain⟨i,rfl,hi,b⟩:=hrel;by_cases m:i<8
  .have C:(i:Int)<8:=aQ;have r:=aP (C8 (v.o.below b.o.2).1 (i:Nat) o);have y:aH (∀j:Nat,j<i+1->(∀j:Nat,j<i->¬0<(fG k (j:Nat) o).length)->¬0<(fG k (i:Nat) o).length->¬0<(fG k (j:Nat) o).length):=λj l h1 z=>by
    by_cases he:j=i
    .rw[he];exact z
    .exact h1 j aQ
   have B:aH (0<(fG k (i:Nat) o).length->mJ k o=true):=Tj m;generalize fG k (i:Nat) o=L at *;go_wp2_with fail
   refine aR r ?_;rintro x D ⟨A,c,rfl,own,s⟩;clear own;have t:=aP (b.o.2.trans (s.mono b.o.2.size));clear s r;obtain⟨n,p⟩:∃n,n=L.length:=⟨_,rfl⟩
   rw[<-p];have d:=aP p;clear p;by_cases u:0<n
   .have q:(0:Int)<(n:Int):=aQ;have f:aH (mJ k o=true):=B.o (by rw[<-d.o];exact u);go_wp2_with fail
    go_ret
    rw[f.o];exact⟨rfl,t.o⟩
   .have q:¬(0:Int)<(n:Int):=aQ;have f:aH (¬0<L.length):=by unfold aH;rw[<-d.o];exact u
    go_wp2_with fail
    go_roundw
    case rel=>exact⟨i+1,by go_num,aQ,λj l=>y.o j l b.o.1 f.o,t.o⟩
    case measure=>simp[aL];omega
  .obtain rfl:i=8:=aQ;have f:aH (mJ k o=false):=Qu b.o.1;go_wp2_with fail
   go_ret
   rw[f.o];exact⟨rfl,b.o.2⟩
end
end
section
open Go.RowKit Go.Lib Go.Shelf dH
variable{sz q:Nat}{w:aA}{P:Program}
section
theorem JK:∀(cur:Array aC) (o:Nat) (a:List aC) (j:Nat),j<o->(lay cur o a)[j]?=cur[j]?
 |_,_, [],_,_=>rfl
 |cur,o,v::r,j,hj=>by
  rw[lay,JK _ (o+1) r j aQ,Array.getElem?_setIfInBounds_ne aQ]
theorem QT{α:Type}{enc:α->List aC}{base:Nat}{e:TypeId}{c:Nat}{R:List α}(h:bB enc sz w base e q c R){o:Nat}(ho:R.length *sz<=o)(a:List aC):
 bB enc sz (w.setCells q o a) base e q c R/\w.grownBy (w.setCells q o a) (some q):=by
 obtain⟨cur,h1,b,d,f,g,i⟩:=eK h;refine⟨⟨h.1, .inr ⟨q,c,_,rfl,h1,jJ q e a o w cur b,d,f,by rw[lay_size];exact g,?_⟩⟩,iR q _ _ w w (bE w q)⟩;rw[<-i];apply aeM;intro j;rw[abU,abU];split
 .rw[abG,abG];exact JK cur o a j aQ
 .rfl
theorem BH(w:aA)(t e ty:TypeId)(z:aC)(f:P.underlying t=some (.slice e))(g:∀w,(zeroValue e).run P w= .ok z w)(n:Nat)(zs:List aC)(h:(Builtin.zeroCells z.cells (n+1)).toList=zs)(h1:∀u∈zs,u.oneCell'=true)(b o c:Nat)
 (hc:∀j,j<zs.length->(w.cell? ⟨b,o+j,none⟩).isSome=true/\w.frozen? ⟨b,o+j,none⟩=false):
 (Builtin.clear_ #[t] ty #[.slice (some ⟨b,o,none⟩) (n+1) c]).run P w= .ok (.tuple #[]) (w.setCells b o zs):=by
 have a:=run_storeCells_cells (P:=P) b o zs 0 w (λj d=>(hc j d).1) (λj d=>(hc j d).2) h1;simp only[aa3] at a;simp[Builtin.clear_,run_underlying f,g,h,a]
theorem M7(n:Nat):∀u∈(Builtin.zeroCells (Value.agg #[aU,aU,aU,false]).cells n).toList,u.oneCell'=true:=by
 intro u hu;simp only[Builtin.zeroCells,Array.toList_map,ac1] at hu;obtain⟨i,_,rfl⟩:=hu;have h:i%4=0\/i%4=1\/i%4=2\/i%4=3:=aQ;show(#[Value.int .i64 0,aU,aU,false][i%4]!).oneCell'=true;rcases h with h|h|h|h <;> rw[h] <;> rfl
theorem NR(n:Nat):(Builtin.zeroCells (Value.agg #[aU,aU,aU,false]).cells n).toList.length=n *4:=by
 rw[adF,size_zeroCells];rfl
namespace Df
def gz(a b:Int)(x:En):Bool:=decide (x.frame=b/\x.env=a)
theorem pP(a b:Int)(e:En)(b1 b2:Nat)(w:aA)(n:0<=a)(c1:w.cell? (b1,0)=some (.int .i64 b))(c2:w.cell? (b2,0)=some (.int .i64 a)):
 aG prog 237 #[.agg #[e.env,e.cY,e.frame,e.write], .pointer b1, .pointer b2] w λr w'=>r= .returned (.bool (gz a b e))/\aD w w w':=by
 have h:=aX w (aI #[e.env,e.cY,e.frame,e.write] 396);have j:=aP h;replace c1:=bD h c1;replace c2:=bD h c2;clear h;obtain⟨r0,c⟩:∃r,gz a b e=r:=⟨_,rfl⟩
 rw[c];have k:=aP c;clear c;obtain⟨l,p,i,q⟩:=e;have a0:¬a<0:=aQ;by_cases h1:i=b
 .by_cases d:l=a
  .have f:aH (r0=true):=by unfold aH;rw[<-k.o];simp[gz,h1,d]
   have g:(i==b)=true:=by simp[h1]
   have m:(l==a)=true:=by simp[d]
   clear h1 d;go_enter func237,ntmps237
   go_wp2_with fail
   go_ret
   rw[f.o];exact⟨rfl,j.o⟩
  .have f:aH (r0=false):=by unfold aH;rw[<-k.o];simp[gz,h1,d]
   have g:(i==b)=true:=by simp[h1]
   have m:(l==a)=false:=by simp[d]
   clear h1 d;go_enter func237,ntmps237
   go_wp2_with fail
   go_ret
   rw[f.o];exact⟨rfl,j.o⟩
 .have f:aH (r0=false):=by unfold aH;rw[<-k.o];simp[gz,h1]
  have g:(i==b)=false:=by simp[h1]
  clear h1;go_enter func237,ntmps237
  go_wp2_with fail
  go_ret
  rw[f.o];exact⟨rfl,j.o⟩
theorem lH:∀args w,(callFunc 237 args).run prog w= .ok (.enter 237 args) w:=enters_of func237 aV rfl
def nK(L:List En)(a b:Int):Int:=match L.findIdx? (gz a b) with
 |some i=>(i:Int)
 |none=> -1
variable{L:List En}{p:Int}
theorem vP{a:Int}{k:Nat}(hk:k<L.length)(h:gz a p L[k]=true)(c:∀j,(b:j<k)->gz a p L[j]=false):nK L a p=k:=by
 unfold nK;rw[aa5.2 ⟨hk,h,λj b=>by rw[c j b];simp⟩]
theorem tT{a:Int}(h:∀j,(b:j<L.length)->gz a p L[j]=false):nK L a p= -1:=by
 unfold nK;rw[abP.2 (λx c=>by obtain⟨j,b,rfl⟩:=aa2 c;exact h j b)]
theorem nD(A:Option Addr)(L:List En)(c:Nat)(a p:Int)(b1 b2:Nat)(w:aA)(r:0<=a)(hs:Sl eE 4 w A L)(v:L.length<=1000)(c1:w.cell? (b1,0)=some (.int .i64 p))(c2:w.cell? (b2,0)=some (.int .i64 a)):
 aG prog 274 #[(A,L.length,c), .func (.func 237) #[] #[.pointer b1, .pointer b2]] w λe w'=>e= .returned (.int .i64 (nK L a p))/\aD w w w':=by
 have x:=lH;go_enter func274,ntmps274
 go_wp2
 go_loopw [5,8] (λ_ s wr=>∃k:Nat,k<=L.length/\s= .int .i64 k/\aD w w wr/\aH (∀j,(d:j<L.length)->j<k->gz a p L[j]=false)) (λ_ i _=>L.length - (aL i).toNat)
 case atStart=>exact⟨0,aaQ _,rfl,Below.refl _ w,λj d h=>absurd h (acK _)⟩
 case round=>
  obtain⟨k,hk,rfl,f,l⟩:=hrel;by_cases g:k<L.length
  .obtain⟨b,off,rfl,z,B,C,D⟩:=(hs.keep f).PG g;have E:(0:Int)<=k:=aQ;have F:(k:Int)<(L.length:Int):=aQ;have hc:=pP a p L[k] b1 b2 wr r (bD f c1) (bD f c2);have HQ:aH (gz a p L[k]=true->nK L a p=k):=λh=>vP g h (λj d=>l.o j aQ d)
   have t:aH (gz a p L[k]=false->∀j,(d:j<L.length)->j<k+1->gz a p L[j]=false):=λh j d u=>by
    by_cases he:j=k
    .subst he;exact h
    .exact l.o j d aQ
   clear l;generalize L[k]=y at *;cases hq:gz a p y with
   |true=>
    rw[hq] at hc;have m:=aP (HQ.o hq);go_wp2_with(go_at_fn 237;(with_reducible refine hc.mono ?_);rintro e w' ⟨rfl,n⟩)
    go_ret
    exact⟨gY m.o.symm,dQ f (aaH _) n⟩
   |false=>
    rw[hq] at hc;have q:=aP (t.o hq);go_wp2_with(go_at_fn 237;(with_reducible refine hc.mono ?_);rintro e w' ⟨rfl,n⟩)
    go_roundw
    case rel=>exact⟨k+1,aQ,by go_num,dQ f (aaH _) n,q.o⟩
    case measure=>simp[aL];omega
  .obtain rfl:k=L.length:=aQ;go_wp2
   go_ret
   exact⟨gY (tT (λj d=>l.o j d d)).symm,f⟩
def st(L:List En)(a p:Int):List En:=L.filter λx=>!(gz a p x)
theorem LU{a:Int}(h:L.findIdx? (gz a p)=none):st L a p=L:=by
 rw[abP] at h;exact ae0.2 λx b=>by rw[h x b];rfl
variable{i:Nat}
theorem LY{a:Int}(h:L.findIdx? (gz a p)=some i):st (L.take (i+1)) a p=L.take i:=by
 obtain⟨hi,h1,b⟩:=aa5.1 h;unfold st;rw[abN,aaG hi,acR];have c:(L.take i).filter (λx=>!(gz a p x))=L.take i:=ae0.2 λx d=>by
  obtain⟨j,e,rfl⟩:=aa2 d;rw[aa9] at e;rw[ad1];have:=b j aQ;simpa using this
 rw[c];simp[h1]
variable{j:Nat}
theorem BI{a:Int}(b:j<L.length):st (L.take (j+1)) a p=st (L.take j) a p++(if gz a p L[j] then [] else [L[j]]):=by
 unfold st;rw[abN,aaG b,acR];cases h:gz a p L[j] <;> simp[h]
structure pX(L:List En)(a p:Int)(w wr:aA)(base q c i j:Nat)(R:List En):Prop where
 len:R.length=L.length
 tk:R.take i=st (L.take j) a p
 dr:R.drop j=L.drop j
 o:bB eE 4 wr base 396 q c R
 g:w.grownBy wr (some q)
 il:i<j/\j<=L.length
variable{R:List En}{wr:aA}
theorem pX.at_{a:Int}{base c:Nat}(h:pX L a p w wr base q c i j R)(d:j<L.length):∃b:j<R.length,R[j]=L[j]:=by
 have b:j<R.length:=by have:=h.len;omega
 refine⟨b,?_⟩;have:=congrArg (λl=>l[0]?) h.dr;simp only[acL,aa3] at this;rw[aaG b,aaG d] at this;exact Option.some.inj this
variable{w':aA}
theorem pX.skip{a:Int}{base c:Nat}(h:pX L a p w wr base q c i j R)(d:j<L.length)(e:gz a p L[j]=true)(b:aD wr wr w'):pX L a p w w' base q c i (j+1) R:=by
 refine⟨h.len,?_,?_,h.o.keep b,mU h.g b,by have:=h.il;omega⟩
 .rw[BI d,e,aaK rfl,acX];exact h.tk
 .have:=congrArg (List.drop 1) h.dr;simpa[ad7] using this
theorem pX.move{a:Int}{base c:Nat}(h:pX L a p w wr base q c i j R)(e:j<L.length)(f:gz a p L[j]=false)(d:aD wr wr w'):pX L a p w (w'.setCells q (i *4) (eE L[j])) base q c (i+1) (j+1) (R.set i L[j]):=by
 have b:i<R.length:=by have:=h.il;have:=h.len;omega
 obtain⟨o1,o2⟩:=GH qJ.len aQ (h.o.keep d) b L[j];refine⟨by rw[aaV];exact h.len,?_,?_,o1,lG (mU h.g d) o2,by have:=h.il;omega⟩
 .rw[BI e,f,<-h.tk,abN,adC b,List.take_set_of_le (aaH _)];simp
 .rw[List.drop_set_of_lt (by have:=h.il;omega)];have:=congrArg (List.drop 1) h.dr;simpa[ad7] using this
def yE(L:List En)(a p:Int)(q c base:Nat)(w:aA)(e:aM)(w':aA):Prop:=e= .returned (.slice q (st L a p).length c)/\bB eE 4 w' base 396 q c (st L a p)/\w.grownBy w' (some q)
theorem I9(q c base:Nat)(L:List En)(a p:Int)(b1 b2:Nat)(w:aA)(ha:0<=a)(own:bB eE 4 w base 396 q c L)(hl:L.length<=1000)(K:b1≠q)(M:b2≠q)(c1:w.cell? (b1,0)=some (.int .i64 p))(c2:w.cell? (b2,0)=some (.int .i64 a)):
 aG prog 247 #[.slice q L.length c, .func (.func 237) #[] #[.pointer b1, .pointer b2]] w (yE L a p q c base w):=by
 have eg:=lH;have d:=nD q L c a p b1 b2 w ha (own.sl qJ) hl c1 c2;have HO:=aP own;obtain⟨n,F⟩:∃n,n=L.length:=⟨_,rfl⟩
 have G:=aP F;rw[<-F] at d hl⊢;cases k:L.findIdx? (gz a p) with
 |none=>
  have hp:nK L a p= -1:=by unfold nK;rw[k]
  rw[hp] at d;have d:=aP d;have H:=aP (LU k);clear k hp own F;go_enter func247,ntmps247
  go_wp2_with fail
  refine aR d ?_;rintro e w2 ⟨rfl,b⟩;go_wp2_with fail
  go_ret
  unfold yE;rw[H.o];exact⟨by rw[G.o];rfl,HO.o.keep b,mU (bE w q) b⟩
 |some i=>
  have hp:nK L a p=(i:Int):=by unfold nK;rw[k]
  rw[hp] at d;have d:=aP d;have hi:i<n:=by have:=(aa5.1 k).1;omega
  have H:=aP (LY k);have v:aH (L.length<=c/\c<=maxLen):=by obtain⟨_,_,_,h3,h4,_,_⟩:=eK own;exact⟨h3,h4⟩
  clear k hp F;go_enter func247,ntmps247
  go_wp2_with fail
  refine aR d ?_;rintro e w2 ⟨rfl,b⟩;have x:aH (pX L a p w w2 base q c i (i+1) L):=⟨rfl,H.o.symm,rfl,HO.o.keep b,mU (bE w q) b,aQ,by have:=G.o;omega⟩
  have i1:((i:Int)== -1)=false:=by rw[ae1];omega
  clear b own H;go_wp2_with fail
  go_loopw [5,6] (λv5 v6 wr=>∃(i j:Nat) (R:List En),v5= .int .i64 i/\v6= .int .i64 j/\i<j/\j<=n/\aH (pX L a p w wr base q c i j R)) (λ_ v6 _=>n - (aL v6).toNat)
  case atStart=>exact⟨i,i+1,L,rfl,by go_num,aQ,aQ,x⟩
  case round=>
   clear x;obtain⟨i,j,R,rfl,rfl,hij,hj,f⟩:=hrel;by_cases hlt:j<n
   .have l:j<L.length:=by have:=G.o;omega
    obtain⟨N,he⟩:=f.o.at_ l;have z:i<R.length:=aQ;obtain⟨y0,y1,y2,y3⟩:=FW f.o.o N;rw[he] at y0 y1 y2 y3;have O:wr.cell? (b1,0)=some (.int .i64 p):=by rw[World.cell?_of_block (w:=w) (f.o.g.block b1 (World.block_lt_of_cell? w _ c1) (λe=>K (by injection e)))];exact c1
    have P:wr.cell? (b2,0)=some (.int .i64 a):=by rw[World.cell?_of_block (w:=w) (f.o.g.block b2 (World.block_lt_of_cell? w _ c2) (λe=>M (by injection e)))];exact c2
    have I:=aX wr (aI #[.int .i64 L[j].env, .int .i64 L[j].cY, .int .i64 L[j].frame, .bool L[j].write] 396);have hc:=pP a p L[j] b1 b2 _ ha (bD I O) (bD I P);have r:aH (gz a p L[j]=true->∀W,aD wr wr W->pX L a p w W base q c i (j+1) R):=λQ W b=>f.o.skip l Q b
    have s:aH (gz a p L[j]=false->∀W,aD wr wr W->pX L a p w (W.setCells q (i *4) (eE L[j])) base q c (i+1) (j+1) (R.set i L[j])):=λQ W b=>f.o.move l Q b
    have S:aH (∀W,aD wr wr W->(W.cell? (q,i *4)=some (.int .i64 R[i].env)/\W.cell? (q,i *4+1)=some (.int .i64 R[i].cY)/\W.cell? (q,i *4+2)=some (.int .i64 R[i].frame)/\W.cell? (q,i *4+3)=some (.bool R[i].write))/\W.frozen? (q,i *4)=false/\W.frozen? (q,i *4+1)=false/\W.frozen? (q,i *4+2)=false/\W.frozen? (q,i *4+3)=false):=λW b=>by
     have ho:=f.o.o.keep b;have T:=v.o.1;have hc2:=f.o.len;exact⟨FW ho z,(cH ho _ aQ).2,(cH ho _ aQ).2,(cH ho _ aQ).2,(cH ho _ aQ).2⟩
    generalize R[i]=ri at *;have yb:=bC.new wr 396 #[.int .i64 L[j].env, .int .i64 L[j].cY, .int .i64 L[j].frame, .bool L[j].write];have j0:(0:Int)<=j:=aQ;have j1:(j:Int)<(n:Int):=aQ;have i0:(0:Int)<=i:=aQ;have i1:(i:Int)<(n:Int):=aQ;generalize L[j]=y at *;clear he f;obtain⟨J,z2,z3,z4⟩:=y;simp only at y0 y1 y2 y3 hc;have h:=aP I;clear I;cases hq:gz a p ⟨J,z2,z3,z4⟩ with
    |true=>
     rw[hq] at hc;have A:=aP (r.o hq);clear hq r s;go_wp2_with(go_at_fn 237;(with_reducible refine hc.mono ?_);rintro e w' ⟨rfl,b⟩;(have U:=aP (A.o w' (h.o.trans (b.mono aT))));clear b)
     go_roundw
     case rel=>exact⟨i,j+1,R,rfl,by go_num,aQ,aQ,U.o⟩
     case measure=>simp[aL];omega
    |false=>
     rw[hq] at hc;have B:=aP (s.o hq);have C:aH (wr.heap.size<=(wr.alloc (aI #[J,z2,z3,z4] 396)).heap.size):=h.o.size;clear hq r s;go_wp2_with(go_at_fn 237;(with_reducible refine hc.mono ?_);rintro e w4 ⟨rfl,b⟩;(have U:=aP (B.o w4 (h.o.trans (b.mono C.o))));(have x0:=bD b (yb.cell 0 J rfl));(have x1:=bD b (yb.cell 1 z2 rfl));(have x2:=bD b (yb.cell 2 z3 rfl));(have x3:=bD b (yb.cell 3 (.bool z4) rfl));(obtain⟨⟨r0,r1,r2,r3⟩,f0,f1,f2,f3⟩:=S.o w4 (h.o.trans (b.mono C.o)));clear b yb)
     go_roundw
     case rel=>exact⟨i+1,j+1,R.set i ⟨J,z2,z3,z4⟩,by go_num,by go_num,aQ,aQ,U.o⟩
     case measure=>simp[aL];omega
   .obtain rfl:j=n:=aQ;have j1:¬(j:Int)<(j:Int):=aQ;have D:j=L.length:=G.o;have V:R.take i=st L a p:=by have:=f.o.tk;rw[D,acJ] at this;exact this
    have z:i<R.length:=by have:=f.o.len;omega
    have o1:=UC qJ.len f.o.o (n:=i) aQ;rw[V] at o1;have u:(st L a p).length=i:=by rw[<-V,aa9];omega
    have E:=NR (j - i);have HZ:aH (yE L a p q c base w (.returned (.slice q i c)) (wr.setCells q (i *4) (Builtin.zeroCells (Value.agg #[aU,aU,aU,false]).cells (j - i)).toList)):=by
     obtain⟨t1,t2⟩:=QT o1 (o:=i *4) (by rw[u];omega) (Builtin.zeroCells (Value.agg #[aU,aU,aU,false]).cells (j - i)).toList;exact⟨by rw[u],t1,lG f.o.g t2⟩
    obtain⟨m,hm⟩:∃m,j - i=m+1:=⟨j - i - 1,aQ⟩
    have X:∀ty Y Z,Y=j - i->(Builtin.clear_ #[312] ty #[.slice (some ⟨q,i *4,none⟩) Y Z]).run prog wr= .ok (.tuple #[]) (wr.setCells q (i *4) (Builtin.zeroCells (Value.agg #[aU,aU,aU,false]).cells (j - i)).toList):=λty Y Z a1=>by
     rw[a1,hm];exact BH wr _ 396 ty _ underlying312 MM m _ rfl (M7 _) q (i *4) Z (λt ht=>by
      rw[<-hm,E] at ht;have T:=v.o.1;exact cH f.o.o (i *4+t) aQ)
    have ic1:i<=c:=by have:=v.o.1;omega
    have jc1:j<=c:=by have:=v.o.1;omega
    have cm:c<=maxLen:=v.o.2;simp only[maxLen] at cm;have i0:(0:Int)<=i:=aQ;have i1:(i:Int)<=(j:Int):=aQ;clear V o1 u E f D;go_wp2_with(at_builtin;exact X _ _ _ aQ)
    go_ret
    have hh:=HZ.o;rw[hm] at hh;exact hh
def CJ(F:Nat->Prop)(g:Nat)(L:List En)(a p:Int)(w:aA)(e:aM)(w':aA):Prop:=∃v:Int,e= .returned (.int .i64 v)/\iJ F w' g (st L a p)/\Kp F w w'
end Df
namespace Dr
def gz(a b:Int)(x:En):Bool:=decide (x.env=a/\x.cY=b)
theorem pP(a b:Int)(e:En)(b1 b2:Nat)(w:aA)(c1:w.cell? (b1,0)=some (.int .i64 a))(c2:w.cell? (b2,0)=some (.int .i64 b)):
 aG prog 212 #[.agg #[e.env,e.cY,e.frame,e.write], .pointer b1, .pointer b2] w λr w'=>r= .returned (.bool (gz a b e))/\aD w w w':=by
 have h:=aX w (aI #[e.env,e.cY,e.frame,e.write] 396);have j:=aP h;replace c1:=bD h c1;replace c2:=bD h c2;clear h;obtain⟨r0,c⟩:∃r,gz a b e=r:=⟨_,rfl⟩
 rw[c];have k:=aP c;clear c;obtain⟨i,l,n,p⟩:=e;skip
 by_cases h1:i=a
 .by_cases d:l=b
  .have f:aH (r0=true):=by unfold aH;rw[<-k.o];simp[gz,h1,d]
   have g:(i==a)=true:=by simp[h1]
   have m:(l==b)=true:=by simp[d]
   clear h1 d;go_enter func212,ntmps212
   go_wp2_with fail
   go_ret
   rw[f.o];exact⟨rfl,j.o⟩
  .have f:aH (r0=false):=by unfold aH;rw[<-k.o];simp[gz,h1,d]
   have g:(i==a)=true:=by simp[h1]
   have m:(l==b)=false:=by simp[d]
   clear h1 d;go_enter func212,ntmps212
   go_wp2_with fail
   go_ret
   rw[f.o];exact⟨rfl,j.o⟩
 .have f:aH (r0=false):=by unfold aH;rw[<-k.o];simp[gz,h1]
  have g:(i==a)=false:=by simp[h1]
  clear h1;go_enter func212,ntmps212
  go_wp2_with fail
  go_ret
  rw[f.o];exact⟨rfl,j.o⟩
theorem lH:∀args w,(callFunc 212 args).run prog w= .ok (.enter 212 args) w:=enters_of func212 aV rfl
def nK(L:List En)(a b:Int):Int:=match L.findIdx? (gz a b) with
 |some i=>(i:Int)
 |none=> -1
variable{L:List En}{p:Int}
theorem vP{a:Int}{k:Nat}(hk:k<L.length)(h:gz a p L[k]=true)(c:∀j,(b:j<k)->gz a p L[j]=false):nK L a p=k:=by
 unfold nK;rw[aa5.2 ⟨hk,h,λj b=>by rw[c j b];simp⟩]
theorem tT{a:Int}(h:∀j,(b:j<L.length)->gz a p L[j]=false):nK L a p= -1:=by
 unfold nK;rw[abP.2 (λx c=>by obtain⟨j,b,rfl⟩:=aa2 c;exact h j b)]
theorem nD(A:Option Addr)(L:List En)(c:Nat)(a p:Int)(b1 b2:Nat)(w:aA)(hs:Sl eE 4 w A L)(u:L.length<=1000)(c1:w.cell? (b1,0)=some (.int .i64 a))(c2:w.cell? (b2,0)=some (.int .i64 p)):
 aG prog 274 #[(A,L.length,c), .func (.func 212) #[] #[.pointer b1, .pointer b2]] w λe w'=>e= .returned (.int .i64 (nK L a p))/\aD w w w':=by
 have v:=lH;go_enter func274,ntmps274
 go_wp2
 go_loopw [5,8] (λ_ r wr=>∃k:Nat,k<=L.length/\r= .int .i64 k/\aD w w wr/\aH (∀j,(d:j<L.length)->j<k->gz a p L[j]=false)) (λ_ i _=>L.length - (aL i).toNat)
 case atStart=>exact⟨0,aaQ _,rfl,Below.refl _ w,λj d h=>absurd h (acK _)⟩
 case round=>
  obtain⟨k,hk,rfl,f,l⟩:=hrel;by_cases g:k<L.length
  .obtain⟨b,off,rfl,x,z,B,C⟩:=(hs.keep f).PG g;have D:(0:Int)<=k:=aQ;have E:(k:Int)<(L.length:Int):=aQ;have hc:=pP a p L[k] b1 b2 wr (bD f c1) (bD f c2);have HQ:aH (gz a p L[k]=true->nK L a p=k):=λh=>vP g h (λj d=>l.o j aQ d)
   have s:aH (gz a p L[k]=false->∀j,(d:j<L.length)->j<k+1->gz a p L[j]=false):=λh j d t=>by
    by_cases he:j=k
    .subst he;exact h
    .exact l.o j d aQ
   clear l;generalize L[k]=y at *;cases hq:gz a p y with
   |true=>
    rw[hq] at hc;have m:=aP (HQ.o hq);go_wp2_with(go_at_fn 212;(with_reducible refine hc.mono ?_);rintro e w' ⟨rfl,n⟩)
    go_ret
    exact⟨gY m.o.symm,dQ f (aaH _) n⟩
   |false=>
    rw[hq] at hc;have q:=aP (s.o hq);go_wp2_with(go_at_fn 212;(with_reducible refine hc.mono ?_);rintro e w' ⟨rfl,n⟩)
    go_roundw
    case rel=>exact⟨k+1,aQ,by go_num,dQ f (aaH _) n,q.o⟩
    case measure=>simp[aL];omega
  .obtain rfl:k=L.length:=aQ;go_wp2
   go_ret
   exact⟨gY (tT (λj d=>l.o j d d)).symm,f⟩
def st(L:List En)(a p:Int):List En:=L.filter λx=>!(gz a p x)
theorem LU{a:Int}(h:L.findIdx? (gz a p)=none):st L a p=L:=by
 rw[abP] at h;exact ae0.2 λx b=>by rw[h x b];rfl
variable{i:Nat}
theorem LY{a:Int}(h:L.findIdx? (gz a p)=some i):st (L.take (i+1)) a p=L.take i:=by
 obtain⟨hi,h1,b⟩:=aa5.1 h;unfold st;rw[abN,aaG hi,acR];have c:(L.take i).filter (λx=>!(gz a p x))=L.take i:=ae0.2 λx d=>by
  obtain⟨j,e,rfl⟩:=aa2 d;rw[aa9] at e;rw[ad1];have:=b j aQ;simpa using this
 rw[c];simp[h1]
variable{j:Nat}
theorem BI{a:Int}(b:j<L.length):st (L.take (j+1)) a p=st (L.take j) a p++(if gz a p L[j] then [] else [L[j]]):=by
 unfold st;rw[abN,aaG b,acR];cases h:gz a p L[j] <;> simp[h]
structure pX(L:List En)(a p:Int)(w wr:aA)(base q c i j:Nat)(R:List En):Prop where
 len:R.length=L.length
 tk:R.take i=st (L.take j) a p
 dr:R.drop j=L.drop j
 o:bB eE 4 wr base 396 q c R
 g:w.grownBy wr (some q)
 il:i<j/\j<=L.length
variable{R:List En}{wr:aA}
theorem pX.at_{a:Int}{base c:Nat}(h:pX L a p w wr base q c i j R)(d:j<L.length):∃b:j<R.length,R[j]=L[j]:=by
 have b:j<R.length:=by have:=h.len;omega
 refine⟨b,?_⟩;have:=congrArg (λl=>l[0]?) h.dr;simp only[acL,aa3] at this;rw[aaG b,aaG d] at this;exact Option.some.inj this
variable{w':aA}
theorem pX.skip{a:Int}{base c:Nat}(h:pX L a p w wr base q c i j R)(d:j<L.length)(e:gz a p L[j]=true)(b:aD wr wr w'):pX L a p w w' base q c i (j+1) R:=by
 refine⟨h.len,?_,?_,h.o.keep b,mU h.g b,by have:=h.il;omega⟩
 .rw[BI d,e,aaK rfl,acX];exact h.tk
 .have:=congrArg (List.drop 1) h.dr;simpa[ad7] using this
theorem pX.move{a:Int}{base c:Nat}(h:pX L a p w wr base q c i j R)(e:j<L.length)(f:gz a p L[j]=false)(d:aD wr wr w'):pX L a p w (w'.setCells q (i *4) (eE L[j])) base q c (i+1) (j+1) (R.set i L[j]):=by
 have b:i<R.length:=by have:=h.il;have:=h.len;omega
 obtain⟨o1,o2⟩:=GH qJ.len aQ (h.o.keep d) b L[j];refine⟨by rw[aaV];exact h.len,?_,?_,o1,lG (mU h.g d) o2,by have:=h.il;omega⟩
 .rw[BI e,f,<-h.tk,abN,adC b,List.take_set_of_le (aaH _)];simp
 .rw[List.drop_set_of_lt (by have:=h.il;omega)];have:=congrArg (List.drop 1) h.dr;simpa[ad7] using this
def yE(L:List En)(a p:Int)(q c base:Nat)(w:aA)(e:aM)(w':aA):Prop:=e= .returned (.slice q (st L a p).length c)/\bB eE 4 w' base 396 q c (st L a p)/\w.grownBy w' (some q)
theorem I9(q c base:Nat)(L:List En)(a p:Int)(b1 b2:Nat)(w:aA)(own:bB eE 4 w base 396 q c L)(hl:L.length<=1000)(K:b1≠q)(M:b2≠q)(c1:w.cell? (b1,0)=some (.int .i64 a))(c2:w.cell? (b2,0)=some (.int .i64 p)):
 aG prog 247 #[.slice q L.length c, .func (.func 212) #[] #[.pointer b1, .pointer b2]] w (yE L a p q c base w):=by
 have eg:=lH;have d:=nD q L c a p b1 b2 w (own.sl qJ) hl c1 c2;have HO:=aP own;obtain⟨n,F⟩:∃n,n=L.length:=⟨_,rfl⟩
 have G:=aP F;rw[<-F] at d hl⊢;cases k:L.findIdx? (gz a p) with
 |none=>
  have hp:nK L a p= -1:=by unfold nK;rw[k]
  rw[hp] at d;have d:=aP d;have H:=aP (LU k);clear k hp own F;go_enter func247,ntmps247
  go_wp2_with fail
  refine aR d ?_;rintro e w2 ⟨rfl,b⟩;go_wp2_with fail
  go_ret
  unfold yE;rw[H.o];exact⟨by rw[G.o];rfl,HO.o.keep b,mU (bE w q) b⟩
 |some i=>
  have hp:nK L a p=(i:Int):=by unfold nK;rw[k]
  rw[hp] at d;have d:=aP d;have hi:i<n:=by have:=(aa5.1 k).1;omega
  have H:=aP (LY k);have v:aH (L.length<=c/\c<=maxLen):=by obtain⟨_,_,_,h3,h4,_,_⟩:=eK own;exact⟨h3,h4⟩
  clear k hp F;go_enter func247,ntmps247
  go_wp2_with fail
  refine aR d ?_;rintro e w2 ⟨rfl,b⟩;have x:aH (pX L a p w w2 base q c i (i+1) L):=⟨rfl,H.o.symm,rfl,HO.o.keep b,mU (bE w q) b,aQ,by have:=G.o;omega⟩
  have i1:((i:Int)== -1)=false:=by rw[ae1];omega
  clear b own H;go_wp2_with fail
  go_loopw [5,6] (λv5 v6 wr=>∃(i j:Nat) (R:List En),v5= .int .i64 i/\v6= .int .i64 j/\i<j/\j<=n/\aH (pX L a p w wr base q c i j R)) (λ_ v6 _=>n - (aL v6).toNat)
  case atStart=>exact⟨i,i+1,L,rfl,by go_num,aQ,aQ,x⟩
  case round=>
   clear x;obtain⟨i,j,R,rfl,rfl,hij,hj,f⟩:=hrel;by_cases hlt:j<n
   .have l:j<L.length:=by have:=G.o;omega
    obtain⟨N,he⟩:=f.o.at_ l;have z:i<R.length:=aQ;obtain⟨y0,y1,y2,y3⟩:=FW f.o.o N;rw[he] at y0 y1 y2 y3;have O:wr.cell? (b1,0)=some (.int .i64 a):=by rw[World.cell?_of_block (w:=w) (f.o.g.block b1 (World.block_lt_of_cell? w _ c1) (λe=>K (by injection e)))];exact c1
    have P:wr.cell? (b2,0)=some (.int .i64 p):=by rw[World.cell?_of_block (w:=w) (f.o.g.block b2 (World.block_lt_of_cell? w _ c2) (λe=>M (by injection e)))];exact c2
    have I:=aX wr (aI #[.int .i64 L[j].env, .int .i64 L[j].cY, .int .i64 L[j].frame, .bool L[j].write] 396);have hc:=pP a p L[j] b1 b2 _ (bD I O) (bD I P);have r:aH (gz a p L[j]=true->∀W,aD wr wr W->pX L a p w W base q c i (j+1) R):=λQ W b=>f.o.skip l Q b
    have s:aH (gz a p L[j]=false->∀W,aD wr wr W->pX L a p w (W.setCells q (i *4) (eE L[j])) base q c (i+1) (j+1) (R.set i L[j])):=λQ W b=>f.o.move l Q b
    have S:aH (∀W,aD wr wr W->(W.cell? (q,i *4)=some (.int .i64 R[i].env)/\W.cell? (q,i *4+1)=some (.int .i64 R[i].cY)/\W.cell? (q,i *4+2)=some (.int .i64 R[i].frame)/\W.cell? (q,i *4+3)=some (.bool R[i].write))/\W.frozen? (q,i *4)=false/\W.frozen? (q,i *4+1)=false/\W.frozen? (q,i *4+2)=false/\W.frozen? (q,i *4+3)=false):=λW b=>by
     have ho:=f.o.o.keep b;have T:=v.o.1;have hc2:=f.o.len;exact⟨FW ho z,(cH ho _ aQ).2,(cH ho _ aQ).2,(cH ho _ aQ).2,(cH ho _ aQ).2⟩
    generalize R[i]=ri at *;have yb:=bC.new wr 396 #[.int .i64 L[j].env, .int .i64 L[j].cY, .int .i64 L[j].frame, .bool L[j].write];have j0:(0:Int)<=j:=aQ;have j1:(j:Int)<(n:Int):=aQ;have i0:(0:Int)<=i:=aQ;have i1:(i:Int)<(n:Int):=aQ;generalize L[j]=y at *;clear he f;obtain⟨J,z2,z3,z4⟩:=y;simp only at y0 y1 y2 y3 hc;have h:=aP I;clear I;cases hq:gz a p ⟨J,z2,z3,z4⟩ with
    |true=>
     rw[hq] at hc;have A:=aP (r.o hq);clear hq r s;go_wp2_with(go_at_fn 212;(with_reducible refine hc.mono ?_);rintro e w' ⟨rfl,b⟩;(have U:=aP (A.o w' (h.o.trans (b.mono aT))));clear b)
     go_roundw
     case rel=>exact⟨i,j+1,R,rfl,by go_num,aQ,aQ,U.o⟩
     case measure=>simp[aL];omega
    |false=>
     rw[hq] at hc;have B:=aP (s.o hq);have C:aH (wr.heap.size<=(wr.alloc (aI #[J,z2,z3,z4] 396)).heap.size):=h.o.size;clear hq r s;go_wp2_with(go_at_fn 212;(with_reducible refine hc.mono ?_);rintro e w4 ⟨rfl,b⟩;(have U:=aP (B.o w4 (h.o.trans (b.mono C.o))));(have x0:=bD b (yb.cell 0 J rfl));(have x1:=bD b (yb.cell 1 z2 rfl));(have x2:=bD b (yb.cell 2 z3 rfl));(have x3:=bD b (yb.cell 3 (.bool z4) rfl));(obtain⟨⟨r0,r1,r2,r3⟩,f0,f1,f2,f3⟩:=S.o w4 (h.o.trans (b.mono C.o)));clear b yb)
     go_roundw
     case rel=>exact⟨i+1,j+1,R.set i ⟨J,z2,z3,z4⟩,by go_num,by go_num,aQ,aQ,U.o⟩
     case measure=>simp[aL];omega
   .obtain rfl:j=n:=aQ;have j1:¬(j:Int)<(j:Int):=aQ;have D:j=L.length:=G.o;have V:R.take i=st L a p:=by have:=f.o.tk;rw[D,acJ] at this;exact this
    have z:i<R.length:=by have:=f.o.len;omega
    have o1:=UC qJ.len f.o.o (n:=i) aQ;rw[V] at o1;have u:(st L a p).length=i:=by rw[<-V,aa9];omega
    have E:=NR (j - i);have HZ:aH (yE L a p q c base w (.returned (.slice q i c)) (wr.setCells q (i *4) (Builtin.zeroCells (Value.agg #[aU,aU,aU,false]).cells (j - i)).toList)):=by
     obtain⟨t1,t2⟩:=QT o1 (o:=i *4) (by rw[u];omega) (Builtin.zeroCells (Value.agg #[aU,aU,aU,false]).cells (j - i)).toList;exact⟨by rw[u],t1,lG f.o.g t2⟩
    obtain⟨m,hm⟩:∃m,j - i=m+1:=⟨j - i - 1,aQ⟩
    have X:∀ty Y Z,Y=j - i->(Builtin.clear_ #[312] ty #[.slice (some ⟨q,i *4,none⟩) Y Z]).run prog wr= .ok (.tuple #[]) (wr.setCells q (i *4) (Builtin.zeroCells (Value.agg #[aU,aU,aU,false]).cells (j - i)).toList):=λty Y Z a1=>by
     rw[a1,hm];exact BH wr _ 396 ty _ underlying312 MM m _ rfl (M7 _) q (i *4) Z (λt ht=>by
      rw[<-hm,E] at ht;have T:=v.o.1;exact cH f.o.o (i *4+t) aQ)
    have ic1:i<=c:=by have:=v.o.1;omega
    have jc1:j<=c:=by have:=v.o.1;omega
    have cm:c<=maxLen:=v.o.2;simp only[maxLen] at cm;have i0:(0:Int)<=i:=aQ;have i1:(i:Int)<=(j:Int):=aQ;clear V o1 u E f D;go_wp2_with(at_builtin;exact X _ _ _ aQ)
    go_ret
    have hh:=HZ.o;rw[hm] at hh;exact hh
def CJ(F:Nat->Prop)(g:Nat)(L:List En)(a p:Int)(w:aA)(e:aM)(w':aA):Prop:=∃v:Int,e= .returned (.int .i64 v)/\iJ F w' g (st L a p)/\Kp F w w'
end Dr
end
end
end Go.Proofs.YtacgiflhgdaeaaaGreat
