/- Texts laid as one. -/
import Derived.Shelf.Abstract
import Derived.Test.YtacgiflhgdaeaaaGreatZ2
import Derived.Test.YtacgiflhgdaeaaaGreatZ3
import Derived.Test.YtacgiflhgdaeaaaGreatZ4
import Derived.Test.YtacgiflhgdaeaaaGreatZ9
set_option linter.unusedVariables false
set_option linter.unusedSimpArgs false
set_option maxRecDepth 100000
set_option maxHeartbeats 20000000
namespace Go.Proofs.YtacgiflhgdaeaaaGreat
open Go.Proofs.Tryz
open Go renaming World->aA,Value->aC,Calls->aG
open Go.RowKit renaming Hid->aH
open Go.Obj renaming cells->aI
section
open Go.RowKit Go.Lib Go.Shelf
variable{F:Nat->Prop}{w:aA}{g q i n:Nat}{s:Sd}
section
def Fb(F:Nat->Prop)(q:Nat):Nat->Prop:=λb=>F b\/b=q
section
variable{F G:Nat->Prop}{w w':aA}{q:Nat}{X:(Nat->Prop)->aA->Prop}
theorem Fb.ol(h:Ol F w)(hw:w.heap.size<=w'.heap.size)(hq:q<w'.heap.size):Ol (Fb F q) w':=λb a=>by
 rcases a with a|rfl
 .exact aaJ (h b a) hw
 .exact hq
theorem dV.box(M:dV X)(h:X F w)(fl:Ol F w)(o:Obj):X (Fb F w) (w.alloc o):=
 M F (λb=>b<w.heap.size) _ w _ h (Kp.dD (aX w o) λ_ a=>a) (λ_ c _=>c) (Fb.ol fl aT aT) (λr c e a=>by
  rcases a with a|a
  .exact e a
  .omega)
theorem dV.unbox(M:dV X)(h:X (Fb F q) w)(fl:Ol F w)(f:w.grownBy w' (some q)):X F w':=
 M (Fb F q) (λb=>b<w.heap.size/\b≠q) _ w _ h (Kp.grown f λb a=>⟨a.1,λe=>a.2 (by injection e)⟩) (λr k c=>⟨k,λe=>c (.inr e)⟩) (λb a=>aaJ (fl b a) f.size) (λr k c a=>c (.inl a))
theorem Kp.unbox(k:Kp (Fb F q) w w'):Kp F w w':=k.mono λ_ a=> .inl a
end
theorem lM.less(h:lM (Fb F q) w g s):lM F w g s:=(lM.bX g s).unbox h (λb a=>h.fl b (.inl a)) (bE w q)
section
variable{F G H:Nat->Prop}{w w':aA}{ow:Nat->Nat}{g q i j d:Nat}{s:Sd}{R:List Pm}{M:Option Nat}{B:Option Addr}
theorem IP.rd{r:Pm}{p:Pv}(h:IP w ow i r p)(b:Bool):IP w ow i {r with rd:=b} {p with rd:=b}:=⟨rfl,h.2.1,h.2.2⟩
theorem iG.setRow(h:iG F w g s ow q R M B d)(hi:i<R.length)(c:i<s.P.length)(x:Pm)(f:Pv->Pv)(l:j<2)(v:aC)(n:LF x=(LF R[i]).set j v)(hm:IP w ow i x (f s.P[i])):iG F (w.setCell (q,i *2+j) v) g {s with P:=s.P.modify i f} (nx w ow 2) q (R.set i x) M B d/\Kp F w (w.setCell (q,i *2+j) v):=by
 obtain⟨h1,o⟩:=qR RR.len h.row hi l x v n;have k:Kp (Fo w ow 2) w (w.setCell (q,i *2+j) v):=(Fo.ol w ow 2).self (λp=>p.2 h.oq) o;refine h.Vb (ab9 ..) (by rw[aaV,ab9];exact h.len) h1 k (λm b a=>?_);simp only[aaV] at b;simp only[ab9] at a;simp only[abF,aeX];split
 .rename_i e;subst e;exact hm.other k aQ
 .exact(h.ml m b a).other k aQ
end
def FN(s:Sd)(i:Int):Bool:=decide (0<=i/\i<s.P.length)
def gS(s:Sd)(i:Int)(r:Bool):Sd:=if FN s i then FD s i.toNat r else s
def J5(s:Sd)(i:Int):Int:=if FN s i then 0 else 1
def F8(F:Nat->Prop)(g:Nat)(v:Int)(s:Sd)(w:aA)(e:Ending)(w':aA):Prop:=e= .returned (.int .i64 v)/\lM F w' g s/\Kp F w w'
theorem MB{i:Int}(h:i<0\/s.P.length<=i):FN s i=false:=aa0 aQ
theorem K0(h:i<s.P.length):FN s i=true:=abD aQ
theorem F7(h:lM F w g s)(l:s.P.length<=8)(i:Int)(b:Bool):aG prog 43 #[.pointer g,i,b] w (F8 F g (J5 s i) (gS s i b) w):=by
 have c:=h;obtain⟨ow,q,R,M,B,d,h⟩:=h;by_cases ho:i<0\/s.P.length<=i
 .have f:=aP (EY h l i ho);have k:aH (F8 F g (J5 s i) (gS s i b) w (.returned (.int .i64 1)) w):=by
   unfold aH gS J5;rw[MB ho];exact⟨rfl,c,Kp.refl _ _⟩
  clear h ho c;generalize J5 s i=rE at *;go_enter func43,ntmps43
  go_wp2_with fail
  refine aR f ?_;rintro e m ⟨rfl,rfl⟩;go_wp2_with fail
  go_ret
  exact k.o
 .obtain⟨n,rfl⟩:=aaO (show 0<=i by omega);have hi:n<s.P.length:=aQ;have a:n<R.length:=by have:=h.len;omega
  have f:=aP (LC h l hi);obtain⟨c0,c1,f0,f1⟩:=h.pl a;have k:aH (F8 F g (J5 s n) (gS s n b) w (.returned (.int .i64 0)) (w.setCell (q,n *2+1) (.bool b))):=by
   unfold aH gS J5;rw[K0 hi];obtain⟨h1,t⟩:=h.setRow a hi {R[n] with rd:=b} (λp=>{p with rd:=b}) (j:=1) aQ (.bool b) rfl ((h.ml n a hi).rd b);exact⟨rfl,⟨_,_,_,_,_,_,h1⟩,t⟩
  clear h ho c;generalize R[n]=r at *;generalize J5 s n=rE at *;go_enter func43,ntmps43
  go_wp2_with fail
  refine aR f ?_;rintro e m ⟨rfl,rfl⟩;go_wp2_with fail
  go_ret
  exact k.o
def sP(s:Sd)(i bu pe:Int):Int:=if FN s i then lI s.b i bu pe else 1
def kK(s:Sd)(i bu pe:Int):Sd:=if FN s i then pK s i.toNat bu pe else s
theorem IM(h:lM F w g s)(C:gE s)(i bu pe:Int):aG prog 67 #[.pointer g,i, .agg #[bu,pe]] w (F8 F g (sP s i bu pe) (kK s i bu pe) w):=by
 have h8:=C.n.2;have V:=aX w (aI #[bu,pe] 112);have N:=bC.new w 112 #[bu,pe];have c:=h.fl.below V;have h1:=(lM.bX g s).box h h.fl (aI #[bu,pe] 112);clear h;obtain⟨ow,q,R,M,B,d,h⟩:=h1;by_cases ho:i<0\/s.P.length<=i
 .have D:=aP (EY h h8 i ho);have f:aH (F8 F g (sP s i bu pe) (kK s i bu pe) w (.returned (.int .i64 1)) (w.alloc (aI #[bu,pe] 112))):=by
   unfold aH kK sP;rw[MB ho];exact⟨rfl,lM.less ⟨_,_,_,_,_,_,h⟩,c⟩
  clear h ho C c;go_enter func67,ntmps67
  go_upto_region 1 with(fail)
  generalize w.alloc (aI #[bu,pe] 112)=w1 at *;go_wp2_with fail
  refine aR D ?_;rintro e w2 ⟨rfl,rfl⟩;go_wp2_with fail
  go_ret
  exact f.o
 .obtain⟨n,rfl⟩:=aaO (show 0<=i by omega);have hi:n<s.P.length:=aQ;have m:n<R.length:=by have:=h.len;omega
  have D:=aP (LC h h8 hi);have f:aH (sP s n bu pe=lI s.b n bu pe/\kK s n bu pe=pK s n bu pe):=by
   unfold aH sP kK;rw[K0 hi];exact⟨rfl,rfl⟩
  have W:=bH h c;have HI:=aP C;have O:aH (lI s.b n bu pe=0->mY bu pe=true/\s.P[n].sv=none):=by
   intro he;unfold lI at he;split at he
   .rename_i Q;refine⟨Q,?_⟩;split at he
    .cases he
    .rename_i hf;have:=C.has n _ (aaG hi);cases E:s.P[n].sv with
     |none=>rfl
     |some v=>rw[this,E] at hf;simp at hf
   .cases he
  have z:aH (pK s n bu pe=if lI s.b n bu pe=0 then {s with b:=pI s.b n bu pe,P:=s.P.modify n λp=>{p with sv:=some (lK bu pe)}} else s):=rfl;have I:aH (lI s.b n bu pe≠0->pI s.b n bu pe=s.b):=by
   intro he;unfold pI;rw[aaL he]
  generalize sP s n bu pe=rE at *;generalize kK s n bu pe=rV at *;generalize pK s n bu pe=rB at *;obtain⟨Y,t⟩:∃a,a=lI s.b n bu pe:=⟨_,rfl⟩
  obtain⟨aB,u⟩:∃a,a=pI s.b n bu pe:=⟨_,rfl⟩
  rw[<-t] at O z I f;rw[<-u] at z I;have Z:aH (lI s.b n bu pe=Y):=t.symm;have a1:aH (pI s.b n bu pe=aB):=u.symm;clear t u;clear h ho C c;go_enter func67,ntmps67
  go_upto_region 1 with(fail)
  generalize w.alloc (aI #[bu,pe] 112)=w1 at *;generalize w.heap.size=q1 at *;have x0:=N.cell 0 bu rfl;have x1:=N.cell 1 pe rfl;go_wp2_with fail
  refine aR D ?_;rintro e w2 ⟨rfl,rfl⟩;go_upto_region 4 with(fail)
  have k:=bF x0;have l:=bF x1;refine bS (bV _) (λ_=>bV) [] (λ_ _ _=>True) [5,6] [] 31 (cM _) (λ_ _ _ h hz=>bZ h hz) (λ_ d hd _ v w w' _ h hz=>by cases hd) aV aV bK ?_;repeat refine fQ ?_
  refine eL ?_;intro γ w5 hb5 hT;clear k l;simp only[dG,Act.put,aaI,aaP,aaN];refine eT ?_;obtain⟨h5,A⟩:=W.o.1.keep hb5;have S:=aP (Y5 h5.bk HI.o.bk n bu pe);rw[Z.o,a1.o] at S;have H5:=cZ h5 W.o.2 A;clear hT h5 A hb5 x0 x1;refine wpList_plain rfl (λK hK=>?_);go_wp2_with fail
  refine aR S ?_;rintro e w3 ⟨rfl,⟨M3,m3⟩,T⟩;obtain⟨h1,c,A⟩:=H5.o;obtain⟨t1,k4⟩:=h1.KG m3 T;have U:=cZ t1 c (A.trans k4);have x:=(A.trans k4).aZ N (.inr rfl);have x0:=x.cell 0 bu rfl;have x1:=x.cell 1 pe rfl;clear m3 T t1 k4 h1 c A W H5 N x;refine hK _ _ ?_;clear hK K;refine wpList_plain rfl (λK hK=>?_);go_simp
  refine hK _ _ ?_;clear hK K;refine cP ?_;try refine dB ?_
  by_cases he:Y=0
  .obtain⟨Q,hn⟩:=O.o he;have y:aH (rE=0/\rV={s with b:=aB,P:=s.P.modify n λp=>{p with sv:=some (lK bu pe)}}):=by
    unfold aH;rw[f.o.1,f.o.2,z.o,aaK he];exact⟨he,rfl⟩
   have HS:=aP (Ez bu pe w3 Q);clear Q O I z;subst he;go_wp2_with fail
   refine aR HS ?_;rintro e w4 ⟨g4,rfl,hg4,J,L⟩;obtain⟨t1,k0,c⟩:=U.o;obtain⟨t2,s2,k2⟩:=t1.made hi hn J L;have hsp:=t2.pl m;obtain⟨c0,c1,f0,f1⟩:=hsp;have HF:aH (F8 F g rE rV w (.returned (.int .i64 0)) (w4.setCell (q,n *2) (.pointer g4))):=by
    obtain⟨h3,T⟩:=t2.setRow m hi ⟨some g4,R[n].rd⟩ (λp=>{p with sv:=some (lK bu pe)}) (j:=0) aQ (.pointer g4) rfl ⟨(t2.ml n m hi).1,λe=>(by cases e),λv E=>(by injection E with E;subst E;exact⟨g4,rfl,s2⟩)⟩;unfold aH;rw[y.o.1,y.o.2];exact⟨rfl,lM.less ⟨_,_,_,_,_,_,h3⟩,k0.trans ((c.trans k2).trans T).unbox⟩
   clear J L t1 k0 c t2 s2 k2 U y f S D HS hg4;generalize R[n]=r at *;go_wp2_with fail
   go_ret
   exact HF.o
  .have HF:aH (F8 F g rE rV w (.returned (.int .i64 Y)) w3):=by
    unfold aH;rw[f.o.1,f.o.2,z.o,aaL he];have:=U.o;rw[I.o he] at this;exact⟨rfl,lM.less ⟨_,_,_,_,_,_,this.1⟩,this.2.1.trans this.2.2.unbox⟩
   clear U O I z f S D;go_wp2_with fail
   go_ret
   exact HF.o
def uB(s:Sd)(i:Int):Int:=if FN s i then(if(rO s i).isSome then 0 else 6) else 1
def lU(s:Sd)(i:Int):Sd:=match rO s i with|some v=>rG s i.toNat v|none=>s
theorem Nl{i:Int}(h:i<0\/s.P.length<=i):rO s i=none:=by
 unfold rO;split
 .rw[abZ aQ];rfl
 .rfl
theorem Cl(hi:n<s.P.length):rO s n=s.P[n].sv:=by
 unfold rO;rw[aaK aQ,aaW,aaG hi];rfl
theorem IC(h:lM F w g s)(k:gE s)(i:Int):aG prog 70 #[.pointer g,i] w (F8 F g (uB s i) (lU s i) w):=by
 have C:=k.n.2;have t:=h;obtain⟨ow,q,R,M,B,d,h⟩:=h;by_cases ho:i<0\/s.P.length<=i
 .have x:=aP (EY h C i ho);have m:aH (F8 F g (uB s i) (lU s i) w (.returned (.int .i64 1)) w):=by
   unfold aH uB lU;rw[MB ho,Nl ho];exact⟨rfl,t,Kp.refl _ _⟩
  clear h ho t k;go_enter func70,ntmps70
  go_wp2_with fail
  refine aR x ?_;rintro e z ⟨rfl,rfl⟩;go_wp2_with fail
  go_ret
  exact m.o
 .obtain⟨n,rfl⟩:=aaO (show 0<=i by omega);have hi:n<s.P.length:=aQ;have c:n<R.length:=by have:=h.len;omega
  have x:=aP (LC h C hi);obtain⟨c0,c1,f0,f1⟩:=h.pl c;have f:=h.ml n c hi;cases l:s.P[n].sv with
  |none=>
   have hp:=f.2.1 l;rw[hp] at c0;replace c0:w.cell? (q,n *2)=some (.pointer none):=c0;have m:aH (F8 F g (uB s n) (lU s n) w (.returned (.int .i64 6)) w):=by
    unfold aH uB lU;rw[K0 hi,Cl hi,l];exact⟨rfl,t,Kp.refl _ _⟩
   clear h ho t k f hp l;generalize R[n]=r at *;go_enter func70,ntmps70
   go_wp2_with fail
   refine aR x ?_;rintro e z ⟨rfl,rfl⟩;go_wp2_with fail
   go_ret
   exact m.o
  |some v=>
   obtain⟨a,hp,hs⟩:=f.2.2 v l;rw[hp] at c0;replace c0:w.cell? (q,n *2)=some (.pointer a):=c0;have hlen:=(k.sv _ (aaM hi) v l).len;have D:=aP (Cd hs aQ);have J:CT s.b n=0:=by
    unfold CT;rw[k.has n _ (aaG hi),l];rfl
   have m:aH (uB s n=0/\lU s n=rG s n v):=by
    unfold aH uB lU;rw[K0 hi,Cl hi,l];exact⟨rfl,rfl⟩
   have K:=aP h;have E:=aP k;have HD:aH (rG s n v={s with b:=pL s.b n (fF v),P:=s.P.modify n λp=>{p with sv:=none}}):=rfl;generalize uB s n=rE at *;generalize lU s n=rV at *;clear h ho t k f hlen hs;go_enter func70,ntmps70
   go_wp2_with fail
   refine aR x ?_;rintro e z ⟨rfl,rfl⟩;go_wp2_with fail
   refine aR D ?_;rintro e z ⟨rfl,y⟩;obtain⟨t1,I⟩:=K.o.keep y;obtain⟨c0,c1,f0,f1⟩:=t1.pl c;obtain⟨t2,A⟩:=t1.setRow c hi {R[n] with pt:=none} (λp=>{p with sv:=none}) (j:=0) aQ (.pointer none) rfl ⟨(t1.ml n c hi).1,λ_=>rfl,λu hu=>(by cases hu)⟩;rw[aa3] at t2 A;have N:=aP (RT t2.bk E.o.bk n (fF v) (by have:=E.o.len;show s.b.L.length<=_;omega));have T2:=bH t2 (I.trans A);clear t1 I t2 A y D x;generalize R[n]=r at *;generalize fF v=lv at *;go_wp2_with fail
   refine aR N ?_;rintro e O ⟨rfl,⟨U,V,d5,m5⟩,k5⟩;have Q:aH (F8 F g rE rV w (.returned (.int .i64 0)) O):=by
    obtain⟨S,T⟩:=T2.o.1.KG m5 k5;unfold aH;rw[m.o.1,m.o.2,HD.o];exact⟨rfl,⟨_,_,_,_,_,_,S⟩,T2.o.2.trans T⟩
   go_wp2_with fail
   go_ret
   exact Q.o
end
variable{sz m:Nat}{w':aA}{x:Lb}{y:La}
section
theorem Sk:jM prog 162 165 4 32:=gA (z:= .agg #[aU,aU,aU,aU]) underlying162 aV (by simp[Value.cells]) aQ
theorem Xr:jM prog 191 209 11 80:=gA (z:= .agg #[aU,aU,aU,aU,aU,aU,aU,false,false,aU,false]) underlying191 aV (by simp[Value.cells]) aQ
def MT{α:Type}(enc:α->List aC)(sz:Nat)(y:α)(v:aC)(w:aA):Prop:=∃G,v= .slice (some ⟨G,0,none⟩) 1 1/\Sl enc sz w (some ⟨G,0,none⟩) [y]
theorem MT.keep{α:Type}{enc:α->List aC}{y:α}{v:aC}(h:MT enc sz y v w)(a:bV w w'):MT enc sz y v w':=by obtain⟨G,h1,b⟩:=h;exact⟨G,h1,b.keep a⟩
section
variable{F:Nat->Prop}{w w':aA}{g q:Nat}{x:Lb}{y:La}
theorem bP.boxed(h:bP F w g x y)(a:Below w w w')(hq:w.heap.size<=q)(c:q<w'.heap.size):bP (Fb F q) w' g x y:=
 ⟨h.ts,Ob.bX _ F (λb=>b<w.heap.size) (Fb F q) w w' h.o (Kp.dD a λ_ h=>h) (λ_ d _=>d) (Fb.ol h.fl a.size c) (λr d f a=>a.elim f (λe=>by omega))⟩
theorem bP.less(h:bP (Fb F q) w g x y):bP F w g x y:=⟨h.ts,(Ob.bX (iM g x y)).unbox h.o (λb a=>h.fl b (.inl a)) (bE w q)⟩
end
theorem wV(h:bP F w g x y)(kd:Int){o:Nat}{j:Jb}(c0:w.cell? (q,o)=some (.int .i64 j.tk))(c1:w.cell? (q,o+1)=some (.int .i64 j.nu))(hl:x.lg.length<=3000000000):
 aG prog 60 #[.pointer g,kd, .pointer (some ⟨q,o,none⟩)] w λr w'=>r= .returned (.tuple #[])/\(∃A c,bP F w' g (iK x kd j) {y with G:=A,cG:=c})/\Kp F w w':=by
 have D:=h.c 11 (.int .i64 x.nw) rfl;have s:=h.c 16 (.slice y.G x.lg.length y.cG) rfl;obtain⟨ev,u⟩:∃ev:Ev,ev=⟨kd,j.tk,j.nu,x.nw⟩:=⟨_,rfl⟩
 have T:aH (∀(W:aA) t,Sl rD 4 (W.alloc (.cells #[kd,j.tk,j.nu,x.nw] t)) (some ⟨W.heap.size,0,none⟩) [ev]):=λW t=>Sl.new wU W ev _ (by rw[u];rfl) t
 have HE:aH (iK x kd j={x with lg:=x.lg++ [ev]}):=by unfold aH iK;rw[u]
 have U:=aP h;obtain⟨n,M⟩:∃n,n=x.lg.length:=⟨_,rfl⟩
 rw[<-M] at s hl;have V:=aP M;clear u h M;go_enter func60,ntmps60
 go_upto_region 0 with(fail)
 have a:=bF D;have f:=bF s;have i:=bF c0;have k:=bF c1;refine bS (bV _) (λ_=>bV) [27] (λ_ v w=>MT rD 4 ev v w) [22,25] [[22,21,20,10], [22,21,20,15], [22,21,20,19]] 31 (cM _) (λ_ _ _ h N=>bZ h N) (λ_ d hd _ v w w' _ h N=>h.keep N) aV aV bK ?_;repeat (first|(refine fQ ?_)|(refine JT 27 [] bK bK bK bK (λγ w hC O=>?_) ?_;(simp only[dG];go_simp;exact DD (aX w _) ⟨_,rfl,T.o w _⟩);(try refine dB ?_)))
 refine eL ?_;intro γ C z O;clear a f i k;simp only[dG,Act.put,aaI,aaP,aaN];refine eT ?_;obtain⟨G,X,E⟩:=O 27 aT;rw[X];have P:=U.o.below z;have Y:aH (∃own:bB rD 4 C 0 165 y.G y.cG x.lg,True):=by
  obtain⟨K,h1⟩:=P.o;exact⟨(h1.get 8 (p:=PR rD 4 165 y.G y.cG x.lg) rfl).o,trivial⟩
 have Z:=Y.o.1;have H:=aP (U.o.fl.below z);have Q:=aP P;clear X O T c0 c1 D s P z Y;refine bN C rfl (.tmp 10) (.tmp 27) rfl Sk wU (base:=0) (xs:=x.lg) Z (n:=n) V.o.symm rfl (m:=1) rfl (ys:= [ev]) rfl E dT aQ (aaQ _) _ rfl (n+1) rfl ?_;intro A6 c6 R l B I;have J:bC R g 193 (fL x y):=by
  obtain⟨K,h1⟩:=Q.o.o;have hr:fT rD 4 165 y.G y.cG x.lg (Fo C K 9) C:=h1.get 8 (p:=PR rD 4 165 y.G y.cG x.lg) rfl;have L:mI g 193 (fL x y) (Fo C K 1) C:=h1.get 0 (p:=PB g 193 (fL x y)) rfl;refine L.b.grown B (λe=>?_);have h2:K g=1:=aa4 λhc=>L.nf ⟨L.b.lt,hc⟩
  exact hr.nf g e.symm ⟨L.b.lt,aQ⟩
 refine dU R rfl 162 _ _ rfl g 16 (.slice A6 (n+1) c6) rfl rfl aV rfl (J.one (by simp[fL])) ?_;refine cP ?_;refine dB ?_;have S:=Q.o.yC V.o l B I;have H7:=bH S.1 (H.o.trans S.2);generalize R.setCell (g,16) (.slice A6 (n+1) c6)=w7 at *;clear S l B I J Z E Q H;go_wp2_with fail
 go_end0
 rw[HE.o];exact⟨rfl,⟨_,_,H7.o.1⟩,H7.o.2⟩
theorem LQ(h:bP F w g x y)(hI:IV x n m)(hn:n<=1000000)(hm:m<=3000000000)(hi:i<x.ts.length)(d:Int):
 aG prog 57 #[.pointer g,i,d] w λr w'=>r= .returned (.tuple #[])/\(∃A c B b,bP F w' g (sV x i d) {y with J:=A,cJ:=c,G:=B,cG:=b})/\Kp F w w':=by
 have l:i<x.nu.length:=by rw[hI.lu];exact hi
 obtain⟨qT,A,cA,H,t0,t1,t2,t3,t4,hs⟩:=h.task hi;obtain⟨qU,hU,u0⟩:=h.num l;have e0:=h.c 0 (.slice y.T y.L.length y.cT) rfl;have e13:=h.c 13 (.slice y.U x.nu.length y.cU) rfl;rw[H,h.len] at e0;rw[hU] at e13;have hTk:Xf (gT x i):=by
  unfold gT;rw[aaW,aaU,aaG hi];exact hI.tk _ (aaM hi)
 have b1:=hTk.d0;have b2:=hTk.d1;have b3:=hI.n0;have b4:=hI.n1;have b5:0<=x.nu.getD i 0/\x.nu.getD i 0<=n:=by
  rw[aaU,aaG l];exact hI.nu _ (aaM l)
 obtain⟨b5,b6⟩:=b5;have hjl:=hI.jl;have HLG:aH (x.lg.length<=3000000000):=aaR hI.gl hm;obtain⟨v,hv⟩:∃v:Int,v=x.nu.getD i 0:=⟨_,rfl⟩
 rw[<-hv] at u0 b5 b6;obtain⟨k,j⟩:∃k:Lb,k={x with nu:=x.nu.set i (v+1)}:=⟨_,rfl⟩
 have h1:=h.Tg hU l (v+1);rw[<-j] at h1;have HJ:aH (rU x i d=⟨i,v+1,x.nw,x.nw+(gT x i).de,0,d,(gT x i).co,false,false,0,false⟩):=by unfold aH rU;rw[aaW,<-hv]
 have HE:aH (sV x i d=iK {k with jb:=k.jb++ [rU x i d]} 1 (rU x i d)):=by unfold aH sV;rw[aaW,<-hv,j]
 have HX:aH (k.jb=x.jb/\k.lg=x.lg/\k.nw=x.nw):=by rw[j];exact⟨rfl,rfl,rfl⟩
 have H1:=aP h1;have u1:(w.setCell (qU,i) (.int .i64 (v+1))).cell? (qU,i)=some (.int .i64 (v+1)):=by
  obtain⟨q',z,r'⟩:=h1.1.num (n:=i) (by rw[j];simpa using l);rw[hU] at z;injection z with z;injection z with z;subst z;rw[r',j];simp[l]
 have f0:w.frozen? (qU,i)=false:=by
  obtain⟨ow,h2⟩:=h.o;have hr:fT eI 1 3 y.U y.cU x.nu (Fo w ow 6) w:=h2.get 5 (p:=PR eI 1 3 y.U y.cU x.nu) rfl;have ho:=hr.o;rw[hU] at ho;exact(cH ho i (by have:=ho.cap;omega)).2
 have i0:(0:Int)<=i:=aQ;have i1:(i:Int)<(x.nu.length:Int):=aQ;have i2:(i:Int)<(x.ts.length:Int):=aQ;have I:=h1.1.c 0 (.slice y.T y.L.length y.cT) rfl;have K:=h1.1.c 11 (.int .i64 x.nw) (by rw[j];rfl);have s:=h1.1.c 13 (.slice y.U x.nu.length y.cU) (by rw[j];simp[fL]);obtain⟨qT',A',cA',C,s0,s1,s2,_⟩:=h1.1.task (n:=i) (by rw[j];exact hi);have hTk1:gT k i=gT x i:=by rw[j];rfl
 rw[hTk1] at s0 s1 s2;rw[H] at C I;injection C with C;injection C with C;subst C;rw[h.len] at I;rw[hU] at s;have HLE:aH (∀W,bP F W g k y->W.cell? (g,15)=some (.slice y.J x.jb.length y.cJ)):=λW h=>h.c 15 _ (by rw[j];rfl)
 clear hv j h1 hU H h hI l hs t0 t1 t2 t3 t4 hTk hTk1;obtain⟨t,ht⟩:∃t:Tk,t=gT x i:=⟨_,rfl⟩
 rw[<-ht] at s0 s1 s2 b1 b2 HJ;clear ht;go_enter func57,ntmps57
 go_upto_region 2 with(fail)
 generalize hwa:w.setCell (qU,i) (.int .i64 (v+1))=wa at *;have lF:w.heap.size=wa.heap.size:=by rw[<-hwa];simp[World.setCell]
 have D:=aX wa (aI #[t.co,t.pe,t.de] 122);have xb:=bC.gK wa 122 #[t.co,t.pe,t.de] (g:=w.heap.size) (by simp[lF]);have x0:=xb.cell 0 _ rfl;have x2:=xb.cell 2 _ rfl;have d11:=bD D K;have d13:=bD D s;have d1:=bD D u1;have H2:=bH (H1.o.1.below D) (H1.o.2.trans (H1.o.1.fl.below D));clear hwa lF xb D H1 I K s s0 s1 s2 u1 e0 e13 u0 f0;generalize wa.alloc (aI #[t.co,t.pe,t.de] 122)=w2 at *;generalize w.heap.size=q6 at *;have M:=bF d13;have Q:=bF d1;have N:=bF d11;have R:=bF x0;have S:=bF x2;refine bS (bV _) (λ_=>bV) [7] (λ_ v w=>lS (lF d13) 209 #[aU,aU,aU,aU,aU,aU,aU,false,false,aU,false] v w) [25] [] 61 (cM _) (λ_ _ _ h hz=>bZ h hz) (λ_ d hd _ v w w' _ h hz=>h.keep hz) aV aV bK ?_;repeat (first|(refine fQ ?_)|(refine JT 7 [] bK bK bK bK (λγ w hC H=>?_) ?_;(simp only[dG];go_simp;exact DD (aX w _) ⟨_,rfl,Below.size hC,bC.new w _ _⟩);(try refine dB ?_)))
 refine eL ?_;intro γ w_ hb_ H;clear M Q N R S;simp only[dG,Act.put,aaI,aaP,aaN];refine eT ?_;obtain⟨g7,e_,hm_,hk_⟩:=H 7 aT;simp only[e_];clear H e_;refine aaB hm_ hb_ hk_ rfl 209 _ _ rfl #[i, .int .i64 (v+1),x.nw, .int .i64 (x.nw+t.de),aU,d,t.co,false,false,aU,false] rfl rfl rfl aV aV ?_;clear hm_ hb_ hk_;intro u hb5 a;refine cP ?_;simp only[Act.put];have hbx:bP (Fb F g7) u g k y:=H2.o.1.boxed hb5 a.1 a.2.lt;have H5:=bH hbx (H2.o.2.trans (H2.o.1.fl.below hb5));have e15:=HLE.o u hbx.less;have hB:=aP a.2;obtain⟨f,hjn⟩:∃f:Jb,f=rU x i d:=⟨_,rfl⟩
 rw[<-hjn] at HE;have E:wB u g7 0 f:=by
  rw[hjn,HJ.o];exact⟨a.2.cell 0 _ rfl,a.2.cell 1 _ rfl,a.2.cell 2 _ rfl,a.2.cell 3 _ rfl,a.2.cell 4 _ rfl,a.2.cell 5 _ rfl,a.2.cell 6 _ rfl,a.2.cell 7 _ rfl,a.2.cell 8 _ rfl,a.2.cell 9 _ rfl,a.2.cell 10 _ rfl⟩
 have j0:u.cell? (g7,0)=some (.int .i64 f.tk):=E.c0;have j1:u.cell? (g7,1)=some (.int .i64 f.nu):=E.c1;have j2:u.cell? (g7,2)=some (.int .i64 f.ca):=E.c2;have j3:u.cell? (g7,3)=some (.int .i64 f.de):=E.c3;have j4:u.cell? (g7,4)=some (.int .i64 f.ra):=E.c4;have j5:u.cell? (g7,5)=some (.int .i64 f.dm):=E.c5;have j6:u.cell? (g7,6)=some (.int .i64 f.lf):=E.c6;have j7:u.cell? (g7,7)=some (.bool f.bg):=E.c7;have j8:u.cell? (g7,8)=some (.bool f.bh):=E.c8;have j9:u.cell? (g7,9)=some (.int .i64 f.rs):=E.c9;have j10:u.cell? (g7,10)=some (.bool f.lt):=E.vD;have HY:aH (∀(W:aA) t,Sl jI 11 (W.alloc (.cells #[f.tk,f.nu,f.ca,f.de,f.ra,f.dm,f.lf,f.bg,f.bh,f.rs,f.lt] t)) (some ⟨W.heap.size,0,none⟩) [f]):=λW t=>Sl.new jR W f _ rfl t
 have HJC:=aP E;obtain⟨V,hnj⟩:∃V,V=x.jb.length:=⟨_,rfl⟩
 rw[<-hnj] at e15 hjl;have HNJ:aH (k.jb.length=V):=by unfold aH;rw[HX.o.1,hnj]
 clear hbx a hb5 H2 d11 d13 d1 x0 x2 HLE E hjn hnj hB HJ;go_upto_region 3 with(fail)
 have O:=bF e15;have X:=bF j0;have Y:=bF j1;have Z:=bF j2;have a1:=bF j3;have a6:=bF j4;have a7:=bF j5;have a8:=bF j6;have aa:=bF j7;have ab:=bF j8;have ad:=bF j9;have P:=bF j10;refine bS (bV _) (λ_=>bV) [55] (λ_ v w=>MT jI 11 f v w) [7,10] [[7,6,5]] 61 (cM _) (λ_ _ _ h hz=>bZ h hz) (λ_ d hd _ v w w' _ h hz=>h.keep hz) aV aV bK ?_;repeat (first|(refine fQ ?_)|(refine JT 55 [] bK bK bK bK (λγ w hC H=>?_) ?_;(simp only[dG];go_simp;exact DD (aX w _) ⟨_,rfl,HY.o w _⟩);(try refine dB ?_)))
 refine eL ?_;intro γ w8 ae H;clear O X Y Z a1 a6 a7 a8 aa ab ad P;simp only[dG,Act.put,aaI,aaP,aaN];refine eT ?_;obtain⟨G,hv,hsl⟩:=H 55 aT;rw[hv];have h8:=H5.o.1.below ae;have HO:∃own:bB jI 11 w8 0 209 y.J y.cJ k.jb,True:=by
  obtain⟨ow,h1⟩:=h8.o;exact⟨(h1.get 7 (p:=PR jI 11 209 y.J y.cJ k.jb) rfl).o,trivial⟩
 have hO:=HO.1;have hK8:=aP (H5.o.2.trans (H5.o.1.fl.below ae).unbox);have HJ8:=aP (HJC.o.keep ae);have H8:=aP h8;clear hv H HY e15 h8 ae HO j0 j1 j2 j3 j4 j5 j6 j7 j8 j9 j10 H5 HJC;refine bN w8 rfl (.tmp 53) (.tmp 55) rfl Xr jR (base:=0) (xs:=k.jb) hO (n:=V) HNJ.o rfl (m:=1) rfl (ys:= [f]) rfl hsl dT aQ (aaQ _) _ rfl (V+1) rfl ?_;intro A6 c6 w6 own6 hg6 at6;have hb6:bC w6 g 193 (fL k y):=by
  obtain⟨ow,h1⟩:=H8.o.o;have hr:fT jI 11 209 y.J y.cJ k.jb (Fo w8 ow 8) w8:=h1.get 7 (p:=PR jI 11 209 y.J y.cJ k.jb) rfl;have hB:mI g 193 (fL k y) (Fo w8 ow 1) w8:=h1.get 0 (p:=PB g 193 (fL k y)) rfl;refine hB.b.grown hg6 (λe=>?_);have h2:ow g=1:=aa4 λhc=>hB.nf ⟨hB.b.lt,hc⟩
  exact hr.nf g e.symm ⟨hB.b.lt,aQ⟩
 refine dU w6 rfl 191 _ _ rfl g 15 (.slice A6 (V+1) c6) rfl rfl aV rfl (hb6.one (by simp[fL])) ?_;refine cP ?_;refine dB ?_;have h7:=H8.o.FT HNJ.o.symm own6 hg6 at6;have hj0:(w6.setCell (g,15) (.slice A6 (V+1) c6)).cell? (g7,0)=some (.int .i64 f.tk):=h7.2.cell HJ8.o.c0 (.inr rfl);have hj1:(w6.setCell (g,15) (.slice A6 (V+1) c6)).cell? (g7,0+1)=some (.int .i64 f.nu):=h7.2.cell HJ8.o.c1 (.inr rfl);have HC:=aP (wV h7.1 1 hj0 hj1 (by show k.lg.length<=_;rw[HX.o.2.1];exact HLG.o));have HKK:=aP (hK8.o.trans h7.2.unbox);generalize w6.setCell (g,15) (.slice A6 (V+1) c6)=w7 at *;clear h7 own6 hg6 at6 hb6 hO hsl H8 hK8 hj0 hj1 HJ8;go_wp2_with fail
 refine aR HC ?_;rintro e w9 ⟨rfl,⟨A9,c9,h9⟩,k9⟩;have H9:=bH h9.less (HKK.o.trans k9.unbox);clear h9 k9 HC HKK;go_wp2_with fail
 go_end0
 rw[HE.o];exact⟨rfl,⟨_,_,_,_,H9.o.1⟩,H9.o.2⟩
end
section
def Yd(F:Nat->Prop)(g:Nat)(x:Lb)(v:aC)(w:aA)(e:Ending)(w':aA):Prop:=e= .returned v/\(∃y,bP F w' g x y)/\Kp F w w'
theorem lN.shaped{k:Nat}(h:lN x k){s:iY}(hs:lT s (k+1)):lN (dX x i s) (k+1):=
 (eA.CY (eA.mono h (λ_=>aaH _) (λ_=>aaH _) (ab2 _) (aaH _) (aaH _)) i hs).mono (λj=>by split <;> omega) (λ_=>ab2 _) (aaH _) aQ aQ
section
variable{F:Nat->Prop}{w w':aA}{g:Nat}{x:Lb}{y:La}{i:Nat}
theorem bP.Ro(h:bP F w g x y)(hq:y.V=some ⟨q,0,none⟩)(hi:i<x.wt.length):w.frozen? (q,i)=false:=by
 obtain⟨a,b⟩:=h.o;have c:fT eI 1 3 y.V y.cV x.wt (Fo w a 7) w:=b.get 6 (p:=PR eI 1 3 y.V y.cV x.wt) rfl;have ho:=c.o;rw[hq] at ho;exact(cH ho i (by have:=ho.cap;omega)).2
end
theorem Ox(h:bP F w g x y){k:Nat}(a:lN x k)(task d:Int)(hc:task<0\/(x.ts.length:Int)<=task\/d<1\/1048576<d):
 aG prog 27 #[.pointer g,task,d] w λe w'=>e= .returned (.int .i64 1)/\w=w':=by
 have b:=h.c 0 (.slice y.T y.L.length y.cT) rfl;rw[h.len] at b;clear h a;by_cases f:task<0
 .clear hc;go_enter func27,ntmps27
  go_wp2_with fail
  go_ret
  exact⟨rfl,rfl⟩
 .by_cases a2:(x.ts.length:Int)<=task
  .clear hc;go_enter func27,ntmps27
   go_wp2_with fail
   go_ret
   exact⟨rfl,rfl⟩
  .by_cases a3:d<1
   .clear hc;go_enter func27,ntmps27
    go_wp2_with fail
    go_ret
    exact⟨rfl,rfl⟩
   .have a4:1048576<d:=aQ;clear hc;go_enter func27,ntmps27
    go_wp2_with fail
    go_ret
    exact⟨rfl,rfl⟩
theorem Ii(h:bP F w g x y){k:Nat}(u:lN x k)(hk:k<=2900)(task d:Int):
 aG prog 27 #[.pointer g,task,d] w (Yd F g (oN x task d).2 (.int .i64 (oN x task d).1) w):=by
 by_cases hc:task<0\/(x.ts.length:Int)<=task\/d<1\/1048576<d
 .have m:oN x task d=(1,x):=by unfold oN;rw[aaK hc]
  rw[m];exact(Ox h u task d hc).mono λe w' ⟨h1,h2⟩=>by subst h2;exact⟨h1,⟨y,h⟩,Kp.refl _ _⟩
 .obtain⟨i,rfl⟩:=aaO (show 0<=task by omega);have hi:i<x.ts.length:=aQ;have hd:=h.below (Below.refl w w).drew;obtain⟨E,a,G,p0,H,hlen,eV⟩:=hd.XO u.ls hi;obtain⟨_,_,v⟩:=eA.rK u hi;have D:=ZE (jA x i) x.nw a k _ H v aQ;have U:=u.shaped (i:=i) (SK (now:=x.nw) v);obtain⟨s,c,e,X⟩:∃s c e,EF x i=(s,c,e):=⟨_,_,_,rfl⟩
  have I:rR (jA x i) x.nw=(s,c,e):=X;rw[I] at D U;have m:aH (oN x i d=if e≠0 then(e,dX x i s) else if c then(0,sV (dX x i s) i d) else(0,{dX x i s with wt:=x.wt.set i d})):=by
   unfold aH oN;rw[aaL hc,X];rfl
  have HT:=aP eV;have J:=aP D;have Y:=aP U;have e0:=h.c 0 (.slice y.T y.L.length y.cT) rfl;have K:=h.c 11 (.int .i64 x.nw) rfl;have A:=h.c 12 (.slice y.S y.a.length y.cS) rfl;have Z:w.cell? (E,i)=some (.pointer a):=p0;rw[h.len] at e0;rw[G,hlen] at A;have i0:(0:Int)<=i:=aQ;have i1:(i:Int)<(x.ts.length:Int):=aQ;have d0:1<=d:=aQ;have d1:d<=1048576:=aQ;have M:aH (∀b,bP F b g (dX x i s) y->b.cell? (g,12)=some (.slice E x.ts.length y.cS)/\b.cell? (g,11)=some (.int .i64 x.nw)/\b.cell? (E,i)=some (.pointer a)):=by
   intro b l;obtain⟨ow,t⟩:=l.o;have a1:fT xS 1 194 y.S y.cS y.a (Fo b ow 4) b:=t.get 3 (p:=PR xS 1 194 y.S y.cS y.a) rfl;have N:=a1.o;rw[G] at N;have z12:=l.c 12 (.slice y.S y.a.length y.cS) rfl;rw[G,hlen] at z12;obtain⟨a6,h6⟩:=h.o;have a7:fT xS 1 194 y.S y.cS y.a (Fo w a6 4) w:=h6.get 3 (p:=PR xS 1 194 y.S y.cS y.a) rfl;have O:=a7.o;rw[G] at O;have P:i<y.a.length:=aQ;have v1:=bG D3 O P (j:=0) rfl;have v3:=bG D3 N P (j:=0) rfl;rw[acI,aa3] at v1 v3;rw[Z] at v1;rw[<-v1] at v3;exact⟨z12,l.c 11 (.int .i64 x.nw) rfl,v3⟩
  have R:aH (∀b,bP F b g (dX x i s) y->∃q,y.V=some ⟨q,0,none⟩/\b.cell? (g,14)=some (.slice (some ⟨q,0,none⟩) x.ts.length y.cV)/\(b.cell? ⟨q,i,none⟩).isSome=true/\b.frozen? ⟨q,i,none⟩=false/\i<x.wt.length):=by
   intro b l;have hw:i<x.wt.length:=by have:=u.lw;omega
   obtain⟨q,hq,r⟩:=l.wait (n:=i) (x:=dX x i s) hw;have B:=l.c 14 (.slice y.V x.wt.length y.cV) rfl;rw[hq,u.lw] at B;exact⟨q,hq,B,by rw[r];rfl,l.Ro hq hw,hw⟩
  clear eV D U X I p0 G H v hd h u hc hlen;go_enter func27,ntmps27
  go_upto_region 5 with(fail)
  go_region_held3 (λW=>W.cell? (g,12)=some (.slice E x.ts.length y.cS)/\W.cell? (g,11)=some (.int .i64 x.nw)/\W.cell? (E,i)=some (.pointer a)) (first|exact⟨A,K,Z⟩|exact⟨‹_›,‹_›,‹_›⟩) ((go_at_call 56;(refine aR J ?_);rintro z b ⟨rfl,l,k3⟩;(have t3:=HT.o _ _ l k3);(have H3:=bH t3.1 t3.2);(obtain⟨y1,y2,y3⟩:=M.o _ t3.1);clear l k3 t3))
  clear J HT M e0 K A Z y1 y2 y3;have C:aH (bP F b g (dX x i s) y/\Kp F w b):=⟨H3.o.1,(Kp.refl F w).drew.trans H3.o.2⟩
  clear H3;by_cases he:e=0
  .subst he;cases c
   .have f:aH (oN x i d=(0,{dX x i s with wt:=x.wt.set i d})):=by rw[m.o];rfl
    obtain⟨q,hq,B,r1,r2,hw⟩:=R.o _ C.o.1;have t:=C.o.1.My hq (i:=i) hw d;have Q:=bH t.1 (C.o.2.trans t.2);obtain⟨v0,r1⟩:=ae2.1 r1;clear t R m hq hw;go_wp2_with fail
    go_ret
    rw[f.o];exact⟨rfl,⟨_,Q.o.1⟩,Q.o.2⟩
   .have f:aH (oN x i d=(0,sV (dX x i s) i d)):=by rw[m.o];rfl
    have D:=aP (LQ C.o.1 Y.o.SG aQ aQ (i:=i) (by show i<x.ts.length;omega) d);clear R m;go_wp2_with fail
    refine aR D ?_;rintro z w5 ⟨rfl,⟨_,_,_,_,t⟩,k5⟩;have Q:=bH t (C.o.2.trans k5);clear t k5 D;go_wp2_with fail
    go_ret
    rw[f.o];exact⟨rfl,⟨_,Q.o.1⟩,Q.o.2⟩
  .have f:aH (oN x i d=(e,dX x i s)):=by rw[m.o,aaK he];rfl
   clear R m;go_wp2_with fail
   go_ret
   rw[f.o];exact⟨rfl,⟨_,C.o.1⟩,C.o.2⟩
end
section
theorem Ny:(prog.info? 209).map (λi=>(i.zero,i.size,i.bytes))=some (some (.agg #[aU,aU,aU,aU,aU,aU,aU,false,false,aU,false]),11,80):=aV
namespace Xa
theorem kM:∀w,(zeroValue 209).run prog w= .ok (.agg #[aU,aU,aU,aU,aU,aU,aU,false,false,aU,false]) w:=λw=>by kernel_rfl
variable{A:Option Addr}
theorem fJ{c:Nat}(h:n=m):Ending.returned (.slice A n c)= .returned (.slice A m c):=by rw[h]
theorem lP(g c i k base:Nat)(L:List Jb)(w:aA)(own:bB jI 11 w base 209 g c L)(s:L.length=i+1+k)(W:L.length<=4000000):
 aG prog 128 #[.slice g L.length c,i, .int .i64 ((i:Int)+1)] w λe w'=>e= .returned (.slice g (L.eraseIdx i).length c)/\bB jI 11 w' base 209 g c (L.eraseIdx i)/\w.grownBy w' (some g):=by
 obtain⟨i0,n,K,p,M⟩:=info_parts Ny;have v:(L.eraseIdx i).length=i+k:=by rw[acO,aaK aQ];omega
 obtain⟨_,_,_,z,A,_,_⟩:=eK own;simp only[maxLen] at A;obtain⟨news,b⟩:∃news,news=(L.drop (i+1)).flatMap jI:=⟨_,rfl⟩
 have s1:aH (news.length=k *11):=by unfold aH;rw[b,fH jR.len,abY];omega
 have s2:aH (∀u∈news,u.oneCell'=true):=λu hu=>rL jR _ u (by rw[<-b];exact hu)
 have H:aH (∀t,t<news.length->(w.drew.cell? ⟨g,0+i *11+t,none⟩).isSome=true/\w.drew.frozen? ⟨g,0+i *11+t,none⟩=false):=λt I=>by
  rw[s1.o] at I;exact cH own _ aQ
 have N:aH (∀t u,news[t]?=some u->w.drew.cell? ((⟨g,(i+1) *11,none⟩:Addr).add t)=some u):=λt u hu=>by
  have I:t<k *11:=by rw[<-s1.o];exact(aaX.1 hu).1
  have hF:=oT jR.len L (i+1);rw[b,hF,acL] at hu;rw[Addr.add_lit];obtain⟨cur,_,O,_,_,_,P⟩:=eK own;show w.cell? _=_;rw[cell_of_row w g _ cur _ (0,0) O,<-hu,<-P,abU,aaK aQ,abG]
 obtain⟨m,h⟩:∃m,m=w.drew.setCells g (0+i *11) news:=⟨_,rfl⟩
 have J:=aP h;have B:=tX (w:=w.drew) jR.len own.drew i k s [.int .i64 0, .int .i64 0, .int .i64 0, .int .i64 0, .int .i64 0, .int .i64 0, .int .i64 0, .bool false, .bool false, .int .i64 0, .bool false] rfl;rw[<-b,show i *11=0+i *11 by omega,<-h] at B;have a:=aP B;have d:∀j,j<c *11->(m.cell? ⟨g,j,none⟩).isSome=true/\m.frozen? ⟨g,j,none⟩=false:=λj C=>by
  rw[h];have:=cH own j C;exact⟨Go.World.isSome_setCells g _ _ _ _ this.1,by rw[World.frozen?_setCells];exact this.2⟩
 have l:∀ty r D,r=1->(Builtin.clear_ #[191] ty #[.slice (some ⟨g,(i+k) *11,none⟩) r D]).run prog m= .ok (.tuple #[]) (m.setCells g ((i+k) *11) [.int .i64 0, .int .i64 0, .int .i64 0, .int .i64 0, .int .i64 0, .int .i64 0, .int .i64 0, .bool false, .bool false, .int .i64 0, .bool false]):=λty r D E=>
  kZ m _ 209 ty _ underlying191 kM [.int .i64 0, .int .i64 0, .int .i64 0, .int .i64 0, .int .i64 0, .int .i64 0, .int .i64 0, .bool false, .bool false, .int .i64 0, .bool false] aV cD g ((i+k) *11) r D E (λj C=>d _ (by simp at C;omega))
 clear h B d b;rw[s];rw[s] at z;have Q:i<=c:=aQ;have R:i+1<=c:=aQ;have S:(0:Int)<=i+1:=aQ;have T:(i:Int)+1<=(i:Int)+1+(k:Int):=aQ;by_cases hce:c=i+1
 .obtain rfl:k=0:=aQ;obtain rfl:news= []:=abO (by rw[s1.o]);have G:aH (∀t u,([]:List aC)[t]?=some u->w.drew.cell? ((⟨g,0,none⟩:Addr).add t)=some u):=λt u hu=>by simp at hu
  subst hce;have f:=λty=>l ty (i+1 - i) (i+1 - i) aQ
  simp only[aa3] at f v⊢;have U:(i:Int)<=(i:Int)+1:=aQ;have V:i+1 - i=1:=aQ;rw[V] at f;clear l;go_enter func128,ntmps128
  go_wp2_with fail
  go_region_law (refine step_append_room rfl (.tmp 22) (.tmp 25) 191 rfl 209 i0 11 underlying191 n p g 0 i (i+1) (by simp[Act.eval,Act.put]) ⟨g,0,none⟩ 0 0 [] (by simp[Act.eval,Act.put]) s1.o G.o s2.o aQ H.o ?_;rw[<-J.o])
  go_wp2
  go_ret
  exact⟨fJ aQ,a.o.1,⟨a.o.2.os,a.o.2.tape,a.o.2.output,a.o.2.size,a.o.2.block⟩⟩
 .have f:=λty=>l ty (i+1+k - (i+k)) (c - (i+k)) aQ
  clear l;go_enter func128,ntmps128
  go_wp2_with fail
  go_region_law (refine step_append_room rfl (.tmp 22) (.tmp 25) 191 rfl 209 i0 11 underlying191 n p g 0 i c (by simp[Act.eval,Act.put]) ⟨g,(i+1) *11,none⟩ k (c - (i+1)) news (by simp[Act.eval,Act.put]) s1.o N.o s2.o aQ H.o ?_;rw[<-J.o])
  go_wp2
  go_ret
  exact⟨fJ aQ,a.o.1,⟨a.o.2.os,a.o.2.tape,a.o.2.output,a.o.2.size,a.o.2.block⟩⟩
end Xa
theorem T8(hi:i<x.jb.length)(j:Jb):dN (cC x i j) i=j:=by simp[dN,cC,hi]
theorem V3(hi:i<x.jb.length):cC x i (dN x i)=x:=by
 have:x.jb.set i (dN x i)=x.jb:=by
  unfold dN;rw[aaU,aaG hi];simp
 unfold cC;rw[this]
section
variable{F:Nat->Prop}{w w':aA}{g:Nat}{x:Lb}{y:La}{i q:Nat}
theorem bP.uP{j:Jb}(h:bP F w g (cC x i j) y)(hq:y.J=some ⟨q,0,none⟩)(hi:i<x.jb.length){f:Nat}(b:f<11)(a:Jb)(v:aC)(c:jI a=(jI j).set f v):bP F (w.setCell (q,i *11+f) v) g (cC x i a) y/\Kp F w (w.setCell (q,i *11+f) v):=by
 have h1:=h.ED hq (i:=i) (by simpa[cC] using hi) b a v (by rw[T8 hi];exact c);rw[show cC (cC x i j) i a=cC x i a by simp[cC]] at h1;exact h1
theorem bP.wO(h:bP F w g x y)(hq:y.J=some ⟨q,0,none⟩)(hi:i<x.jb.length){f:Nat}(d:f<11):w.frozen? (q,i *11+f)=false:=by
 obtain⟨a,b⟩:=h.o;have c:fT jI 11 209 y.J y.cJ x.jb (Fo w a 8) w:=b.get 7 (p:=PR jI 11 209 y.J y.cJ x.jb) rfl;have ho:=c.o;rw[hq] at ho;exact(cH ho _ (by have:=ho.cap;omega)).2
theorem bP.qG{j:Jb}(h:bP F w g (cC x i j) y)(hq:y.J=some ⟨q,0,none⟩)(hi:i<x.jb.length):wB w q (i *11) j:=by
 obtain⟨c,a,b⟩:=h.l9 (n:=i) (by simpa[cC] using hi);rw[hq] at a;injection a with a;injection a with a;subst a;rw[T8 hi] at b;exact b
end
theorem Ai(h:bP F w g x y)(kd:Int)(hi:i<x.jb.length)(M:x.jb.length<=1000000)(K:x.lg.length<=3000000000):
 aG prog 91 #[.pointer g,kd,i] w (λe w'=>e= .returned (.tuple #[])/\(∃L,bP F w' g (xK x kd i) L)/\Kp F w w'):=by
 obtain⟨q,hq,r⟩:=h.l9 hi;have j:=h.c 15 (.slice y.J x.jb.length y.cJ) rfl;rw[hq] at j;have D:=aP (wV h kd r.c0 r.c1 K);have i0:(0:Int)<=i:=aQ;have i1:(i:Int)<(x.jb.length:Int):=aQ;have HQ:=aP hq;clear h r hq;go_enter func91,ntmps91
 go_wp2_with fail
 refine aR D ?_;rintro e f ⟨rfl,⟨A,c,n⟩,k2⟩;have d15:=n.c 15 (.slice y.J x.jb.length y.cJ) rfl;rw[HQ.o] at d15;obtain⟨s,h1⟩:=n.o;have t:fT jI 11 209 y.J y.cJ x.jb (Fo f s 8) f:=h1.get 7 (p:=PR jI 11 209 y.J y.cJ x.jb) rfl;have k:mI g 193 (fL (iK x kd (dN x i)) {y with G:=A,cG:=c}) (Fo f s 1) f:=h1.get 0 (p:=PB g 193 (fL (iK x kd (dN x i)) {y with G:=A,cG:=c})) rfl;have ho:=t.o;rw[HQ.o] at ho;have HD:=aP (Xa.lP q y.cJ i (x.jb.length - i - 1) 0 x.jb f ho aQ aQ);have l:g≠q:=λe=>by
  have N:s g=1:=aa4 λhc=>k.nf ⟨k.b.lt,hc⟩
  have:=t.nf q (by rw[HQ.o];rfl);rw[<-e] at this;exact this ⟨k.b.lt,aQ⟩
 have E:=aP k.b;have u:=bH n k2;have v:aH (g≠q):=l;clear n k2 D ho t k h1 l j;go_wp2_with fail
 refine aR HD ?_;rintro e H ⟨rfl,yR,g3⟩;have d:=E.o.grown g3 (λe=>v.o (by injection e));have a:bB jI 11 H 0 209 y.J y.cJ (x.jb.eraseIdx i):=by rw[HQ.o];exact yR
 have m:f.grownBy H (aZ y.J):=by rw[HQ.o];exact g3
 have z:=u.o.1.left (i:=i) hi a m rfl;have B:=bH z.1 (u.o.2.trans z.2);have f15:=d.frozen 15;have I:=d.cell 15 (.slice y.J x.jb.length y.cJ) rfl;rw[HQ.o] at B;have C:aH (xK x kd i={iK x kd (dN x i) with jb:=(iK x kd (dN x i)).jb.eraseIdx i}):=rfl;clear z yR g3 a m HD E u d d15;go_wp2_with fail
 go_end0
 rw[C.o];exact⟨rfl,⟨_,B.o.1⟩,B.o.2⟩
end
variable{K:Nat}
section
def Xy(F:Nat->Prop)(g:Nat)(x:Lb)(w:aA)(e:Ending)(w':aA):Prop:=e= .returned (.tuple #[])/\(∃y',bP F w' g x y')/\Kp F w w'
theorem Mw{nw:Int}{j:Jb}(h:zR n K nw j):0<=(gH j).lf/\(gH j).lf<=1048576:=by
 have c:=h.lf;have a:=h.bh;unfold gH;simp only;cases b:j.bh
 .have:=a b;simp;omega
 .simp;omega
def JQ(j:Jb):Jb:={j with bh:=true,rs:=j.rs+1}
def EA(x:Lb)(j:Jb)(p:Int):Jb:={j with ca:=p,de:=p+(gT x j.tk).de,lf:=(gT x j.tk).co,rs:=j.rs+1,bg:=false,lt:=false}
def Ue(x:Lb)(i:Nat)(j:Jb):Lb:=
 let y:=cC x i j
 if j.ra=j.dm then xK y 2 i else if 0<j.lf then y else if(gT x j.tk).po=0 then xK y 3 i else if(gT x j.tk).po=1 then(if j.bh then y else iK (cC y i (JQ j)) 4 (JQ j)) else
 iK (cC (dX y j.tk (jD (jA x j.tk) x.nw).1) i (EA x j (jD (jA x j.tk) x.nw).2)) 5 (EA x j (jD (jA x j.tk) x.nw).2)
theorem bP.Az(h:bP F w g x y)(hq:y.J=some ⟨q,0,none⟩)(hi:i<x.jb.length){f:Nat}(d:f<11):w.there q (i *11+f) 1:=λj e=>by
 obtain rfl:j=0:=aQ;obtain⟨a,b⟩:=h.o;have c:fT jI 11 209 y.J y.cJ x.jb (Fo w a 8) w:=b.get 7 (p:=PR jI 11 209 y.J y.cJ x.jb) rfl;have ho:=c.o;rw[hq] at ho;exact cH ho _ (by have:=ho.cap;omega)
theorem Fa(h:bP F w g x y){k:Nat}(hI:lN x k)(hk:k<=2900)(hi:i<x.jb.length):
 aG prog 59 #[.pointer g,i] w (Xy F g (tR x i) w):=by
 obtain⟨q,hq,jc⟩:=h.l9 hi;have HQ:=aP hq;have hJ:=(eA.l9 hI hi).2;obtain⟨j,hj⟩:∃j,j=dN x i:=⟨_,rfl⟩
 rw[<-hj] at jc hJ;have h0:bP F w g (cC x i j) y:=by rw[hj,V3 hi];exact h
 obtain⟨t,htk⟩:=aaO hJ.tk.1;have z:t<x.ts.length:=by have:=hJ.tk.2;omega
 have HR:aH (tR x i=Ue x i (gH j)):=by
  unfold aH tR Ue;rw[hj];rfl
 have e15:=h.c 15 (.slice y.J x.jb.length y.cJ) rfl;rw[hq] at e15;have i0:(0:Int)<=i:=aQ;have i1:(i:Int)<(x.jb.length:Int):=aQ;have f7:=h.wO hq hi (f:=7) aQ;have f4:=h.wO hq hi (f:=4) aQ;have c7:=jc.c7;have c4:=jc.c4;have b0:=hJ.ra.1;have b1:=hJ.ra.2;have b2:=hI.nw.2;obtain⟨n1,u⟩:=h0.uP hq hi (f:=7) aQ {j with bg:=true} (.bool true) rfl;obtain⟨n3,n4⟩:=n1.uP hq hi (f:=4) aQ {j with bg:=true,ra:=j.ra+1} (.int .i64 (j.ra+1)) rfl;have HN:=bH n3 (u.trans n4);have HJ:=aP hJ;have HI:=aP hI;have HT:aH ((j.tk=(t:Int))/\t<x.ts.length):=⟨htk,z⟩
 clear n1 u n3 n4 h0 h hI hJ jc hj htk hq;go_enter func59,ntmps59
 go_upto_region 3 with(fail)
 generalize ((w.setCell (q,i *11+7) (.bool true)).setCell (q,i *11+4) (.int .i64 (j.ra+1)))=w3 at *;obtain⟨hn1,hn2⟩:=HN.o;have a:=hn1.qG HQ.o hi;have a8:=a.c8;have a6:=a.c6;have f6:=hn1.wO HQ.o (by simpa[cC] using hi) (f:=6) aQ;have HL0:aH (-1048576<=j.lf/\j.lf<=1048576):=⟨by have:=HJ.o.lf;omega,by have:=HJ.o.lf;omega⟩
 have l0:=HL0.o.1;have l1:=HL0.o.2;clear hn1 hn2 a f7 f4 c7 c4 e15 b0 b1 b2 HL0;go_upto_if 30 with(fail)
 go_cut [] (λwx=>bP F wx g (cC x i (gH j)) y/\Kp F w wx)
 case first=>
  have HX:=aP (HN.o.1.uP HQ.o hi (f:=6) aQ {j with bg:=true,ra:=j.ra+1,lf:=j.lf - 1} (.int .i64 (j.lf - 1)) rfl);cases O:j.bh
  .have HB:aH (gH j={j with bg:=true,ra:=j.ra+1,lf:=j.lf - 1}):=by unfold aH gH;rw[O];rfl
   rw[O] at a8;go_wp2_with fail
   go_meet
   rw[HB.o];exact⟨HX.o.1,HN.o.2.trans HX.o.2⟩
  .have HB:aH (gH j={j with bg:=true,ra:=j.ra+1}):=by unfold aH gH;rw[O];rfl
   rw[O] at a8;go_wp2_with fail
   go_meet
   rw[HB.o];exact HN.o
 case rest=>
 obtain⟨h5,k5⟩:=hcut;have B:aH ((gH j).tk=(t:Int)/\t<x.ts.length):=HT.o;have HJ5:aH ((-1<=(gH j).rs/\(gH j).rs<=3000)/\(gH j).lf<=1048576):=⟨⟨by have:=HJ.o.rs;show -1<=j.rs;omega,by have:=HJ.o.rs;show j.rs<=3000;omega⟩,by have:=(Mw HJ.o).2;omega⟩
 clear HN a8 a6 f6 l0 l1 HJ HT;generalize gH j=r at *;have ha:=h5.qG HQ.o hi;have a4:=ha.c4;have a5:=ha.c5;have a6:=ha.c6;have a0:=ha.c0;have D:=bH h5 k5;clear h5 k5 ha;have HG:=aP (λW (hW:bP F W g (cC x i r) y) (kd:Int)=>Ai hW kd (i:=i) (by simpa[cC] using hi) (by have:=HI.o.jl;simp[cC];omega) (by have:=HI.o.lg;simp[cC];omega));obtain⟨qT,A,cA,hT,t0,t1,t2,t3,t4,_⟩:=D.o.1.task (n:=t) (by simpa[cC] using z);have P:=D.o.1.c 0 (.slice y.T y.L.length y.cT) rfl;rw[hT,show y.L.length=x.ts.length from D.o.1.len] at P;rw[B.o.1] at a0;have HTQ:=aP hT;clear hT t0 t1 t2 t3;have s0:(0:Int)<=t:=aQ;have s1:(t:Int)<(x.ts.length:Int):=aQ;obtain⟨tt,htt⟩:∃tt,tt=gT x t:=⟨_,rfl⟩
 have HTT:aH (tt=gT x r.tk):=by rw[B.o.1];exact htt
 rw[show gT (cC x i r) t=tt from htt.symm] at t4;have HP:aH (Cz tt):=by rw[htt];exact(eA.task HI.o z).2
 have hP1:=HP.o.po;have b:aH (tR x i=(let y:=cC x i r;if r.ra=r.dm then xK y 2 i else if 0<r.lf then y else if tt.po=0 then xK y 3 i else if tt.po=1 then(if r.bh then y else iK (cC y i (JQ r)) 4 (JQ r)) else iK (cC (dX y r.tk (jD (jA x r.tk) x.nw).1) i (EA x r (jD (jA x r.tk) x.nw).2)) 5 (EA x r (jD (jA x r.tk) x.nw).2))):=by
  rw[HR.o,HTT.o];rfl
 clear htt HR;by_cases e1:r.ra=r.dm
 .have e1b:(r.ra==r.dm)=true:=by simpa using e1
  have Q:aH (tR x i=xK (cC x i r) 2 i):=b.o.trans (by simp only[aaK e1]);clear e1 b P t4 a6;go_upto_region 5 with(fail)
  go_quiet (fail)
  have h6:=D.o.1.below (fC wc nq);have H6:=aP (And.intro h6 (D.o.2.trans (D.o.1.fl.below (fC wc nq))));have R:=aP (HG.o _ h6 2);clear h6 D a4 a5 a0;generalize wc.drewN nq=w6 at *;go_wp2_with fail
  refine aR R ?_;rintro e w7 ⟨rfl,⟨y7,h7⟩,k7⟩;have l:=bH h7 (H6.o.2.trans k7);clear h7 k7 R H6 HG;go_wp2_with fail
  refine bodyPost_ret (v:= .tuple #[]) (by simp[results,results59,go_sem]) rfl ?_;rw[Q.o];exact⟨rfl,⟨_,l.o.1⟩,l.o.2⟩
 .have e1b:(r.ra==r.dm)=false:=by simpa using e1
  by_cases e2:0<r.lf
  .have Q:aH (tR x i=cC x i r):=b.o.trans (by simp only[aaL e1,aaK e2]);clear e1 b P t4;go_upto_region 5 with(fail)
   go_quiet (fail)
   have h6:=D.o.1.below (fC wc nq);have H6:=aP (And.intro h6 (D.o.2.trans (D.o.1.fl.below (fC wc nq))));go_wp2_with fail
   refine bodyPost_ret (v:= .tuple #[]) (by simp[results,results59,go_sem]) rfl ?_;rw[Q.o];exact⟨rfl,⟨_,H6.o.1⟩,H6.o.2⟩
  .go_upto_region 5 with(fail)
   go_quiet (fail)
   have h6:=D.o.1.below (fC wc nq);have H6:=aP (And.intro h6 (D.o.2.trans (D.o.1.fl.below (fC wc nq))));have a6':(wc.drewN nq).cell? (q,i *11+6)=some (.int .i64 r.lf):=a6;have a0':(wc.drewN nq).cell? (q,i *11)=some (.int .i64 t):=a0;have t4':(wc.drewN nq).cell? (qT,t *5+4)=some (.int .i64 tt.po):=t4;have e0':(wc.drewN nq).cell? (g,0)=some (.slice qT x.ts.length y.cT):=P;clear h6 D a4 a5 a0 a6 t4 P;generalize wc.drewN nq=w6 at *;go_upto_region 8 with(fail)
   go_quiet (fail)
   have h7:=H6.o.1.below (fC w6 nq);have l:=aP (And.intro h7 (H6.o.2.trans (H6.o.1.fl.below (fC w6 nq))));have E2:aH (¬0<r.lf):=e2;have E1:aH (¬r.ra=r.dm):=e1;clear h7 H6 a6' a0' t4' e0' e1 e1b e2;generalize w6.drewN nq=w7 at *;have U:aH (∀k,cC (cC x i r) i k=cC x i k):=λk=>by simp[cC]
   rcases(by omega:tt.po=0\/tt.po=1\/tt.po=2) with hp|hp|hp
   .have Q:aH (tR x i=xK (cC x i r) 3 i):=b.o.trans (by simp only[aaL E1.o,aaL E2.o,aaK hp]);have p0:(tt.po==0)=true:=by simp[hp]
    have R:=aP (HG.o _ l.o.1 3);clear b hp hP1 U;generalize tt.po=po at *;go_wp2_with fail
    refine aR R ?_;rintro e w8 ⟨rfl,⟨y8,h8⟩,k8⟩;have E:=bH h8 (l.o.2.trans k8);clear h8 k8 R l HG;go_wp2_with fail
    refine bodyPost_ret (v:= .tuple #[]) (by simp[results,results59,go_sem]) rfl ?_;rw[Q.o];exact⟨rfl,⟨_,E.o.1⟩,E.o.2⟩
   .have p0:(tt.po==0)=false:=by simp[hp]
    have p1:(tt.po==1)=true:=by simp[hp]
    have a8:=(l.o.1.qG HQ.o hi).c8;cases O:r.bh
    .have Q:aH (tR x i=iK (cC x i (JQ r)) 4 (JQ r)):=b.o.trans (by simp only[aaL E1.o,aaL E2.o,hp,O,U.o];simp);have a9:=(l.o.1.qG HQ.o hi).c9;have f8:=l.o.1.wO HQ.o (by simpa[cC] using hi) (f:=8) aQ;have f9:=l.o.1.wO HQ.o (by simpa[cC] using hi) (f:=9) aQ;obtain⟨n1,u⟩:=l.o.1.uP HQ.o hi (f:=8) aQ {r with bh:=true} (.bool true) rfl;obtain⟨n3,n4⟩:=n1.uP HQ.o hi (f:=9) aQ (JQ r) (.int .i64 (r.rs+1)) rfl;have C:=n3.qG HQ.o hi;have R:=aP (wV n3 4 C.c0 C.c1 (by have:=HI.o.lg;simp[cC];omega));have HK:=aP (l.o.2.trans (u.trans n4));have r0:=HJ5.o.1.1;have r1:=HJ5.o.1.2;rw[O] at a8;clear b hp hP1 U n1 u n3 n4 C O l;generalize tt.po=po at *;go_wp2_with fail
     refine aR R ?_;rintro e w8 ⟨rfl,⟨A8,c8,h8⟩,k8⟩;have E:=bH h8 (HK.o.trans k8);clear h8 k8 R HG HK;go_wp2_with fail
     refine bodyPost_ret (v:= .tuple #[]) (by simp[results,results59,go_sem]) rfl ?_;rw[Q.o];exact⟨rfl,⟨_,E.o.1⟩,E.o.2⟩
    .have Q:aH (tR x i=cC x i r):=b.o.trans (by simp only[aaL E1.o,aaL E2.o,hp,O];simp);rw[O] at a8;clear b hp hP1 U O;generalize tt.po=po at *;go_wp2_with fail
     refine bodyPost_ret (v:= .tuple #[]) (by simp[results,results59,go_sem]) rfl ?_;rw[Q.o];exact⟨rfl,⟨_,l.o.1⟩,l.o.2⟩
   .have p0:(tt.po==0)=false:=by simp[hp]
    have p1:(tt.po==1)=false:=by simp[hp]
    have pe2:(tt.po==2)=true:=by simp[hp]
    have HX:∃s' p2,jD (jA x r.tk) x.nw=(s',p2):=⟨_,_,rfl⟩
    obtain⟨s',p2,hps⟩:=HX;have hX:=eA.rK HI.o z;obtain⟨_,_,hok⟩:=hX;have V:jD (jA x t) x.nw=(s',p2):=by rw[<-B.o.1];exact hps
    have hp2:0<=p2/\p2<=4000000000:=by
     have e1:p2=max x.nw (jA x t).next:=by have:=congrArg Prod.snd V;exact this.symm
     have:=hok.n0;have:=hok.n1;have:=HI.o.nw;omega
    have Q:aH (tR x i=iK (cC (dX x t s') i (EA x r p2)) 5 (EA x r p2)):=b.o.trans (by
     simp only[aaL E1.o,aaL E2.o,hp,hps];rw[B.o.1];simp[cC,dX])
    have HPU:=aP (λW a (hW:Sh W a (jA x t))=>YA (jA x t) x.nw a k W hW hok aQ HI.o.nw.1 HI.o.nw.2);rw[V] at HPU;obtain⟨qT',A',cA',H,t0,t1,t2,_⟩:=l.o.1.task (n:=t) (by simpa[cC] using z);have P:=l.o.1.c 0 (.slice y.T y.L.length y.cT) rfl;rw[HTQ.o] at H P;injection H with H;injection H with H;subst H;rw[show y.L.length=x.ts.length from l.o.1.len] at P;have a0:=(l.o.1.qG HQ.o hi).c0;rw[B.o.1] at a0;have HTT2:aH (gT x r.tk=tt):=HTT.o.symm;have N:gT (cC x i r) t=tt:=by rw[HTT.o,B.o.1];rfl
    rw[N] at t0 t1 t2;have q0:=HP.o.de.1;have q1:=HP.o.de.2;have HL:aH ((cC x i r).sh.length=(cC x i r).ts.length):=HI.o.ls;have HP2:=aP hp2;clear b hp hP1 U hps V hok N HTT hp2;generalize tt.po=po at *;go_upto_region 17 with(fail)
    have aft_e0:=bF P;have aft_a0:=bF a0;have aft_t0:=bF t0;have aft_t1:=bF t1;have aft_t2:=bF t2;refine bS (bV _) (λ_=>bV) [5] (λ_ v w=>lS (lF P) 122 #[aU,aU,aU] v w) [13] [] 172 (cM _) (λ_ _ _ h N=>bZ h N) (λ_ d hd _ v w w' _ h N=>h.keep N) aV aV bK ?_;repeat (first|(refine fQ ?_)|(refine JT 5 [] bK bK bK bK (λγ w hC hT=>?_) ?_;(simp only[dG];go_simp;exact DD (aX w _) ⟨_,rfl,Below.size hC,bC.new w _ _⟩);(try refine dB ?_)))
    refine eL ?_;intro γ w_ hb_ hT;clear aft_e0 aft_a0 aft_t0 aft_t1 aft_t2;simp only[dG,Act.put,aaI,aaP,aaN];refine eT ?_;obtain⟨g5,e_,hm_,hk_⟩:=hT 5 aT;simp only[e_];clear hT e_;refine aaB hm_ hb_ hk_ rfl 122 _ _ rfl #[tt.co,tt.pe,tt.de] rfl rfl rfl aV aV ?_;clear hm_ hb_ hk_;intro w8 hb8 hm5;refine cP ?_;simp only[Act.put];have E:=bH (l.o.1.boxed hb8 hm5.1 hm5.2.lt) (l.o.2.trans (l.o.1.fl.below hb8));obtain⟨qS,a,hS,x0,_,hlen,_⟩:=E.o.1.XO HL.o (i:=t) (by simpa[cC] using z);have e12:=E.o.1.c 12 (.slice y.S y.a.length y.cS) rfl;rw[hS,hlen] at e12;have e12':w8.cell? (g,12)=some (.slice qS x.ts.length y.cS):=e12;have e11:=E.o.1.c 11 (.int .i64 x.nw) rfl;have z0:=(E.o.1.qG HQ.o hi).c0;rw[B.o.1] at z0;have HSQ:=aP hS;have hB5:=aP hm5.2;clear hS hlen e12 hm5 hb8 P a0 t0 t1 t2 l;go_upto_region 18 with(fail)
    have I:=bF e12';have aft_x0:=bF x0;have aft_z0:=bF z0;have X:=bF e11;refine bS (bV _) (λ_=>bV) [] (λ_ _ _=>True) [16,20] [[16,11,10,4], [16,11,10,9]] 172 (cM _) (λ_ _ _ h N=>bZ h N) (λ_ d hd _ v w w' _ h N=>by cases hd) aV aV bK ?_;repeat refine fQ ?_
    refine eL ?_;intro γ w9 Y hT;clear I aft_x0 aft_z0 X;simp only[dG,Act.put,aaI,aaP,aaN];refine eT ?_;have h9:=E.o.1.below Y;obtain⟨qS',a',M,p,hsh,_,eV⟩:=h9.XO HL.o (i:=t) (by simpa[cC] using z);rw[HSQ.o] at M;injection M with M;injection M with M;subst M;have x0'':=bD Y x0;rw[x0''] at p;injection p with p;injection p with p;injection p with p;injection p with p;subst p;have HPP:=aP (HPU.o w9 _ hsh);have HTU:=aP eV;have H9:=bH h9 (E.o.2.trans (E.o.1.fl.below Y).unbox);have hB9:=aP (hB5.o.keep Y);clear h9 hsh eV x0'' Y E hB5 HPU x0 e12' e11 z0;refine wpList_plain rfl (λK hK=>?_);go_wp2_with fail
    refine aR HPP ?_;rintro e w10 ⟨rfl,hs10,hg10⟩;have t10:=HTU.o _ _ hs10 hg10;have hX:bP (Fb F g5) w10 g (cC (dX x t s') i r) y:=t10.1;have h10:=bH hX (H9.o.2.trans t10.2.unbox);have hB10:=aP (t10.2.aZ hB9.o (.inr rfl));refine hK _ _ ?_;clear hK K hs10 hg10 t10 hX HTU HPP H9 hB9;try refine dB ?_
    refine dU w10 rfl 3 _ _ rfl q (i *11+2) (.int .i64 p2) rfl rfl aV rfl (h10.o.1.Az HQ.o (by simpa[cC,dX] using hi) aQ) ?_;refine cP ?_;try refine dB ?_
    obtain⟨n1,u⟩:=h10.o.1.uP HQ.o (by simpa[dX] using hi) (f:=2) aQ {r with ca:=p2} (.int .i64 p2) rfl;have Z:=bH n1 (h10.o.2.trans u.unbox);have a1:=aP (u.aZ hB10.o (.inr rfl));clear n1 u h10 hB10;generalize w10.setCell (q,i *11+2) (.int .i64 p2)=w11 at *;have a2:=(Z.o.1.qG HQ.o (by simpa[dX] using hi)).c2;have a2':w11.cell? (q,i *11+2)=some (.int .i64 p2):=a2;have d2:=a1.o.cell 2 tt.de rfl;have pp0:=HP2.o.1;have pp1:=HP2.o.2;clear a2;go_upto_region 19 with(fail)
    have a7:=bF a2';have aft_d2:=bF d2;refine bS (bV _) (λ_=>bV) [] (λ_ _ _=>True) [12] [] 172 (cM _) (λ_ _ _ h N=>bZ h N) (λ_ d hd _ v w w' _ h N=>by cases hd) aV aV bK ?_;repeat refine fQ ?_
    refine eL ?_;intro γ w12 G hT;clear a7 aft_d2;simp only[dG,Act.put,aaI,aaP,aaN];refine eT ?_;have h12:=Z.o.1.below G;have k12:=Z.o.2.trans (Z.o.1.fl.below G).unbox;have hB12:=a1.o.keep G;obtain⟨n1,u⟩:=h12.uP HQ.o (by simpa[dX] using hi) (f:=3) aQ {r with ca:=p2,de:=p2+tt.de} (.int .i64 (p2+tt.de)) rfl;have m:=bH n1 (k12.trans u.unbox);have hB13:=aP (u.aZ hB12 (.inr rfl));refine dU w12 rfl 3 _ _ rfl q (i *11+3) (.int .i64 (p2+tt.de)) rfl rfl aV rfl (h12.Az HQ.o (by simpa[cC,dX] using hi) aQ) ?_;refine cP ?_;try refine dB ?_
    clear n1 u h12 k12 hB12 G Z a1 a2' d2 pp0 pp1;generalize w12.setCell (q,i *11+3) (.int .i64 (p2+tt.de))=w13 at *;have s:i<(dX x t s').jb.length:=hi;have c9:=(m.o.1.qG HQ.o s).c9;have c9':w13.cell? (q,i *11+9)=some (.int .i64 r.rs):=c9;have d0:=hB13.o.cell 0 tt.co rfl;have aa:i<(cC (dX x t s') i {r with ca:=p2,de:=p2+tt.de}).jb.length:=by simpa[cC] using s
    have f6:=m.o.1.wO HQ.o aa (f:=6) aQ;have f9:=m.o.1.wO HQ.o aa (f:=9) aQ;have f7:=m.o.1.wO HQ.o aa (f:=7) aQ;have f10:=m.o.1.wO HQ.o aa (f:=10) aQ;have c6:=(m.o.1.qG HQ.o s).c6;have c6':w13.cell? (q,i *11+6)=some (.int .i64 r.lf):=c6;have c7:=(m.o.1.qG HQ.o s).c7;have c7':w13.cell? (q,i *11+7)=some (.bool r.bg):=c7;have vD:=(m.o.1.qG HQ.o s).vD;have c10':w13.cell? (q,i *11+10)=some (.bool r.lt):=vD;clear c9 c6 c7 vD;obtain⟨n1,m1⟩:=m.o.1.uP HQ.o s (f:=6) aQ {r with ca:=p2,de:=p2+tt.de,lf:=tt.co} (.int .i64 tt.co) rfl;obtain⟨u,m2⟩:=n1.uP HQ.o s (f:=9) aQ {r with ca:=p2,de:=p2+tt.de,lf:=tt.co,rs:=r.rs+1} (.int .i64 (r.rs+1)) rfl;obtain⟨n3,m3⟩:=u.uP HQ.o s (f:=7) aQ {r with ca:=p2,de:=p2+tt.de,lf:=tt.co,rs:=r.rs+1,bg:=false} (.bool false) rfl;obtain⟨n4,m4⟩:=n3.uP HQ.o s (f:=10) aQ {r with ca:=p2,de:=p2+tt.de,lf:=tt.co,rs:=r.rs+1,bg:=false,lt:=false} (.bool false) rfl;have hpj:({r with ca:=p2,de:=p2+tt.de,lf:=tt.co,rs:=r.rs+1,bg:=false,lt:=false}:Jb)=EA x r p2:=by unfold EA;rw[HTT2.o]
    rw[hpj] at n4;have C:=n4.qG HQ.o s;have R:=aP (wV n4 5 C.c0 C.c1 (by have:=HI.o.lg;simp[cC,dX];omega));have HK:=aP (m.o.2.trans (m1.trans (m2.trans (m3.trans m4))).unbox);have r0:=HJ5.o.1.1;have r1:=HJ5.o.1.2;clear n1 u n3 n4 m1 m2 m3 m4 C hpj m hB13 aa;go_wp2_with fail
    refine aR R ?_;rintro e w20 ⟨rfl,⟨A8,c8,h20⟩,k20⟩;have H20:=bH h20.less (HK.o.trans k20.unbox);clear h20 k20 R HG HK;go_wp2_with fail
    refine bodyPost_ret (v:= .tuple #[]) (by simp[results,results59,go_sem]) rfl ?_;rw[Q.o];exact⟨rfl,⟨_,H20.o.1⟩,H20.o.2⟩
end
end
end Go.Proofs.YtacgiflhgdaeaaaGreat
