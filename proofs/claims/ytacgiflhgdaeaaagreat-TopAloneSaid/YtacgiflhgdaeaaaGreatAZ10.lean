/- Texts laid as one. -/
import Derived.Shelf.Abstract
import Derived.Test.YtacgiflhgdaeaaaGreatAZ2
import Derived.Test.YtacgiflhgdaeaaaGreatAZ3
import Derived.Test.YtacgiflhgdaeaaaGreatAZ9
set_option linter.unusedVariables false
set_option linter.unusedSimpArgs false
set_option maxRecDepth 100000
set_option maxHeartbeats 20000000
namespace Go.Proofs.YtacgiflhgdaeaaaGreat
open Go.Proofs.Tryz
open Go renaming World->aA,Value->aC,Calls->aG
open Go.RowKit renaming Hid->aH
open Go.Obj renaming cells->aI
section
open Go.RowKit Go.Lib Go.Shelf
variable{F:Nat->Prop}{w:aA}{g q i n:Nat}{s:Sd}
section
def Fb(F:Nat->Prop)(q:Nat):Nat->Prop:=λb=>F b\/b=q
section
variable{F G:Nat->Prop}{w w':aA}{q:Nat}{X:(Nat->Prop)->aA->Prop}
theorem Fb.ol(h:Ol F w)(hw:w.heap.size<=w'.heap.size)(hq:q<w'.heap.size):Ol (Fb F q) w':=λb hb=>by
 rcases hb with hb|rfl
 .exact Zy (h b hb) hw
 .exact hq
theorem dN.box(M:dN X)(h:X F w)(fl:Ol F w)(o:Obj):X (Fb F w) (w.alloc o):=
 M F (λb=>b<w.heap.size) _ w _ h (Kp.cB (aX w o) λ_ hb=>hb) (λ_ a _=>a) (Fb.ol fl aT aT) (λr a c hb=>by
  rcases hb with hb|hb
  .exact c hb
  .omega)
theorem dN.unbox(M:dN X)(h:X (Fb F q) w)(fl:Ol F w)(c:w.grownBy w' (some q)):X F w':=
 M (Fb F q) (λb=>b<w.heap.size/\b≠q) _ w _ h (Kp.grown c λb hb=>⟨hb.1,λe=>hb.2 (by injection e)⟩) (λr f a=>⟨f,λe=>a (.inr e)⟩) (λb hb=>Zy (fl b hb) c.size) (λr f a hb=>a (.inl hb))
theorem Kp.unbox(k:Kp (Fb F q) w w'):Kp F w w':=k.mono λ_ hb=> .inl hb
end
theorem lS.less(h:lS (Fb F q) w g s):lS F w g s:=(lS.cD g s).unbox h (λb hb=>h.fl b (.inl hb)) (bK w q)
section
variable{F G H:Nat->Prop}{w w':aA}{ow:Nat->Nat}{g q i j d:Nat}{s:Sd}{R:List Pm}{M:Option Nat}{B:Option Addr}
theorem GB.rd{r:Pm}{p:Pv}(h:GB w ow i r p)(b:Bool):GB w ow i {r with rd:=b} {p with rd:=b}:=⟨rfl,h.2.1,h.2.2⟩
theorem iQ.setRow(h:iQ F w g s ow q R M B d)(hi:i<R.length)(c:i<s.P.length)(x:Pm)(f:Pv->Pv)(l:j<2)(v:aC)(n:KA x=(KA R[i]).set j v)(hm:GB w ow i x (f s.P[i])):iQ F (w.setCell (q,i *2+j) v) g {s with P:=s.P.modify i f} (nx w ow 2) q (R.set i x) M B d/\Kp F w (w.setCell (q,i *2+j) v):=by
 obtain⟨h1,o⟩:=qO Q5.len h.row hi l x v n;have k:Kp (Fo w ow 2) w (w.setCell (q,i *2+j) v):=(Fo.ol w ow 2).self (λhf=>hf.2 h.oq) o;refine h.Ty (ab0 ..) (by rw[aaL,ab0];exact h.len) h1 k (λm b a=>?_);simp only[aaL] at b;simp only[ab0] at a;simp only[abA,List.getElem_modify];split
 .rename_i e;subst e;exact hm.other k aQ
 .exact(h.ml m b a).other k aQ
end
def MO(s:Sd)(i:Int):Bool:=decide (0<=i/\i<s.P.length)
def jY(s:Sd)(i:Int)(r:Bool):Sd:=if MO s i then L0 s i.toNat r else s
def xL(s:Sd)(i:Int):Int:=if MO s i then 0 else 1
def EM(F:Nat->Prop)(g:Nat)(v:Int)(s:Sd)(w:aA)(e:Ending)(w':aA):Prop:=e= .returned (.int .i64 v)/\lS F w' g s/\Kp F w w'
theorem LI{i:Int}(h:i<0\/s.P.length<=i):MO s i=false:=aaP aQ
theorem JG(h:i<s.P.length):MO s i=true:=aa2 aQ
theorem wP(h:lS F w g s)(l:s.P.length<=8)(i:Int)(b:Bool):aG prog 43 #[.pointer g,i,b] w (EM F g (xL s i) (jY s i b) w):=by
 have c:=h;obtain⟨ow,q,R,M,B,d,h⟩:=h;by_cases ho:i<0\/s.P.length<=i
 .have f:=aP (DG h l i ho);have k:aH (EM F g (xL s i) (jY s i b) w (.returned (.int .i64 1)) w):=by
   unfold aH jY xL;rw[LI ho];exact⟨rfl,c,Kp.refl _ _⟩
  clear h ho c;generalize xL s i=rE at *;go_enter func43,ntmps43
  go_wp2_with fail
  refine aR f ?_;rintro e m ⟨rfl,rfl⟩;go_wp2_with fail
  go_ret
  exact k.o
 .obtain⟨n,rfl⟩:=aaB (show 0<=i by omega);have hi:n<s.P.length:=aQ;have a:n<R.length:=by have:=h.len;omega
  have f:=aP (KY h l hi);obtain⟨c0,c1,f0,f1⟩:=h.pl a;have k:aH (EM F g (xL s n) (jY s n b) w (.returned (.int .i64 0)) (w.setCell (q,n *2+1) (.bool b))):=by
   unfold aH jY xL;rw[JG hi];obtain⟨h1,t⟩:=h.setRow a hi {R[n] with rd:=b} (λp=>{p with rd:=b}) (j:=1) aQ (.bool b) rfl ((h.ml n a hi).rd b);exact⟨rfl,⟨_,_,_,_,_,_,h1⟩,t⟩
  clear h ho c;generalize R[n]=r at *;generalize xL s n=rE at *;go_enter func43,ntmps43
  go_wp2_with fail
  refine aR f ?_;rintro e m ⟨rfl,rfl⟩;go_wp2_with fail
  go_ret
  exact k.o
def yS(s:Sd)(i bu pe:Int):Int:=if MO s i then nI s.b i bu pe else 1
def qN(s:Sd)(i bu pe:Int):Sd:=if MO s i then D3 s i.toNat bu pe else s
theorem GY(h:lS F w g s)(C:gQ s)(i bu pe:Int):aG prog 67 #[.pointer g,i, .agg #[bu,pe]] w (EM F g (yS s i bu pe) (qN s i bu pe) w):=by
 have h8:=C.n.2;have V:=aX w (aI #[bu,pe] 112);have N:=bF.new w 112 #[bu,pe];have c:=h.fl.below V;have h1:=(lS.cD g s).box h h.fl (aI #[bu,pe] 112);clear h;obtain⟨ow,q,R,M,B,d,h⟩:=h1;by_cases ho:i<0\/s.P.length<=i
 .have D:=aP (DG h h8 i ho);have f:aH (EM F g (yS s i bu pe) (qN s i bu pe) w (.returned (.int .i64 1)) (w.alloc (aI #[bu,pe] 112))):=by
   unfold aH qN yS;rw[LI ho];exact⟨rfl,lS.less ⟨_,_,_,_,_,_,h⟩,c⟩
  clear h ho C c;go_enter func67,ntmps67
  go_upto_region 1 with(fail)
  generalize w.alloc (aI #[bu,pe] 112)=w1 at *;go_wp2_with fail
  refine aR D ?_;rintro e w2 ⟨rfl,rfl⟩;go_wp2_with fail
  go_ret
  exact f.o
 .obtain⟨n,rfl⟩:=aaB (show 0<=i by omega);have hi:n<s.P.length:=aQ;have m:n<R.length:=by have:=h.len;omega
  have D:=aP (KY h h8 hi);have f:aH (yS s n bu pe=nI s.b n bu pe/\qN s n bu pe=D3 s n bu pe):=by
   unfold aH yS qN;rw[JG hi];exact⟨rfl,rfl⟩
  have W:=bN h c;have HI:=aP C;have O:aH (nI s.b n bu pe=0->nK bu pe=true/\s.P[n].sv=none):=by
   intro he;unfold nI at he;split at he
   .rename_i Q;refine⟨Q,?_⟩;split at he
    .cases he
    .rename_i hf;have:=C.has n _ (Zv hi);cases E:s.P[n].sv with
     |none=>rfl
     |some v=>rw[this,E] at hf;simp at hf
   .cases he
  have z:aH (D3 s n bu pe=if nI s.b n bu pe=0 then {s with b:=rZ s.b n bu pe,P:=s.P.modify n λp=>{p with sv:=some (vU bu pe)}} else s):=rfl;have I:aH (nI s.b n bu pe≠0->rZ s.b n bu pe=s.b):=by
   intro he;unfold rZ;rw[aaA he]
  generalize yS s n bu pe=rE at *;generalize qN s n bu pe=rV at *;generalize D3 s n bu pe=rB at *;obtain⟨Y,t⟩:∃a,a=nI s.b n bu pe:=⟨_,rfl⟩
  obtain⟨aB,u⟩:∃a,a=rZ s.b n bu pe:=⟨_,rfl⟩
  rw[<-t] at O z I f;rw[<-u] at z I;have Z:aH (nI s.b n bu pe=Y):=t.symm;have a1:aH (rZ s.b n bu pe=aB):=u.symm;clear t u;clear h ho C c;go_enter func67,ntmps67
  go_upto_region 1 with(fail)
  generalize w.alloc (aI #[bu,pe] 112)=w1 at *;generalize w.heap.size=q1 at *;have x0:=N.cell 0 bu rfl;have x1:=N.cell 1 pe rfl;go_wp2_with fail
  refine aR D ?_;rintro e w2 ⟨rfl,rfl⟩;go_upto_region 4 with(fail)
  have k:=bD x0;have l:=bD x1;refine bO (bS _) (λ_=>bS) [] (λ_ _ _=>True) [5,6] [] 31 (bY _) (λ_ _ _ h hz=>bU h hz) (λ_ d hd _ v w w' _ h hz=>by cases hd) aV aV bL ?_;repeat refine eA ?_
  refine dC ?_;intro γ w5 hb5 hT;clear k l;simp only[cO,Act.put,Zx,aaE,aaD];refine dP ?_;obtain⟨h5,A⟩:=W.o.1.keep hb5;have S:=aP (X8 h5.bk HI.o.bk n bu pe);rw[Z.o,a1.o] at S;have H5:=dA h5 W.o.2 A;clear hT h5 A hb5 x0 x1;refine wpList_plain rfl (λK hK=>?_);go_wp2_with fail
  refine aR S ?_;rintro e w3 ⟨rfl,⟨M3,m3⟩,T⟩;obtain⟨h1,c,A⟩:=H5.o;obtain⟨t1,k4⟩:=h1.JH m3 T;have U:=dA t1 c (A.trans k4);have x:=(A.trans k4).aY N (.inr rfl);have x0:=x.cell 0 bu rfl;have x1:=x.cell 1 pe rfl;clear m3 T t1 k4 h1 c A W H5 N x;refine hK _ _ ?_;clear hK K;refine wpList_plain rfl (λK hK=>?_);go_simp
  refine hK _ _ ?_;clear hK K;refine cI ?_;try refine dE ?_
  by_cases he:Y=0
  .obtain⟨Q,hn⟩:=O.o he;have y:aH (rE=0/\rV={s with b:=aB,P:=s.P.modify n λp=>{p with sv:=some (vU bu pe)}}):=by
    unfold aH;rw[f.o.1,f.o.2,z.o,Zz he];exact⟨he,rfl⟩
   have HS:=aP (Is bu pe w3 Q);clear Q O I z;subst he;go_wp2_with fail
   refine aR HS ?_;rintro e w4 ⟨g4,rfl,hg4,J,L⟩;obtain⟨t1,k0,c⟩:=U.o;obtain⟨t2,s2,k2⟩:=t1.made hi hn J L;have hsp:=t2.pl m;obtain⟨c0,c1,f0,f1⟩:=hsp;have HF:aH (EM F g rE rV w (.returned (.int .i64 0)) (w4.setCell (q,n *2) (.pointer g4))):=by
    obtain⟨h3,T⟩:=t2.setRow m hi ⟨some g4,R[n].rd⟩ (λp=>{p with sv:=some (vU bu pe)}) (j:=0) aQ (.pointer g4) rfl ⟨(t2.ml n m hi).1,λe=>(by cases e),λv E=>(by injection E with E;subst E;exact⟨g4,rfl,s2⟩)⟩;unfold aH;rw[y.o.1,y.o.2];exact⟨rfl,lS.less ⟨_,_,_,_,_,_,h3⟩,k0.trans ((c.trans k2).trans T).unbox⟩
   clear J L t1 k0 c t2 s2 k2 U y f S D HS hg4;generalize R[n]=r at *;go_wp2_with fail
   go_ret
   exact HF.o
  .have HF:aH (EM F g rE rV w (.returned (.int .i64 Y)) w3):=by
    unfold aH;rw[f.o.1,f.o.2,z.o,aaA he];have:=U.o;rw[I.o he] at this;exact⟨rfl,lS.less ⟨_,_,_,_,_,_,this.1⟩,this.2.1.trans this.2.2.unbox⟩
   clear U O I z f S D;go_wp2_with fail
   go_ret
   exact HF.o
def yX(s:Sd)(i:Int):Int:=if MO s i then(if(tL s i).isSome then 0 else 6) else 1
def r6(s:Sd)(i:Int):Sd:=match tL s i with|some v=>yE s i.toNat v|none=>s
theorem Lh{i:Int}(h:i<0\/s.P.length<=i):tL s i=none:=by
 unfold tL;split
 .rw[abR aQ];rfl
 .rfl
theorem YM(hi:n<s.P.length):tL s n=s.P[n].sv:=by
 unfold tL;rw[Zz aQ,aaG,Zv hi];rfl
theorem GQ(h:lS F w g s)(k:gQ s)(i:Int):aG prog 70 #[.pointer g,i] w (EM F g (yX s i) (r6 s i) w):=by
 have C:=k.n.2;have t:=h;obtain⟨ow,q,R,M,B,d,h⟩:=h;by_cases ho:i<0\/s.P.length<=i
 .have x:=aP (DG h C i ho);have m:aH (EM F g (yX s i) (r6 s i) w (.returned (.int .i64 1)) w):=by
   unfold aH yX r6;rw[LI ho,Lh ho];exact⟨rfl,t,Kp.refl _ _⟩
  clear h ho t k;go_enter func70,ntmps70
  go_wp2_with fail
  refine aR x ?_;rintro e z ⟨rfl,rfl⟩;go_wp2_with fail
  go_ret
  exact m.o
 .obtain⟨n,rfl⟩:=aaB (show 0<=i by omega);have hi:n<s.P.length:=aQ;have c:n<R.length:=by have:=h.len;omega
  have x:=aP (KY h C hi);obtain⟨c0,c1,f0,f1⟩:=h.pl c;have f:=h.ml n c hi;cases l:s.P[n].sv with
  |none=>
   have hp:=f.2.1 l;rw[hp] at c0;replace c0:w.cell? (q,n *2)=some (.pointer none):=c0;have m:aH (EM F g (yX s n) (r6 s n) w (.returned (.int .i64 6)) w):=by
    unfold aH yX r6;rw[JG hi,YM hi,l];exact⟨rfl,t,Kp.refl _ _⟩
   clear h ho t k f hp l;generalize R[n]=r at *;go_enter func70,ntmps70
   go_wp2_with fail
   refine aR x ?_;rintro e z ⟨rfl,rfl⟩;go_wp2_with fail
   go_ret
   exact m.o
  |some v=>
   obtain⟨a,hp,hs⟩:=f.2.2 v l;rw[hp] at c0;replace c0:w.cell? (q,n *2)=some (.pointer a):=c0;have hlen:=(k.sv _ (aaF hi) v l).len;have D:=aP (YA hs aQ);have K:CH s.b n=0:=by
    unfold CH;rw[k.has n _ (Zv hi),l];rfl
   have m:aH (yX s n=0/\r6 s n=yE s n v):=by
    unfold aH yX r6;rw[JG hi,YM hi,l];exact⟨rfl,rfl⟩
   have N:=aP h;have E:=aP k;have HD:aH (yE s n v={s with b:=tE s.b n (sR v),P:=s.P.modify n λp=>{p with sv:=none}}):=rfl;generalize yX s n=rE at *;generalize r6 s n=rV at *;clear h ho t k f hlen hs;go_enter func70,ntmps70
   go_wp2_with fail
   refine aR x ?_;rintro e z ⟨rfl,rfl⟩;go_wp2_with fail
   refine aR D ?_;rintro e z ⟨rfl,y⟩;obtain⟨t1,I⟩:=N.o.keep y;obtain⟨c0,c1,f0,f1⟩:=t1.pl c;obtain⟨t2,A⟩:=t1.setRow c hi {R[n] with pt:=none} (λp=>{p with sv:=none}) (j:=0) aQ (.pointer none) rfl ⟨(t1.ml n c hi).1,λ_=>rfl,λu hu=>(by cases hu)⟩;rw[aaU] at t2 A;have O:=aP (RV t2.bk E.o.bk n (sR v) (by have:=E.o.len;show s.b.L.length<=_;omega));have J:=bN t2 (I.trans A);clear t1 I t2 A y D x;generalize R[n]=r at *;generalize sR v=lv at *;go_wp2_with fail
   refine aR O ?_;rintro e w5 ⟨rfl,⟨U,V,d5,m5⟩,k5⟩;have Q:aH (EM F g rE rV w (.returned (.int .i64 0)) w5):=by
    obtain⟨S,T⟩:=J.o.1.JH m5 k5;unfold aH;rw[m.o.1,m.o.2,HD.o];exact⟨rfl,⟨_,_,_,_,_,_,S⟩,J.o.2.trans T⟩
   go_wp2_with fail
   go_ret
   exact Q.o
end
variable{sz m:Nat}{v:aC}{w':aA}{x:Lb}{y:La}
section
theorem Si:jS prog 162 165 4 32:=fU (z:= .agg #[aU,aU,aU,aU]) underlying162 aV (by simp[Value.cells]) aQ
theorem Xe:jS prog 191 209 11 80:=fU (z:= .agg #[aU,aU,aU,aU,aU,aU,aU,false,false,aU,false]) underlying191 aV (by simp[Value.cells]) aQ
def LQ{α:Type}(enc:α->List aC)(sz:Nat)(y:α)(v:aC)(w:aA):Prop:=∃G,v= .slice (some ⟨G,0,none⟩) 1 1/\Sl enc sz w (some ⟨G,0,none⟩) [y]
theorem LQ.keep{α:Type}{enc:α->List aC}{y:α}(h:LQ enc sz y v w)(a:bS w w'):LQ enc sz y v w':=by obtain⟨G,h1,b⟩:=h;exact⟨G,h1,b.keep a⟩
section
variable{F:Nat->Prop}{w w':aA}{g q:Nat}{x:Lb}{y:La}
theorem bR.boxed(h:bR F w g x y)(hb:Below w w w')(hq:w.heap.size<=q)(a:q<w'.heap.size):bR (Fb F q) w' g x y:=
 ⟨h.ts,Ob.cD _ F (λb=>b<w.heap.size) (Fb F q) w w' h.o (Kp.cB hb λ_ h=>h) (λ_ c _=>c) (Fb.ol h.fl hb.size a) (λr c d hb=>hb.elim d (λe=>by omega))⟩
theorem bR.less(h:bR (Fb F q) w g x y):bR F w g x y:=⟨h.ts,(Ob.cD (jC g x y)).unbox h.o (λb hb=>h.fl b (.inl hb)) (bK w q)⟩
end
theorem wN(h:bR F w g x y)(kd:Int){o:Nat}{j:Jb}(c0:w.cell? (q,o)=some (.int .i64 j.tk))(c1:w.cell? (q,o+1)=some (.int .i64 j.nu))(hl:x.lg.length<=3000000000):
 aG prog 60 #[.pointer g,kd, .pointer (some ⟨q,o,none⟩)] w λr w'=>r= .returned (.tuple #[])/\(∃A c,bR F w' g (iY x kd j) {y with G:=A,cG:=c})/\Kp F w w':=by
 have C:=h.c 11 (.int .i64 x.nw) rfl;have s:=h.c 16 (.slice y.G x.lg.length y.cG) rfl;obtain⟨ev,u⟩:∃ev:Ev,ev=⟨kd,j.tk,j.nu,x.nw⟩:=⟨_,rfl⟩
 have S:aH (∀(W:aA) t,Sl qW 4 (W.alloc (.cells #[kd,j.tk,j.nu,x.nw] t)) (some ⟨W.heap.size,0,none⟩) [ev]):=λW t=>Sl.new wQ W ev _ (by rw[u];rfl) t
 have HE:aH (iY x kd j={x with lg:=x.lg++ [ev]}):=by unfold aH iY;rw[u]
 have T:=aP h;obtain⟨n,L⟩:∃n,n=x.lg.length:=⟨_,rfl⟩
 rw[<-L] at s hl;have U:=aP L;clear u h L;go_enter func60,ntmps60
 go_upto_region 0 with(fail)
 have a:=bD C;have f:=bD s;have i:=bD c0;have k:=bD c1;refine bO (bS _) (λ_=>bS) [27] (λ_ v w=>LQ qW 4 ev v w) [22,25] [[22,21,20,10], [22,21,20,15], [22,21,20,19]] 31 (bY _) (λ_ _ _ h M=>bU h M) (λ_ d hd _ v w w' _ h M=>h.keep M) aV aV bL ?_;repeat (first|(refine eA ?_)|(refine uG 27 [] bL bL bL bL (λγ w hC N=>?_) ?_;(simp only[cO];go_simp;exact p5 (aX w _) ⟨_,rfl,S.o w _⟩);(try refine dE ?_)))
 refine dC ?_;intro γ w5 z N;clear a f i k;simp only[cO,Act.put,Zx,aaE,aaD];refine dP ?_;obtain⟨G,V,D⟩:=N 27 aT;rw[V];have O:=T.o.below z;have X:aH (∃own:bI qW 4 w5 0 165 y.G y.cG x.lg,True):=by
  obtain⟨J,h1⟩:=O.o;exact⟨(h1.get 8 (p:=PR qW 4 165 y.G y.cG x.lg) rfl).o,trivial⟩
 have Y:=X.o.1;have E:=aP (T.o.fl.below z);have P:=aP O;clear V N S c0 c1 C s O z X;refine bP w5 rfl (.tmp 10) (.tmp 27) rfl Si wQ (base:=0) (xs:=x.lg) Y (n:=n) U.o.symm rfl (m:=1) rfl (ys:= [ev]) rfl D dI aQ (aaH _) _ rfl (n+1) rfl ?_;intro A6 c6 Q l B H;have I:bF Q g 193 (fO x y):=by
  obtain⟨J,h1⟩:=P.o.o;have hr:gP qW 4 165 y.G y.cG x.lg (Fo w5 J 9) w5:=h1.get 8 (p:=PR qW 4 165 y.G y.cG x.lg) rfl;have K:oF g 193 (fO x y) (Fo w5 J 1) w5:=h1.get 0 (p:=PB g 193 (fO x y)) rfl;refine K.b.grown B (λe=>?_);have h2:J g=1:=aaW λhc=>K.nf ⟨K.b.lt,hc⟩
  exact hr.nf g e.symm ⟨K.b.lt,aQ⟩
 refine dS Q rfl 162 _ _ rfl g 16 (.slice A6 (n+1) c6) rfl rfl aV rfl (I.one (by simp[fO])) ?_;refine cI ?_;refine dE ?_;have R:=P.o.OW U.o l B H;have Z:=bN R.1 (E.o.trans R.2);generalize Q.setCell (g,16) (.slice A6 (n+1) c6)=w7 at *;clear R l B H I Y D P E;go_wp2_with fail
 go_end0
 rw[HE.o];exact⟨rfl,⟨_,_,Z.o.1⟩,Z.o.2⟩
theorem JT(h:bR F w g x y)(hI:GS x n m)(hn:n<=1000000)(hm:m<=3000000000)(hi:i<x.ts.length)(d:Int):
 aG prog 57 #[.pointer g,i,d] w λr w'=>r= .returned (.tuple #[])/\(∃A c B b,bR F w' g (sK x i d) {y with J:=A,cJ:=c,G:=B,cG:=b})/\Kp F w w':=by
 have l:i<x.nu.length:=by rw[hI.lu];exact hi
 obtain⟨qT,A,cA,E,t0,t1,t2,t3,t4,hs⟩:=h.task hi;obtain⟨qU,hU,u0⟩:=h.num l;have e0:=h.c 0 (.slice y.T y.L.length y.cT) rfl;have e11:=h.c 11 (.int .i64 x.nw) rfl;have e13:=h.c 13 (.slice y.U x.nu.length y.cU) rfl;rw[E,h.len] at e0;rw[hU] at e13;have hTk:Vo (iD x i):=by
  unfold iD;rw[aaG,aaI,Zv hi];exact hI.tk _ (aaF hi)
 have b1:=hTk.d0;have b2:=hTk.d1;have b3:=hI.n0;have b4:=hI.n1;have b5:0<=x.nu.getD i 0/\x.nu.getD i 0<=n:=by
  rw[aaI,Zv l];exact hI.nu _ (aaF l)
 obtain⟨b5,b6⟩:=b5;have hjl:=hI.jl;have HLG:aH (x.lg.length<=3000000000):=aaC hI.gl hm;obtain⟨v,hv⟩:∃v:Int,v=x.nu.getD i 0:=⟨_,rfl⟩
 rw[<-hv] at u0 b5 b6;obtain⟨k,j⟩:∃k:Lb,k={x with nu:=x.nu.set i (v+1)}:=⟨_,rfl⟩
 have h1:=h.Po hU l (v+1);rw[<-j] at h1;have HJ:aH (qJ x i d=⟨i,v+1,x.nw,x.nw+(iD x i).de,0,d,(iD x i).co,false,false,0,false⟩):=by unfold aH qJ;rw[aaG,<-hv]
 have HE:aH (sK x i d=iY {k with jb:=k.jb++ [qJ x i d]} 1 (qJ x i d)):=by unfold aH sK;rw[aaG,<-hv,j]
 have HX:aH (k.jb=x.jb/\k.lg=x.lg/\k.nw=x.nw):=by rw[j];exact⟨rfl,rfl,rfl⟩
 have H1:=aP h1;have u1:(w.setCell (qU,i) (.int .i64 (v+1))).cell? (qU,i)=some (.int .i64 (v+1)):=by
  obtain⟨q',u,r'⟩:=h1.1.num (n:=i) (by rw[j];simpa using l);rw[hU] at u;injection u with u;injection u with u;subst u;rw[r',j];simp[l]
 have f0:w.frozen? (qU,i)=false:=by
  obtain⟨ow,h2⟩:=h.o;have hr:gP eI 1 3 y.U y.cU x.nu (Fo w ow 6) w:=h2.get 5 (p:=PR eI 1 3 y.U y.cU x.nu) rfl;have ho:=hr.o;rw[hU] at ho;exact(cZ ho i (by have:=ho.cap;omega)).2
 have i0:(0:Int)<=i:=aQ;have i1:(i:Int)<(x.nu.length:Int):=aQ;have i2:(i:Int)<(x.ts.length:Int):=aQ;have H:=h1.1.c 0 (.slice y.T y.L.length y.cT) rfl;have I:=h1.1.c 11 (.int .i64 x.nw) (by rw[j];rfl);have s:=h1.1.c 13 (.slice y.U x.nu.length y.cU) (by rw[j];simp[fO]);obtain⟨qT',A',cA',z,s0,s1,s2,_⟩:=h1.1.task (n:=i) (by rw[j];exact hi);have hTk1:iD k i=iD x i:=by rw[j];rfl
 rw[hTk1] at s0 s1 s2;rw[E] at z H;injection z with z;injection z with z;subst z;rw[h.len] at H;rw[hU] at s;have HBN:aH (0<=v+1):=by unfold aH;omega
 have HLE:aH (∀W,bR F W g k y->W.cell? (g,15)=some (.slice y.J x.jb.length y.cJ)):=λW h=>h.c 15 _ (by rw[j];rfl)
 clear hv j h1 hU E h hI l hs t0 t1 t2 t3 t4 hTk hTk1;obtain⟨t,ht⟩:∃t:Tk,t=iD x i:=⟨_,rfl⟩
 rw[<-ht] at s0 s1 s2 b1 b2 HJ;have HTT:=aP ht;clear ht;go_enter func57,ntmps57
 go_upto_region 2 with(fail)
 generalize hwa:w.setCell (qU,i) (.int .i64 (v+1))=wa at *;have jA:w.heap.size=wa.heap.size:=by rw[<-hwa];simp[World.setCell]
 have C:=aX wa (aI #[t.co,t.pe,t.de] 122);have xb:=bF.fI wa 122 #[t.co,t.pe,t.de] (g:=w.heap.size) (by simp[jA]);have x0:=xb.cell 0 _ rfl;have x2:=xb.cell 2 _ rfl;have d11:=bG C I;have d13:=bG C s;have d1:=bG C u1;have H2:=bN (H1.o.1.below C) (H1.o.2.trans (H1.o.1.fl.below C));clear hwa jA xb C H1 H I s s0 s1 s2 u1 e0 e11 e13 u0 f0;generalize wa.alloc (aI #[t.co,t.pe,t.de] 122)=w2 at *;generalize w.heap.size=q6 at *;have K:=bD d13;have P:=bD d1;have M:=bD d11;have Q:=bD x0;have R:=bD x2;refine bO (bS _) (λ_=>bS) [7] (λ_ v w=>EO (jA d13) 209 #[aU,aU,aU,aU,aU,aU,aU,false,false,aU,false] v w) [25] [] 61 (bY _) (λ_ _ _ h hz=>bU h hz) (λ_ d hd _ v w w' _ h hz=>h.keep hz) aV aV bL ?_;repeat (first|(refine eA ?_)|(refine uG 7 [] bL bL bL bL (λγ w hC E=>?_) ?_;(simp only[cO];go_simp;exact p5 (aX w _) ⟨_,rfl,Below.size hC,bF.new w _ _⟩);(try refine dE ?_)))
 refine dC ?_;intro γ w_ hb_ E;clear K P M Q R;simp only[cO,Act.put,Zx,aaE,aaD];refine dP ?_;obtain⟨g7,e_,hm_,hk_⟩:=E 7 aT;simp only[e_];clear E e_;refine iP hm_ hb_ hk_ rfl 209 _ _ rfl #[i, .int .i64 (v+1),x.nw, .int .i64 (x.nw+t.de),aU,d,t.co,false,false,aU,false] rfl rfl rfl aV aV ?_;clear hm_ hb_ hk_;intro w5 hb5 a;refine cI ?_;simp only[Act.put];have hbx:bR (Fb F g7) w5 g k y:=H2.o.1.boxed hb5 a.1 a.2.lt;have H5:=bN hbx (H2.o.2.trans (H2.o.1.fl.below hb5));have e15:=HLE.o w5 hbx.less;have hB:=aP a.2;obtain⟨f,hjn⟩:∃f:Jb,f=qJ x i d:=⟨_,rfl⟩
 rw[<-hjn] at HE;have D:vV w5 g7 0 f:=by
  rw[hjn,HJ.o];exact⟨a.2.cell 0 _ rfl,a.2.cell 1 _ rfl,a.2.cell 2 _ rfl,a.2.cell 3 _ rfl,a.2.cell 4 _ rfl,a.2.cell 5 _ rfl,a.2.cell 6 _ rfl,a.2.cell 7 _ rfl,a.2.cell 8 _ rfl,a.2.cell 9 _ rfl,a.2.cell 10 _ rfl⟩
 have j0:w5.cell? (g7,0)=some (.int .i64 f.tk):=D.c0;have j1:w5.cell? (g7,1)=some (.int .i64 f.nu):=D.c1;have j2:w5.cell? (g7,2)=some (.int .i64 f.ca):=D.c2;have j3:w5.cell? (g7,3)=some (.int .i64 f.de):=D.c3;have j4:w5.cell? (g7,4)=some (.int .i64 f.ra):=D.c4;have j5:w5.cell? (g7,5)=some (.int .i64 f.dm):=D.c5;have j6:w5.cell? (g7,6)=some (.int .i64 f.lf):=D.c6;have j7:w5.cell? (g7,7)=some (.bool f.bg):=D.c7;have j8:w5.cell? (g7,8)=some (.bool f.bh):=D.c8;have j9:w5.cell? (g7,9)=some (.int .i64 f.rs):=D.c9;have j10:w5.cell? (g7,10)=some (.bool f.lt):=D.wV;have HY:aH (∀(W:aA) t,Sl jV 11 (W.alloc (.cells #[f.tk,f.nu,f.ca,f.de,f.ra,f.dm,f.lf,f.bg,f.bh,f.rs,f.lt] t)) (some ⟨W.heap.size,0,none⟩) [f]):=λW t=>Sl.new kJ W f _ rfl t
 have HJC:=aP D;obtain⟨S,hnj⟩:∃S,S=x.jb.length:=⟨_,rfl⟩
 rw[<-hnj] at e15 hjl;have HNJ:aH (k.jb.length=S):=by unfold aH;rw[HX.o.1,hnj]
 clear hbx a hb5 H2 d11 d13 d1 x0 x2 HLE D hjn hnj hB HJ;go_upto_region 3 with(fail)
 have N:=bD e15;have V:=bD j0;have X:=bD j1;have Y:=bD j2;have Z:=bD j3;have a1:=bD j4;have a6:=bD j5;have a7:=bD j6;have a8:=bD j7;have aa:=bD j8;have ab:=bD j9;have O:=bD j10;refine bO (bS _) (λ_=>bS) [55] (λ_ v w=>LQ jV 11 f v w) [7,10] [[7,6,5]] 61 (bY _) (λ_ _ _ h hz=>bU h hz) (λ_ d hd _ v w w' _ h hz=>h.keep hz) aV aV bL ?_;repeat (first|(refine eA ?_)|(refine uG 55 [] bL bL bL bL (λγ w hC E=>?_) ?_;(simp only[cO];go_simp;exact p5 (aX w _) ⟨_,rfl,HY.o w _⟩);(try refine dE ?_)))
 refine dC ?_;intro γ w8 ad E;clear N V X Y Z a1 a6 a7 a8 aa ab O;simp only[cO,Act.put,Zx,aaE,aaD];refine dP ?_;obtain⟨G,hv,hsl⟩:=E 55 aT;rw[hv];have h8:=H5.o.1.below ad;have HO:∃own:bI jV 11 w8 0 209 y.J y.cJ k.jb,True:=by
  obtain⟨ow,h1⟩:=h8.o;exact⟨(h1.get 7 (p:=PR jV 11 209 y.J y.cJ k.jb) rfl).o,trivial⟩
 have hO:=HO.1;have hK8:=aP (H5.o.2.trans (H5.o.1.fl.below ad).unbox);have HJ8:=aP (HJC.o.keep ad);have H8:=aP h8;clear hv E HY e15 h8 ad HO j0 j1 j2 j3 j4 j5 j6 j7 j8 j9 j10 H5 HJC;refine bP w8 rfl (.tmp 53) (.tmp 55) rfl Xe kJ (base:=0) (xs:=k.jb) hO (n:=S) HNJ.o rfl (m:=1) rfl (ys:= [f]) rfl hsl dI aQ (aaH _) _ rfl (S+1) rfl ?_;intro A6 c6 w6 own6 hg6 at6;have hb6:bF w6 g 193 (fO k y):=by
  obtain⟨ow,h1⟩:=H8.o.o;have hr:gP jV 11 209 y.J y.cJ k.jb (Fo w8 ow 8) w8:=h1.get 7 (p:=PR jV 11 209 y.J y.cJ k.jb) rfl;have hB:oF g 193 (fO k y) (Fo w8 ow 1) w8:=h1.get 0 (p:=PB g 193 (fO k y)) rfl;refine hB.b.grown hg6 (λe=>?_);have h2:ow g=1:=aaW λhc=>hB.nf ⟨hB.b.lt,hc⟩
  exact hr.nf g e.symm ⟨hB.b.lt,aQ⟩
 refine dS w6 rfl 191 _ _ rfl g 15 (.slice A6 (S+1) c6) rfl rfl aV rfl (hb6.one (by simp[fO])) ?_;refine cI ?_;refine dE ?_;have h7:=H8.o.EL HNJ.o.symm own6 hg6 at6;have H7:=bN h7.1 h7.2;have hj0:(w6.setCell (g,15) (.slice A6 (S+1) c6)).cell? (g7,0)=some (.int .i64 f.tk):=h7.2.cell HJ8.o.c0 (.inr rfl);have hj1:(w6.setCell (g,15) (.slice A6 (S+1) c6)).cell? (g7,0+1)=some (.int .i64 f.nu):=h7.2.cell HJ8.o.c1 (.inr rfl);have HC:=aP (wN h7.1 1 hj0 hj1 (by show k.lg.length<=_;rw[HX.o.2.1];exact HLG.o));have HKK:=aP (hK8.o.trans h7.2.unbox);generalize w6.setCell (g,15) (.slice A6 (S+1) c6)=w7 at *;clear h7 own6 hg6 at6 hb6 hO hsl H8 hK8 hj0 hj1 HJ8;go_wp2_with fail
 refine aR HC ?_;rintro e w9 ⟨rfl,⟨A9,c9,h9⟩,k9⟩;have H9:=bN h9.less (HKK.o.trans k9.unbox);clear h9 k9 HC HKK H7;go_wp2_with fail
 go_end0
 rw[HE.o];exact⟨rfl,⟨_,_,_,_,H9.o.1⟩,H9.o.2⟩
end
section
def Wz(F:Nat->Prop)(g:Nat)(x:Lb)(v:aC)(w:aA)(e:Ending)(w':aA):Prop:=e= .returned v/\(∃y,bR F w' g x y)/\Kp F w w'
theorem kT.shaped{k:Nat}(h:kT x k){s:jJ}(hs:mC s (k+1)):kT (dT x i s) (k+1):=
 (dZ.CJ (dZ.mono h (λ_=>Zw _) (λ_=>Zw _) (abP _) (Zw _) (Zw _)) i hs).mono (λj=>by split <;> omega) (λ_=>abP _) (Zw _) aQ aQ
section
variable{F:Nat->Prop}{w w':aA}{g:Nat}{x:Lb}{y:La}{i:Nat}
theorem bR.Qz(h:bR F w g x y)(hq:y.V=some ⟨q,0,none⟩)(hi:i<x.wt.length):w.frozen? (q,i)=false:=by
 obtain⟨a,b⟩:=h.o;have c:gP eI 1 3 y.V y.cV x.wt (Fo w a 7) w:=b.get 6 (p:=PR eI 1 3 y.V y.cV x.wt) rfl;have ho:=c.o;rw[hq] at ho;exact(cZ ho i (by have:=ho.cap;omega)).2
end
theorem Lj(h:bR F w g x y){k:Nat}(a:kT x k)(task d:Int)(hc:task<0\/(x.ts.length:Int)<=task\/d<1\/1048576<d):
 aG prog 27 #[.pointer g,task,d] w λe w'=>e= .returned (.int .i64 1)/\w=w':=by
 have b:=h.c 0 (.slice y.T y.L.length y.cT) rfl;rw[h.len] at b;clear h a;by_cases f:task<0
 .clear hc;go_enter func27,ntmps27
  go_wp2_with fail
  go_ret
  exact⟨rfl,rfl⟩
 .by_cases a2:(x.ts.length:Int)<=task
  .clear hc;go_enter func27,ntmps27
   go_wp2_with fail
   go_ret
   exact⟨rfl,rfl⟩
  .by_cases a3:d<1
   .clear hc;go_enter func27,ntmps27
    go_wp2_with fail
    go_ret
    exact⟨rfl,rfl⟩
   .have a4:1048576<d:=aQ;clear hc;go_enter func27,ntmps27
    go_wp2_with fail
    go_ret
    exact⟨rfl,rfl⟩
theorem QN(h:bR F w g x y){k:Nat}(u:kT x k)(hk:k<=2900)(task d:Int):
 aG prog 27 #[.pointer g,task,d] w (Wz F g (jD x task d).2 (.int .i64 (jD x task d).1) w):=by
 by_cases hc:task<0\/(x.ts.length:Int)<=task\/d<1\/1048576<d
 .have m:jD x task d=(1,x):=by unfold jD;rw[Zz hc]
  rw[m];exact(Lj h u task d hc).mono λe w' ⟨h1,h2⟩=>by subst h2;exact⟨h1,⟨y,h⟩,Kp.refl _ _⟩
 .obtain⟨i,rfl⟩:=aaB (show 0<=task by omega);have hi:i<x.ts.length:=aQ;have hd:=h.below (Below.refl w w).drew;obtain⟨E,a,G,p0,H,hlen,eQ⟩:=hd.V3 u.ls hi;obtain⟨_,_,v⟩:=dZ.qQ u hi;have D:=YQ (jR x i) x.nw a k _ H v aQ;have U:=u.shaped (i:=i) (QP (now:=x.nw) v);obtain⟨s,c,e,X⟩:∃s c e,FB x i=(s,c,e):=⟨_,_,_,rfl⟩
  have I:qE (jR x i) x.nw=(s,c,e):=X;rw[I] at D U;have m:aH (jD x i d=if e≠0 then(e,dT x i s) else if c then(0,sK (dT x i s) i d) else(0,{dT x i s with wt:=x.wt.set i d})):=by
   unfold aH jD;rw[aaA hc,X];rfl
  have HT:=aP eQ;have J:=aP D;have Y:=aP U;have e0:=h.c 0 (.slice y.T y.L.length y.cT) rfl;have K:=h.c 11 (.int .i64 x.nw) rfl;have A:=h.c 12 (.slice y.S y.a.length y.cS) rfl;have Z:w.cell? (E,i)=some (.pointer a):=p0;rw[h.len] at e0;rw[G,hlen] at A;have i0:(0:Int)<=i:=aQ;have i1:(i:Int)<(x.ts.length:Int):=aQ;have d0:1<=d:=aQ;have d1:d<=1048576:=aQ;have M:aH (∀b,bR F b g (dT x i s) y->b.cell? (g,12)=some (.slice E x.ts.length y.cS)/\b.cell? (g,11)=some (.int .i64 x.nw)/\b.cell? (E,i)=some (.pointer a)):=by
   intro b l;obtain⟨ow,t⟩:=l.o;have a1:gP xN 1 194 y.S y.cS y.a (Fo b ow 4) b:=t.get 3 (p:=PR xN 1 194 y.S y.cS y.a) rfl;have N:=a1.o;rw[G] at N;have z12:=l.c 12 (.slice y.S y.a.length y.cS) rfl;rw[G,hlen] at z12;obtain⟨a6,h6⟩:=h.o;have a7:gP xN 1 194 y.S y.cS y.a (Fo w a6 4) w:=h6.get 3 (p:=PR xN 1 194 y.S y.cS y.a) rfl;have O:=a7.o;rw[G] at O;have P:i<y.a.length:=aQ;have v1:=bM EG O P (j:=0) rfl;have v3:=bM EG N P (j:=0) rfl;rw[acD,aaU] at v1 v3;rw[Z] at v1;rw[<-v1] at v3;exact⟨z12,l.c 11 (.int .i64 x.nw) rfl,v3⟩
  have R:aH (∀b,bR F b g (dT x i s) y->∃q,y.V=some ⟨q,0,none⟩/\b.cell? (g,14)=some (.slice (some ⟨q,0,none⟩) x.ts.length y.cV)/\(b.cell? ⟨q,i,none⟩).isSome=true/\b.frozen? ⟨q,i,none⟩=false/\i<x.wt.length):=by
   intro b l;have hw:i<x.wt.length:=by have:=u.lw;omega
   obtain⟨q,hq,r⟩:=l.wait (n:=i) (x:=dT x i s) hw;have B:=l.c 14 (.slice y.V x.wt.length y.cV) rfl;rw[hq,u.lw] at B;exact⟨q,hq,B,by rw[r];rfl,l.Qz hq hw,hw⟩
  clear eQ D U X I p0 G H v hd h u hc hlen;go_enter func27,ntmps27
  go_upto_region 5 with(fail)
  go_region_held3 (λW=>W.cell? (g,12)=some (.slice E x.ts.length y.cS)/\W.cell? (g,11)=some (.int .i64 x.nw)/\W.cell? (E,i)=some (.pointer a)) (first|exact⟨A,K,Z⟩|exact⟨‹_›,‹_›,‹_›⟩) ((go_at_call 56;(refine aR J ?_);rintro z b ⟨rfl,l,k3⟩;(have t3:=HT.o _ _ l k3);(have H3:=bN t3.1 t3.2);(obtain⟨y1,y2,y3⟩:=M.o _ t3.1);clear l k3 t3))
  clear J HT M e0 K A Z y1 y2 y3;have C:aH (bR F b g (dT x i s) y/\Kp F w b):=⟨H3.o.1,(Kp.refl F w).drew.trans H3.o.2⟩
  clear H3;by_cases he:e=0
  .subst he;cases c
   .have f:aH (jD x i d=(0,{dT x i s with wt:=x.wt.set i d})):=by rw[m.o];rfl
    obtain⟨q,hq,B,r1,r2,hw⟩:=R.o _ C.o.1;have t:=C.o.1.Nb hq (i:=i) hw d;have Q:=bN t.1 (C.o.2.trans t.2);obtain⟨v0,r1⟩:=ad3.1 r1;clear t R m hq hw;go_wp2_with fail
    go_ret
    rw[f.o];exact⟨rfl,⟨_,Q.o.1⟩,Q.o.2⟩
   .have f:aH (jD x i d=(0,sK (dT x i s) i d)):=by rw[m.o];rfl
    have D:=aP (JT C.o.1 Y.o.RD aQ aQ (i:=i) (by show i<x.ts.length;omega) d);clear R m;go_wp2_with fail
    refine aR D ?_;rintro z w5 ⟨rfl,⟨_,_,_,_,t⟩,k5⟩;have Q:=bN t (C.o.2.trans k5);clear t k5 D;go_wp2_with fail
    go_ret
    rw[f.o];exact⟨rfl,⟨_,Q.o.1⟩,Q.o.2⟩
  .have f:aH (jD x i d=(e,dT x i s)):=by rw[m.o,Zz he];rfl
   clear R m;go_wp2_with fail
   go_ret
   rw[f.o];exact⟨rfl,⟨_,C.o.1⟩,C.o.2⟩
end
section
theorem Oi:(prog.info? 209).map (λi=>(i.zero,i.size,i.bytes))=some (some (.agg #[aU,aU,aU,aU,aU,aU,aU,false,false,aU,false]),11,80):=aV
namespace Vq
theorem kX:∀w,(zeroValue 209).run prog w= .ok (.agg #[aU,aU,aU,aU,aU,aU,aU,false,false,aU,false]) w:=λw=>by kernel_rfl
variable{A:Option Addr}
theorem fH{c:Nat}(h:n=m):Ending.returned (.slice A n c)= .returned (.slice A m c):=by rw[h]
theorem lX(g c i k base:Nat)(L:List Jb)(w:aA)(own:bI jV 11 w base 209 g c L)(s:L.length=i+1+k)(hl:L.length<=4000000):
 aG prog 128 #[.slice g L.length c,i, .int .i64 ((i:Int)+1)] w λe w'=>e= .returned (.slice g (L.eraseIdx i).length c)/\bI jV 11 w' base 209 g c (L.eraseIdx i)/\w.grownBy w' (some g):=by
 obtain⟨i0,n,K,p,M⟩:=info_parts Oi;have v:(L.eraseIdx i).length=i+k:=by rw[ab2,Zz aQ];omega
 obtain⟨_,_,_,z,A,_,_⟩:=eV own;simp only[maxLen] at A;obtain⟨news,b⟩:∃news,news=(L.drop (i+1)).flatMap jV:=⟨_,rfl⟩
 have s1:aH (news.length=k *11):=by unfold aH;rw[b,eZ kJ.len,acM];omega
 have s2:aH (∀u∈news,u.oneCell'=true):=λu hu=>qX kJ _ u (by rw[<-b];exact hu)
 have H:aH (∀t,t<news.length->(w.drew.cell? ⟨g,0+i *11+t,none⟩).isSome=true/\w.drew.frozen? ⟨g,0+i *11+t,none⟩=false):=λt I=>by
  rw[s1.o] at I;exact cZ own _ aQ
 have N:aH (∀t u,news[t]?=some u->w.drew.cell? ((⟨g,(i+1) *11,none⟩:Addr).add t)=some u):=λt u hu=>by
  have I:t<k *11:=by rw[<-s1.o];exact(aaN.1 hu).1
  have hF:=oE kJ.len L (i+1);rw[b,hF,abY] at hu;rw[Addr.add_lit];obtain⟨cur,_,O,_,_,_,P⟩:=eV own;show w.cell? _=_;rw[cell_of_row w g _ cur _ (0,0) O,<-hu,<-P,aa7,Zz aQ,aaX]
 obtain⟨m,h⟩:∃m,m=w.drew.setCells g (0+i *11) news:=⟨_,rfl⟩
 have J:=aP h;have B:=tG (w:=w.drew) kJ.len own.drew i k s [.int .i64 0, .int .i64 0, .int .i64 0, .int .i64 0, .int .i64 0, .int .i64 0, .int .i64 0, .bool false, .bool false, .int .i64 0, .bool false] rfl;rw[<-b,show i *11=0+i *11 by omega,<-h] at B;have a:=aP B;have d:∀j,j<c *11->(m.cell? ⟨g,j,none⟩).isSome=true/\m.frozen? ⟨g,j,none⟩=false:=λj C=>by
  rw[h];have:=cZ own j C;exact⟨Go.World.isSome_setCells g _ _ _ _ this.1,by rw[World.frozen?_setCells];exact this.2⟩
 have l:∀ty r D,r=1->(Builtin.clear_ #[191] ty #[.slice (some ⟨g,(i+k) *11,none⟩) r D]).run prog m= .ok (.tuple #[]) (m.setCells g ((i+k) *11) [.int .i64 0, .int .i64 0, .int .i64 0, .int .i64 0, .int .i64 0, .int .i64 0, .int .i64 0, .bool false, .bool false, .int .i64 0, .bool false]):=λty r D E=>
  lE m _ 209 ty _ underlying191 kX [.int .i64 0, .int .i64 0, .int .i64 0, .int .i64 0, .int .i64 0, .int .i64 0, .int .i64 0, .bool false, .bool false, .int .i64 0, .bool false] aV cC g ((i+k) *11) r D E (λj C=>d _ (by simp at C;omega))
 clear h B d b;rw[s];rw[s] at z;have Q:i<=c:=aQ;have R:i+1<=c:=aQ;have S:(0:Int)<=i+1:=aQ;have T:(i:Int)+1<=(i:Int)+1+(k:Int):=aQ;by_cases hce:c=i+1
 .obtain rfl:k=0:=aQ;obtain rfl:news= []:=aa5 (by rw[s1.o]);have G:aH (∀t u,([]:List aC)[t]?=some u->w.drew.cell? ((⟨g,0,none⟩:Addr).add t)=some u):=λt u hu=>by simp at hu
  subst hce;have f:=λty=>l ty (i+1 - i) (i+1 - i) aQ
  simp only[aaU] at f v⊢;have U:(i:Int)<=(i:Int)+1:=aQ;have V:i+1 - i=1:=aQ;rw[V] at f;clear l;go_enter func128,ntmps128
  go_wp2_with fail
  go_region_law (refine step_append_room rfl (.tmp 22) (.tmp 25) 191 rfl 209 i0 11 underlying191 n p g 0 i (i+1) (by simp[Act.eval,Act.put]) ⟨g,0,none⟩ 0 0 [] (by simp[Act.eval,Act.put]) s1.o G.o s2.o aQ H.o ?_;rw[<-J.o])
  go_wp2
  go_ret
  exact⟨fH aQ,a.o.1,⟨a.o.2.os,a.o.2.tape,a.o.2.output,a.o.2.size,a.o.2.block⟩⟩
 .have f:=λty=>l ty (i+1+k - (i+k)) (c - (i+k)) aQ
  clear l;go_enter func128,ntmps128
  go_wp2_with fail
  go_region_law (refine step_append_room rfl (.tmp 22) (.tmp 25) 191 rfl 209 i0 11 underlying191 n p g 0 i c (by simp[Act.eval,Act.put]) ⟨g,(i+1) *11,none⟩ k (c - (i+1)) news (by simp[Act.eval,Act.put]) s1.o N.o s2.o aQ H.o ?_;rw[<-J.o])
  go_wp2
  go_ret
  exact⟨fH aQ,a.o.1,⟨a.o.2.os,a.o.2.tape,a.o.2.output,a.o.2.size,a.o.2.block⟩⟩
end Vq
theorem TJ(hi:i<x.jb.length)(j:Jb):dK (cH x i j) i=j:=by simp[dK,cH,hi]
theorem VC(hi:i<x.jb.length):cH x i (dK x i)=x:=by
 have:x.jb.set i (dK x i)=x.jb:=by
  unfold dK;rw[aaI,Zv hi];simp
 unfold cH;rw[this]
section
variable{F:Nat->Prop}{w w':aA}{g:Nat}{x:Lb}{y:La}{i q:Nat}
theorem bR.uS{j:Jb}(h:bR F w g (cH x i j) y)(hq:y.J=some ⟨q,0,none⟩)(hi:i<x.jb.length){f:Nat}(hf:f<11)(a:Jb)(v:aC)(b:jV a=(jV j).set f v):bR F (w.setCell (q,i *11+f) v) g (cH x i a) y/\Kp F w (w.setCell (q,i *11+f) v):=by
 have h1:=h.EF hq (i:=i) (by simpa[cH] using hi) hf a v (by rw[TJ hi];exact b);rw[show cH (cH x i j) i a=cH x i a by simp[cH]] at h1;exact h1
theorem bR.wH(h:bR F w g x y)(hq:y.J=some ⟨q,0,none⟩)(hi:i<x.jb.length){f:Nat}(hf:f<11):w.frozen? (q,i *11+f)=false:=by
 obtain⟨a,b⟩:=h.o;have c:gP jV 11 209 y.J y.cJ x.jb (Fo w a 8) w:=b.get 7 (p:=PR jV 11 209 y.J y.cJ x.jb) rfl;have ho:=c.o;rw[hq] at ho;exact(cZ ho _ (by have:=ho.cap;omega)).2
theorem bR.pY{j:Jb}(h:bR F w g (cH x i j) y)(hq:y.J=some ⟨q,0,none⟩)(hi:i<x.jb.length):vV w q (i *11) j:=by
 obtain⟨c,a,b⟩:=h.lI (n:=i) (by simpa[cH] using hi);rw[hq] at a;injection a with a;injection a with a;subst a;rw[TJ hi] at b;exact b
end
theorem X6(h:bR F w g x y)(kd:Int)(hi:i<x.jb.length)(L:x.jb.length<=1000000)(hl:x.lg.length<=3000000000):
 aG prog 91 #[.pointer g,kd,i] w (λe w'=>e= .returned (.tuple #[])/\(∃K,bR F w' g (xH x kd i) K)/\Kp F w w'):=by
 obtain⟨q,hq,r⟩:=h.lI hi;have j:=h.c 15 (.slice y.J x.jb.length y.cJ) rfl;rw[hq] at j;have D:=aP (wN h kd r.c0 r.c1 hl);have i0:(0:Int)<=i:=aQ;have i1:(i:Int)<(x.jb.length:Int):=aQ;have HQ:=aP hq;clear h r hq;go_enter func91,ntmps91
 go_wp2_with fail
 refine aR D ?_;rintro e f ⟨rfl,⟨A,c,n⟩,k2⟩;have d15:=n.c 15 (.slice y.J x.jb.length y.cJ) rfl;rw[HQ.o] at d15;obtain⟨s,h1⟩:=n.o;have t:gP jV 11 209 y.J y.cJ x.jb (Fo f s 8) f:=h1.get 7 (p:=PR jV 11 209 y.J y.cJ x.jb) rfl;have k:oF g 193 (fO (iY x kd (dK x i)) {y with G:=A,cG:=c}) (Fo f s 1) f:=h1.get 0 (p:=PB g 193 (fO (iY x kd (dK x i)) {y with G:=A,cG:=c})) rfl;have ho:=t.o;rw[HQ.o] at ho;have HD:=aP (Vq.lX q y.cJ i (x.jb.length - i - 1) 0 x.jb f ho aQ aQ);have l:g≠q:=λe=>by
  have M:s g=1:=aaW λhc=>k.nf ⟨k.b.lt,hc⟩
  have:=t.nf q (by rw[HQ.o];rfl);rw[<-e] at this;exact this ⟨k.b.lt,aQ⟩
 have E:=aP k.b;have u:=bN n k2;have v:aH (g≠q):=l;clear n k2 D ho t k h1 l j;go_wp2_with fail
 refine aR HD ?_;rintro e H ⟨rfl,yD,g3⟩;have d:=E.o.grown g3 (λe=>v.o (by injection e));have a:bI jV 11 H 0 209 y.J y.cJ (x.jb.eraseIdx i):=by rw[HQ.o];exact yD
 have m:f.grownBy H (aY y.J):=by rw[HQ.o];exact g3
 have z:=u.o.1.left (i:=i) hi a m rfl;have B:=bN z.1 (u.o.2.trans z.2);have f15:=d.frozen 15;have I:=d.cell 15 (.slice y.J x.jb.length y.cJ) rfl;rw[HQ.o] at B;have C:aH (xH x kd i={iY x kd (dK x i) with jb:=(iY x kd (dK x i)).jb.eraseIdx i}):=rfl;clear z yD g3 a m HD E u d d15;go_wp2_with fail
 go_end0
 rw[C.o];exact⟨rfl,⟨_,B.o.1⟩,B.o.2⟩
end
variable{K:Nat}
section
def Xf(F:Nat->Prop)(g:Nat)(x:Lb)(w:aA)(e:Ending)(w':aA):Prop:=e= .returned (.tuple #[])/\(∃y',bR F w' g x y')/\Kp F w w'
theorem Nu{nw:Int}{j:Jb}(h:zK n K nw j):0<=(gN j).lf/\(gN j).lf<=1048576:=by
 have b:=h.lf;have a:=h.bh;unfold gN;simp only;cases hb:j.bh
 .have:=a hb;simp;omega
 .simp;omega
def JA(j:Jb):Jb:={j with bh:=true,rs:=j.rs+1}
def D1(x:Lb)(j:Jb)(p:Int):Jb:={j with ca:=p,de:=p+(iD x j.tk).de,lf:=(iD x j.tk).co,rs:=j.rs+1,bg:=false,lt:=false}
def Pk(x:Lb)(i:Nat)(j:Jb):Lb:=
 let y:=cH x i j
 if j.ra=j.dm then xH y 2 i else if 0<j.lf then y else if(iD x j.tk).po=0 then xH y 3 i else if(iD x j.tk).po=1 then(if j.bh then y else iY (cH y i (JA j)) 4 (JA j)) else
 iY (cH (dT y j.tk (jT (jR x j.tk) x.nw).1) i (D1 x j (jT (jR x j.tk) x.nw).2)) 5 (D1 x j (jT (jR x j.tk) x.nw).2)
theorem bR.YD(h:bR F w g x y)(hq:y.J=some ⟨q,0,none⟩)(hi:i<x.jb.length){f:Nat}(hf:f<11):w.there q (i *11+f) 1:=λj d=>by
 obtain rfl:j=0:=aQ;obtain⟨a,b⟩:=h.o;have c:gP jV 11 209 y.J y.cJ x.jb (Fo w a 8) w:=b.get 7 (p:=PR jV 11 209 y.J y.cJ x.jb) rfl;have ho:=c.o;rw[hq] at ho;exact cZ ho _ (by have:=ho.cap;omega)
theorem Hz(h:bR F w g x y){k:Nat}(hI:kT x k)(hk:k<=2900)(hi:i<x.jb.length):
 aG prog 59 #[.pointer g,i] w (Xf F g (qG x i) w):=by
 obtain⟨q,hq,jc⟩:=h.lI hi;have HQ:=aP hq;have hJ:=(dZ.lI hI hi).2;obtain⟨j,hj⟩:∃j,j=dK x i:=⟨_,rfl⟩
 rw[<-hj] at jc hJ;have h0:bR F w g (cH x i j) y:=by rw[hj,VC hi];exact h
 obtain⟨t,htk⟩:=aaB hJ.tk.1;have z:t<x.ts.length:=by have:=hJ.tk.2;omega
 have HR:aH (qG x i=Pk x i (gN j)):=by
  unfold aH qG Pk;rw[hj];rfl
 have e15:=h.c 15 (.slice y.J x.jb.length y.cJ) rfl;rw[hq] at e15;have i0:(0:Int)<=i:=aQ;have i1:(i:Int)<(x.jb.length:Int):=aQ;have f7:=h.wH hq hi (f:=7) aQ;have f4:=h.wH hq hi (f:=4) aQ;have c7:=jc.c7;have c4:=jc.c4;have b0:=hJ.ra.1;have b1:=hJ.ra.2;have b2:=hI.nw.2;obtain⟨n1,u⟩:=h0.uS hq hi (f:=7) aQ {j with bg:=true} (.bool true) rfl;obtain⟨n3,n4⟩:=n1.uS hq hi (f:=4) aQ {j with bg:=true,ra:=j.ra+1} (.int .i64 (j.ra+1)) rfl;have HN:=bN n3 (u.trans n4);have HJ:=aP hJ;have O:=aP hI;have HT:aH ((j.tk=(t:Int))/\t<x.ts.length):=⟨htk,z⟩
 clear n1 u n3 n4 h0 h hI hJ jc hj htk hq;go_enter func59,ntmps59
 go_upto_region 3 with(fail)
 generalize ((w.setCell (q,i *11+7) (.bool true)).setCell (q,i *11+4) (.int .i64 (j.ra+1)))=w3 at *;obtain⟨hn1,hn2⟩:=HN.o;have a:=hn1.pY HQ.o hi;have a8:=a.c8;have a6:=a.c6;have f6:=hn1.wH HQ.o (by simpa[cH] using hi) (f:=6) aQ;have HL0:aH (-1048576<=j.lf/\j.lf<=1048576):=⟨by have:=HJ.o.lf;omega,by have:=HJ.o.lf;omega⟩
 have l0:=HL0.o.1;have l1:=HL0.o.2;clear hn1 hn2 a f7 f4 c7 c4 e15 b0 b1 b2 HL0;go_upto_if 30 with(fail)
 go_cut [] (λwx=>bR F wx g (cH x i (gN j)) y/\Kp F w wx)
 case first=>
  have HX:=aP (HN.o.1.uS HQ.o hi (f:=6) aQ {j with bg:=true,ra:=j.ra+1,lf:=j.lf - 1} (.int .i64 (j.lf - 1)) rfl);cases hb:j.bh
  .have HB:aH (gN j={j with bg:=true,ra:=j.ra+1,lf:=j.lf - 1}):=by unfold aH gN;rw[hb];rfl
   rw[hb] at a8;go_wp2_with fail
   go_meet
   rw[HB.o];exact⟨HX.o.1,HN.o.2.trans HX.o.2⟩
  .have HB:aH (gN j={j with bg:=true,ra:=j.ra+1}):=by unfold aH gN;rw[hb];rfl
   rw[hb] at a8;go_wp2_with fail
   go_meet
   rw[HB.o];exact HN.o
 case rest=>
 obtain⟨h5,k5⟩:=hcut;have B:aH ((gN j).tk=(t:Int)/\t<x.ts.length):=HT.o;have HJ5:aH ((-1<=(gN j).rs/\(gN j).rs<=3000)/\(gN j).lf<=1048576):=⟨⟨by have:=HJ.o.rs;show -1<=j.rs;omega,by have:=HJ.o.rs;show j.rs<=3000;omega⟩,by have:=(Nu HJ.o).2;omega⟩
 clear HN a8 a6 f6 l0 l1 HJ HT;generalize gN j=r at *;have ha:=h5.pY HQ.o hi;have a4:=ha.c4;have a5:=ha.c5;have a6:=ha.c6;have a0:=ha.c0;have D:=bN h5 k5;have Zs:=aP ha;clear h5 k5 ha;have HG:=aP (λW (hW:bR F W g (cH x i r) y) (kd:Int)=>X6 hW kd (i:=i) (by simpa[cH] using hi) (by have:=O.o.jl;simp[cH];omega) (by have:=O.o.lg;simp[cH];omega));have HIw:=O.o.RD;obtain⟨qT,A,cA,hT,t0,t1,t2,t3,t4,_⟩:=D.o.1.task (n:=t) (by simpa[cH] using z);have P:=D.o.1.c 0 (.slice y.T y.L.length y.cT) rfl;rw[hT,show y.L.length=x.ts.length from D.o.1.len] at P;rw[B.o.1] at a0;have HTQ:=aP hT;clear hT t0 t1 t2 t3;have s0:(0:Int)<=t:=aQ;have s1:(t:Int)<(x.ts.length:Int):=aQ;obtain⟨tt,htt⟩:∃tt,tt=iD x t:=⟨_,rfl⟩
 have HTT:aH (tt=iD x r.tk):=by rw[B.o.1];exact htt
 rw[show iD (cH x i r) t=tt from htt.symm] at t4;have HP:aH (Z0 tt):=by rw[htt];exact(dZ.task O.o z).2
 have hP1:=HP.o.po;have b:aH (qG x i=(let y:=cH x i r;if r.ra=r.dm then xH y 2 i else if 0<r.lf then y else if tt.po=0 then xH y 3 i else if tt.po=1 then(if r.bh then y else iY (cH y i (JA r)) 4 (JA r)) else iY (cH (dT y r.tk (jT (jR x r.tk) x.nw).1) i (D1 x r (jT (jR x r.tk) x.nw).2)) 5 (D1 x r (jT (jR x r.tk) x.nw).2))):=by
  rw[HR.o,HTT.o];rfl
 clear htt HR;by_cases e1:r.ra=r.dm
 .have e1b:(r.ra==r.dm)=true:=by simpa using e1
  have Q:aH (qG x i=xH (cH x i r) 2 i):=b.o.trans (by simp only[Zz e1]);clear e1 b P t4 a6;go_upto_region 5 with(fail)
  go_quiet (fail)
  have h6:=D.o.1.below (eX wc nq);have H6:=aP (And.intro h6 (D.o.2.trans (D.o.1.fl.below (eX wc nq))));have R:=aP (HG.o _ h6 2);clear h6 D Zs a4 a5 a0;generalize wc.drewN nq=w6 at *;go_wp2_with fail
  refine aR R ?_;rintro e w7 ⟨rfl,⟨y7,h7⟩,k7⟩;have l:=bN h7 (H6.o.2.trans k7);clear h7 k7 R H6 HG;go_wp2_with fail
  refine bodyPost_ret (v:= .tuple #[]) (by simp[results,results59,go_sem]) rfl ?_;rw[Q.o];exact⟨rfl,⟨_,l.o.1⟩,l.o.2⟩
 .have e1b:(r.ra==r.dm)=false:=by simpa using e1
  by_cases e2:0<r.lf
  .have Q:aH (qG x i=cH x i r):=b.o.trans (by simp only[aaA e1,Zz e2]);clear e1 b P t4;go_upto_region 5 with(fail)
   go_quiet (fail)
   have h6:=D.o.1.below (eX wc nq);have H6:=aP (And.intro h6 (D.o.2.trans (D.o.1.fl.below (eX wc nq))));go_wp2_with fail
   refine bodyPost_ret (v:= .tuple #[]) (by simp[results,results59,go_sem]) rfl ?_;rw[Q.o];exact⟨rfl,⟨_,H6.o.1⟩,H6.o.2⟩
  .go_upto_region 5 with(fail)
   go_quiet (fail)
   have h6:=D.o.1.below (eX wc nq);have H6:=aP (And.intro h6 (D.o.2.trans (D.o.1.fl.below (eX wc nq))));have a6':(wc.drewN nq).cell? (q,i *11+6)=some (.int .i64 r.lf):=a6;have a0':(wc.drewN nq).cell? (q,i *11)=some (.int .i64 t):=a0;have t4':(wc.drewN nq).cell? (qT,t *5+4)=some (.int .i64 tt.po):=t4;have e0':(wc.drewN nq).cell? (g,0)=some (.slice qT x.ts.length y.cT):=P;clear h6 D Zs a4 a5 a0 a6 t4 P;generalize wc.drewN nq=w6 at *;go_upto_region 8 with(fail)
   go_quiet (fail)
   have h7:=H6.o.1.below (eX w6 nq);have l:=aP (And.intro h7 (H6.o.2.trans (H6.o.1.fl.below (eX w6 nq))));have E2:aH (¬0<r.lf):=e2;have E1:aH (¬r.ra=r.dm):=e1;clear h7 H6 a6' a0' t4' e0' e1 e1b e2;generalize w6.drewN nq=w7 at *;have U:aH (∀k,cH (cH x i r) i k=cH x i k):=λk=>by simp[cH]
   rcases(by omega:tt.po=0\/tt.po=1\/tt.po=2) with hp|hp|hp
   .have Q:aH (qG x i=xH (cH x i r) 3 i):=b.o.trans (by simp only[aaA E1.o,aaA E2.o,Zz hp]);have p0:(tt.po==0)=true:=by simp[hp]
    have R:=aP (HG.o _ l.o.1 3);clear b hp hP1 U;generalize tt.po=po at *;go_wp2_with fail
    refine aR R ?_;rintro e w8 ⟨rfl,⟨y8,h8⟩,k8⟩;have E:=bN h8 (l.o.2.trans k8);clear h8 k8 R l HG;go_wp2_with fail
    refine bodyPost_ret (v:= .tuple #[]) (by simp[results,results59,go_sem]) rfl ?_;rw[Q.o];exact⟨rfl,⟨_,E.o.1⟩,E.o.2⟩
   .have p0:(tt.po==0)=false:=by simp[hp]
    have p1:(tt.po==1)=true:=by simp[hp]
    have a8:=(l.o.1.pY HQ.o hi).c8;cases hb:r.bh
    .have Q:aH (qG x i=iY (cH x i (JA r)) 4 (JA r)):=b.o.trans (by simp only[aaA E1.o,aaA E2.o,hp,hb,U.o];simp);have a9:=(l.o.1.pY HQ.o hi).c9;have f8:=l.o.1.wH HQ.o (by simpa[cH] using hi) (f:=8) aQ;have f9:=l.o.1.wH HQ.o (by simpa[cH] using hi) (f:=9) aQ;obtain⟨n1,u⟩:=l.o.1.uS HQ.o hi (f:=8) aQ {r with bh:=true} (.bool true) rfl;obtain⟨n3,n4⟩:=n1.uS HQ.o hi (f:=9) aQ (JA r) (.int .i64 (r.rs+1)) rfl;have C:=n3.pY HQ.o hi;have R:=aP (wN n3 4 C.c0 C.c1 (by have:=O.o.lg;simp[cH];omega));have HK:=aP (l.o.2.trans (u.trans n4));have r0:=HJ5.o.1.1;have r1:=HJ5.o.1.2;rw[hb] at a8;clear b hp hP1 U n1 u n3 n4 C hb l;generalize tt.po=po at *;go_wp2_with fail
     refine aR R ?_;rintro e w8 ⟨rfl,⟨A8,c8,h8⟩,k8⟩;have E:=bN h8 (HK.o.trans k8);clear h8 k8 R HG HK;go_wp2_with fail
     refine bodyPost_ret (v:= .tuple #[]) (by simp[results,results59,go_sem]) rfl ?_;rw[Q.o];exact⟨rfl,⟨_,E.o.1⟩,E.o.2⟩
    .have Q:aH (qG x i=cH x i r):=b.o.trans (by simp only[aaA E1.o,aaA E2.o,hp,hb];simp);rw[hb] at a8;clear b hp hP1 U hb;generalize tt.po=po at *;go_wp2_with fail
     refine bodyPost_ret (v:= .tuple #[]) (by simp[results,results59,go_sem]) rfl ?_;rw[Q.o];exact⟨rfl,⟨_,l.o.1⟩,l.o.2⟩
   .have p0:(tt.po==0)=false:=by simp[hp]
    have p1:(tt.po==1)=false:=by simp[hp]
    have pe2:(tt.po==2)=true:=by simp[hp]
    have HX:∃s' p2,jT (jR x r.tk) x.nw=(s',p2):=⟨_,_,rfl⟩
    obtain⟨s',p2,hps⟩:=HX;have hX:=dZ.qQ O.o z;obtain⟨_,_,hok⟩:=hX;have V:jT (jR x t) x.nw=(s',p2):=by rw[<-B.o.1];exact hps
    have hp2:0<=p2/\p2<=4000000000:=by
     have e1:p2=max x.nw (jR x t).next:=by have:=congrArg Prod.snd V;exact this.symm
     have:=hok.n0;have:=hok.n1;have:=O.o.nw;omega
    have Q:aH (qG x i=iY (cH (dT x t s') i (D1 x r p2)) 5 (D1 x r p2)):=b.o.trans (by
     simp only[aaA E1.o,aaA E2.o,hp,hps];rw[B.o.1];simp[cH,dT])
    have HPU:=aP (λW a (hW:Sh W a (jR x t))=>VA (jR x t) x.nw a k W hW hok aQ O.o.nw.1 O.o.nw.2);rw[V] at HPU;obtain⟨qT',A',cA',H,t0,t1,t2,_⟩:=l.o.1.task (n:=t) (by simpa[cH] using z);have P:=l.o.1.c 0 (.slice y.T y.L.length y.cT) rfl;rw[HTQ.o] at H P;injection H with H;injection H with H;subst H;rw[show y.L.length=x.ts.length from l.o.1.len] at P;have a0:=(l.o.1.pY HQ.o hi).c0;rw[B.o.1] at a0;have HTT2:aH (iD x r.tk=tt):=HTT.o.symm;have N:iD (cH x i r) t=tt:=by rw[HTT.o,B.o.1];rfl
    rw[N] at t0 t1 t2;have q0:=HP.o.de.1;have q1:=HP.o.de.2;have HL:aH ((cH x i r).sh.length=(cH x i r).ts.length):=O.o.ls;have HP2:=aP hp2;clear b hp hP1 U hps V hok N HTT hp2;generalize tt.po=po at *;go_upto_region 17 with(fail)
    have aft_e0:=bD P;have aft_a0:=bD a0;have aft_t0:=bD t0;have aft_t1:=bD t1;have aft_t2:=bD t2;refine bO (bS _) (λ_=>bS) [5] (λ_ v w=>EO (jA P) 122 #[aU,aU,aU] v w) [13] [] 172 (bY _) (λ_ _ _ h N=>bU h N) (λ_ d hd _ v w w' _ h N=>h.keep N) aV aV bL ?_;repeat (first|(refine eA ?_)|(refine uG 5 [] bL bL bL bL (λγ w hC hT=>?_) ?_;(simp only[cO];go_simp;exact p5 (aX w _) ⟨_,rfl,Below.size hC,bF.new w _ _⟩);(try refine dE ?_)))
    refine dC ?_;intro γ w_ hb_ hT;clear aft_e0 aft_a0 aft_t0 aft_t1 aft_t2;simp only[cO,Act.put,Zx,aaE,aaD];refine dP ?_;obtain⟨g5,e_,hm_,hk_⟩:=hT 5 aT;simp only[e_];clear hT e_;refine iP hm_ hb_ hk_ rfl 122 _ _ rfl #[tt.co,tt.pe,tt.de] rfl rfl rfl aV aV ?_;clear hm_ hb_ hk_;intro w8 hb8 hm5;refine cI ?_;simp only[Act.put];have E:=bN (l.o.1.boxed hb8 hm5.1 hm5.2.lt) (l.o.2.trans (l.o.1.fl.below hb8));obtain⟨qS,a,hS,x0,_,hlen,_⟩:=E.o.1.V3 HL.o (i:=t) (by simpa[cH] using z);have e12:=E.o.1.c 12 (.slice y.S y.a.length y.cS) rfl;rw[hS,hlen] at e12;have e12':w8.cell? (g,12)=some (.slice qS x.ts.length y.cS):=e12;have e11:=E.o.1.c 11 (.int .i64 x.nw) rfl;have z0:=(E.o.1.pY HQ.o hi).c0;rw[B.o.1] at z0;have HSQ:=aP hS;have hB5:=aP hm5.2;clear hS hlen e12 hm5 hb8 P a0 t0 t1 t2 l;go_upto_region 18 with(fail)
    have I:=bD e12';have aft_x0:=bD x0;have aft_z0:=bD z0;have X:=bD e11;refine bO (bS _) (λ_=>bS) [] (λ_ _ _=>True) [16,20] [[16,11,10,4], [16,11,10,9]] 172 (bY _) (λ_ _ _ h N=>bU h N) (λ_ d hd _ v w w' _ h N=>by cases hd) aV aV bL ?_;repeat refine eA ?_
    refine dC ?_;intro γ w9 Y hT;clear I aft_x0 aft_z0 X;simp only[cO,Act.put,Zx,aaE,aaD];refine dP ?_;have h9:=E.o.1.below Y;obtain⟨qS',a',M,p,hsh,_,eQ⟩:=h9.V3 HL.o (i:=t) (by simpa[cH] using z);rw[HSQ.o] at M;injection M with M;injection M with M;subst M;have x0'':=bG Y x0;rw[x0''] at p;injection p with p;injection p with p;injection p with p;injection p with p;subst p;have HPP:=aP (HPU.o w9 _ hsh);have HTU:=aP eQ;have H9:=bN h9 (E.o.2.trans (E.o.1.fl.below Y).unbox);have hB9:=aP (hB5.o.keep Y);clear h9 hsh eQ x0'' Y E hB5 HPU x0 e12' e11 z0;refine wpList_plain rfl (λK hK=>?_);go_wp2_with fail
    refine aR HPP ?_;rintro e w10 ⟨rfl,hs10,hg10⟩;have t10:=HTU.o _ _ hs10 hg10;have hX:bR (Fb F g5) w10 g (cH (dT x t s') i r) y:=t10.1;have h10:=bN hX (H9.o.2.trans t10.2.unbox);have hB10:=aP (t10.2.aY hB9.o (.inr rfl));refine hK _ _ ?_;clear hK K hs10 hg10 t10 hX HTU HPP H9 hB9;try refine dE ?_
    refine dS w10 rfl 3 _ _ rfl q (i *11+2) (.int .i64 p2) rfl rfl aV rfl (h10.o.1.YD HQ.o (by simpa[cH,dT] using hi) aQ) ?_;refine cI ?_;try refine dE ?_
    obtain⟨n1,u⟩:=h10.o.1.uS HQ.o (by simpa[dT] using hi) (f:=2) aQ {r with ca:=p2} (.int .i64 p2) rfl;have Z:=bN n1 (h10.o.2.trans u.unbox);have a1:=aP (u.aY hB10.o (.inr rfl));clear n1 u h10 hB10;generalize w10.setCell (q,i *11+2) (.int .i64 p2)=w11 at *;have a2:=(Z.o.1.pY HQ.o (by simpa[dT] using hi)).c2;have a2':w11.cell? (q,i *11+2)=some (.int .i64 p2):=a2;have d2:=a1.o.cell 2 tt.de rfl;have pp0:=HP2.o.1;have pp1:=HP2.o.2;clear a2;go_upto_region 19 with(fail)
    have a7:=bD a2';have aft_d2:=bD d2;refine bO (bS _) (λ_=>bS) [] (λ_ _ _=>True) [12] [] 172 (bY _) (λ_ _ _ h N=>bU h N) (λ_ d hd _ v w w' _ h N=>by cases hd) aV aV bL ?_;repeat refine eA ?_
    refine dC ?_;intro γ w12 G hT;clear a7 aft_d2;simp only[cO,Act.put,Zx,aaE,aaD];refine dP ?_;have h12:=Z.o.1.below G;have k12:=Z.o.2.trans (Z.o.1.fl.below G).unbox;have hB12:=a1.o.keep G;obtain⟨n1,u⟩:=h12.uS HQ.o (by simpa[dT] using hi) (f:=3) aQ {r with ca:=p2,de:=p2+tt.de} (.int .i64 (p2+tt.de)) rfl;have m:=bN n1 (k12.trans u.unbox);have hB13:=aP (u.aY hB12 (.inr rfl));refine dS w12 rfl 3 _ _ rfl q (i *11+3) (.int .i64 (p2+tt.de)) rfl rfl aV rfl (h12.YD HQ.o (by simpa[cH,dT] using hi) aQ) ?_;refine cI ?_;try refine dE ?_
    clear n1 u h12 k12 hB12 G Z a1 a2' d2 pp0 pp1;generalize w12.setCell (q,i *11+3) (.int .i64 (p2+tt.de))=w13 at *;have s:i<(dT x t s').jb.length:=hi;have c9:=(m.o.1.pY HQ.o s).c9;have c9':w13.cell? (q,i *11+9)=some (.int .i64 r.rs):=c9;have d0:=hB13.o.cell 0 tt.co rfl;have aa:i<(cH (dT x t s') i {r with ca:=p2,de:=p2+tt.de}).jb.length:=by simpa[cH] using s
    have f6:=m.o.1.wH HQ.o aa (f:=6) aQ;have f9:=m.o.1.wH HQ.o aa (f:=9) aQ;have f7:=m.o.1.wH HQ.o aa (f:=7) aQ;have f10:=m.o.1.wH HQ.o aa (f:=10) aQ;have c6:=(m.o.1.pY HQ.o s).c6;have c6':w13.cell? (q,i *11+6)=some (.int .i64 r.lf):=c6;have c7:=(m.o.1.pY HQ.o s).c7;have c7':w13.cell? (q,i *11+7)=some (.bool r.bg):=c7;have wV:=(m.o.1.pY HQ.o s).wV;have c10':w13.cell? (q,i *11+10)=some (.bool r.lt):=wV;clear c9 c6 c7 wV;obtain⟨n1,m1⟩:=m.o.1.uS HQ.o s (f:=6) aQ {r with ca:=p2,de:=p2+tt.de,lf:=tt.co} (.int .i64 tt.co) rfl;obtain⟨u,m2⟩:=n1.uS HQ.o s (f:=9) aQ {r with ca:=p2,de:=p2+tt.de,lf:=tt.co,rs:=r.rs+1} (.int .i64 (r.rs+1)) rfl;obtain⟨n3,m3⟩:=u.uS HQ.o s (f:=7) aQ {r with ca:=p2,de:=p2+tt.de,lf:=tt.co,rs:=r.rs+1,bg:=false} (.bool false) rfl;obtain⟨n4,m4⟩:=n3.uS HQ.o s (f:=10) aQ {r with ca:=p2,de:=p2+tt.de,lf:=tt.co,rs:=r.rs+1,bg:=false,lt:=false} (.bool false) rfl;have hpj:({r with ca:=p2,de:=p2+tt.de,lf:=tt.co,rs:=r.rs+1,bg:=false,lt:=false}:Jb)=D1 x r p2:=by unfold D1;rw[HTT2.o]
    rw[hpj] at n4;have C:=n4.pY HQ.o s;have R:=aP (wN n4 5 C.c0 C.c1 (by have:=O.o.lg;simp[cH,dT];omega));have HK:=aP (m.o.2.trans (m1.trans (m2.trans (m3.trans m4))).unbox);have r0:=HJ5.o.1.1;have r1:=HJ5.o.1.2;clear n1 u n3 n4 m1 m2 m3 m4 C hpj m hB13 aa;go_wp2_with fail
    refine aR R ?_;rintro e w20 ⟨rfl,⟨A8,c8,h20⟩,k20⟩;have H20:=bN h20.less (HK.o.trans k20.unbox);clear h20 k20 R HG HK;go_wp2_with fail
    refine bodyPost_ret (v:= .tuple #[]) (by simp[results,results59,go_sem]) rfl ?_;rw[Q.o];exact⟨rfl,⟨_,H20.o.1⟩,H20.o.2⟩
end
end
end Go.Proofs.YtacgiflhgdaeaaaGreat
