/- Texts laid as one. -/
import Derived.Test.YtacgiflhgdaeaaaGreatZ22
import Derived.Test.YtacgiflhgdaeaaaGreatZ23
set_option linter.unusedVariables false
set_option linter.unusedSimpArgs false
set_option maxRecDepth 100000
set_option maxHeartbeats 20000000
namespace Go.Proofs.YtacgiflhgdaeaaaGreat
open Go.Proofs.Tryz
open Go renaming World->aA,Calls->aG
open Go.RowKit renaming Below->aD,Hid->aH
open Go.Obj renaming cells->aI
section
open Go.RowKit Go.Lib Go.Shelf dH Fr Up Nt
variable{F:Nat->Prop}{w w1 w2:aA}{q1 g:Nat}{k':Kv}{e op N E:Int}
section
def dP(F:Nat->Prop)(g:Nat)(k:Kv)(e op A B C D:Int)(w:aA)(r:Ending)(w':aA):Prop:=∃(N E:Int) (k':Kv),(nV k e op A B C D N E k'\/(N=0/\E=1/\k'=k))/\gD F g k' (.tuple #[.int .u64 N,E]) w r w'
theorem gL{e:Nat}(he:e<4):oZ (e:Int)=true:=abD aQ
theorem BxK.uF{a:Ka}{k:Kv}{A B C D:Int}(h:BxK F w w1 q1 g a k op A B C D)(hd:nV k e op A B C D N E k')(hm:KM (Fb F q1) w2 g k')(kp:Kp (Fb F q1) w1 w2):dP F g k e op A B C D w (.returned (.tuple #[.int .u64 N,E])) w2:=
 ⟨N,E,k', .inl hd,rfl,hm.less (λb c=> .inl c),h.k.trans kp.unbox⟩
theorem Aa{a:Ka}{k:Kv}(h:bJ F w g a k)(hw:KW k)(e p:Int):aG prog 168 #[.pointer a.gt,e,p] w λr w'=>∃v:Bool,r= .returned (.bool v)/\bJ F w' g a {k with t:=PF k.t e p}/\Kp F w w':=by
 obtain⟨G,d,back⟩:=h.tb;refine(Dd d hw.t e p).mono ?_;rintro r w' ⟨v,rfl,b,c⟩;exact⟨v,rfl,(back _ _ b c).1,(back _ _ b c).2⟩
theorem Vr{a:Ka}{k:Kv}(h:bJ F w g a k)(hw:KW k)(e:Nat)(he:e<4)(A B C D:Int)(j:Pa.dI 0 A B C D=true):aG prog 119 #[.pointer g,e, .agg #[aU,A,B,C,D]] w (dP F g k e 0 A B C D w):=by
 have i:=aP (BxK.new h 0 A B C D);have c:=fK i.o.m (e:Int);rw[gL he] at c;have c:=aP c;have d:=λW=>Pa.dY 0 A B C D W
 rw[j] at d;have d:=aP d;clear h hw j he;go_enter func119,ntmps119
 go_upto_region 3 with(fail)
 generalize w.alloc (aI #[aU,A,B,C,D] 281)=w1 at *;generalize w.heap.size=q1 at *;obtain⟨l,n,p,q,s⟩:=i.o.xs;go_wp2_with fail
 refine aR c ?_;rintro r v ⟨rfl,rfl⟩;go_wp2_with fail
 refine aS (d.o _) ?_;rintro r t ⟨rfl,f⟩;have b:=aP (i.o.below f);clear l n p q s c d f i;obtain⟨l,n,p,q,s⟩:=b.o.xs;have u:aH (dP F g k e 0 A B C D w (.returned (.tuple #[cO,aU])) t):=⟨0,0,k, .inl (.null rfl),rfl,b.o.o.1,b.o.o.2⟩
 go_wp2_with fail
 go_ret2
 exact u.o
theorem Ux{a:Ka}{k:Kv}(h:bJ F w g a k)(hw:KW k)(e:Nat)(he:e<4)(A B C D:Int)(u:Pa.dI 1 A B C D=true):aG prog 119 #[.pointer g,e, .agg #[.int .i64 1,A,B,C,D]] w (dP F g k e 1 A B C D w):=by
 have l:=aP (BxK.new h 1 A B C D);have d:=fK l.o.m (e:Int);rw[gL he] at d;have d:=aP d;have f:=λW=>Pa.dY 1 A B C D W
 rw[u] at f;have f:=aP f;have y:=aP hw;clear h hw u he;go_enter func119,ntmps119
 go_upto_region 3 with(fail)
 generalize w.alloc (aI #[.int .i64 1,A,B,C,D] 281)=w1 at *;generalize w.heap.size=q1 at *;obtain⟨n,p,q,s,t⟩:=l.o.xs;go_wp2_with fail
 refine aR d ?_;rintro r I ⟨rfl,rfl⟩;go_wp2_with fail
 refine aS (f.o _) ?_;rintro r J ⟨rfl,i⟩;have b:=aP (l.o.below i);clear n p q s t d f i l;obtain⟨n,p,q,s,t⟩:=b.o.xs;have j:=XZ b.o.m y.o e A;obtain⟨rk,c⟩:∃x,x=pS k e A:=⟨_,rfl⟩
 have v:=aP c;rw[<-c] at j;have j:=aP j;clear c;obtain⟨z,E,K⟩:=rk;go_wp2_with fail
 refine aR j ?_;rintro r G ⟨rfl,hm,kp⟩;have H:aH (dP F g k e 1 A B C D w (.returned (.tuple #[.int .u64 z,E])) G):=b.o.uF (by have:=nV.alloc (k:=k) (e:=e) (op:=1) (A:=A) (B:=B) (C:=C) (D:=D) rfl;rw[<-v.o] at this;exact this) hm kp;clear v;clear j n p q s t;go_wp2_with fail
 go_ret2
 exact H.o
theorem Vd{a:Ka}{k:Kv}(h:bJ F w g a k)(hw:KW k)(e:Nat)(he:e<4)(A B C D:Int)(s:Pa.dI 2 A B C D=true):aG prog 119 #[.pointer g,e, .agg #[.int .i64 2,A,B,C,D]] w (dP F g k e 2 A B C D w):=by
 have i:=aP (BxK.new h 2 A B C D);have c:=fK i.o.m (e:Int);rw[gL he] at c;have c:=aP c;have d:=λW=>Pa.dY 2 A B C D W
 rw[s] at d;have d:=aP d;have u:=aP hw;clear h hw s he;go_enter func119,ntmps119
 go_upto_region 3 with(fail)
 generalize w.alloc (aI #[.int .i64 2,A,B,C,D] 281)=w1 at *;generalize w.heap.size=q1 at *;obtain⟨j,l,n,p,q⟩:=i.o.xs;go_wp2_with fail
 refine aR c ?_;rintro r z ⟨rfl,rfl⟩;go_wp2_with fail
 refine aS (d.o _) ?_;rintro r G ⟨rfl,f⟩;have b:=aP (i.o.below f);clear j l n p q c d f i;obtain⟨j,l,n,p,q⟩:=b.o.xs;have t:=aP (Cs b.o.m u.o e A);go_wp2_with fail
 refine aR t ?_;rintro r v ⟨E,H,x,rfl,hm,kp⟩;have y:aH (dP F g k e 2 A B C D w (.returned (.tuple #[cO,E])) v):=b.o.uF (.free rfl x) hm kp;clear hm kp;clear t j l n p q;go_wp2_with fail
 go_ret2
 exact y.o
theorem Uq{a:Ka}{k:Kv}(h:bJ F w g a k)(hw:KW k)(e:Nat)(he:e<4)(A B C D:Int)(u:Pa.dI 3 A B C D=true):aG prog 119 #[.pointer g,e, .agg #[.int .i64 3,A,B,C,D]] w (dP F g k e 3 A B C D w):=by
 have l:=aP (BxK.new h 3 A B C D);have d:=fK l.o.m (e:Int);rw[gL he] at d;have d:=aP d;have f:=λW=>Pa.dY 3 A B C D W
 rw[u] at f;have f:=aP f;clear h hw u he;go_enter func119,ntmps119
 go_upto_region 3 with(fail)
 generalize w.alloc (aI #[.int .i64 3,A,B,C,D] 281)=w1 at *;generalize w.heap.size=q1 at *;obtain⟨n,p,q,s,t⟩:=l.o.xs;go_wp2_with fail
 refine aR d ?_;rintro r H ⟨rfl,rfl⟩;go_wp2_with fail
 refine aS (f.o _) ?_;rintro r I ⟨rfl,i⟩;have b:=aP (l.o.below i);clear n p q s t d f i l;obtain⟨n,p,q,s,t⟩:=b.o.xs;have j:=ZO b.o.m e A B;obtain⟨rk,c⟩:∃x,x=C9 k e A B:=⟨_,rfl⟩
 have v:=aP c;rw[<-c] at j;have j:=aP j;clear c;obtain⟨y,z⟩:=rk;go_wp2_with fail
 refine aR j ?_;rintro r E ⟨rfl,hm,kp⟩;have G:aH (dP F g k e 3 A B C D w (.returned (.tuple #[.int .u64 y,z])) E):=b.o.uF (by have:=nV.read (k:=k) (e:=e) (op:=3) (A:=A) (B:=B) (C:=C) (D:=D) rfl;rw[<-v.o] at this;exact this) hm kp;clear v;clear j n p q s t;go_wp2_with fail
 go_ret2
 exact G.o
theorem Vt{a:Ka}{k:Kv}(h:bJ F w g a k)(hw:KW k)(e:Nat)(he:e<4)(A B C D:Int)(u:Pa.dI 4 A B C D=true):aG prog 119 #[.pointer g,e, .agg #[.int .i64 4,A,B,C,D]] w (dP F g k e 4 A B C D w):=by
 have l:=aP (BxK.new h 4 A B C D);have d:=fK l.o.m (e:Int);rw[gL he] at d;have d:=aP d;have f:=λW=>Pa.dY 4 A B C D W
 rw[u] at f;have f:=aP f;clear h hw u he;go_enter func119,ntmps119
 go_upto_region 3 with(fail)
 generalize w.alloc (aI #[.int .i64 4,A,B,C,D] 281)=w1 at *;generalize w.heap.size=q1 at *;obtain⟨n,p,q,s,t⟩:=l.o.xs;go_wp2_with fail
 refine aR d ?_;rintro r G ⟨rfl,rfl⟩;go_wp2_with fail
 refine aS (f.o _) ?_;rintro r H ⟨rfl,i⟩;have b:=aP (l.o.below i);clear n p q s t d f i l;obtain⟨n,p,q,s,t⟩:=b.o.xs;have j:=XS b.o.m e A B C;obtain⟨rk,c⟩:∃x,x=sY k e A B C:=⟨_,rfl⟩
 have v:=aP c;rw[<-c] at j;have j:=aP j;clear c;obtain⟨y,I⟩:=rk;go_wp2_with fail
 refine aR j ?_;rintro r z ⟨rfl,hm,kp⟩;have E:aH (dP F g k e 4 A B C D w (.returned (.tuple #[cO,y])) z):=b.o.uF (by have:=nV.write (k:=k) (e:=e) (op:=4) (A:=A) (B:=B) (C:=C) (D:=D) rfl;rw[<-v.o] at this;exact this) hm kp;clear v;clear j n p q s t;go_wp2_with fail
 go_ret2
 exact E.o
theorem Ur{a:Ka}{k:Kv}(h:bJ F w g a k)(hw:KW k)(e:Nat)(he:e<4)(A B C D:Int)(E:Pa.dI 6 A B C D=true):aG prog 119 #[.pointer g,e, .agg #[.int .i64 6,A,B,C,D]] w (dP F g k e 6 A B C D w):=by
 have p:=aP (BxK.new h 6 A B C D);have i:=fK p.o.m (e:Int);rw[gL he] at i;have i:=aP i;have j:=λW=>Pa.dY 6 A B C D W
 rw[E] at j;have j:=aP j;have I:=aP hw;clear h hw E he;go_enter func119,ntmps119
 go_upto_region 3 with(fail)
 generalize w.alloc (aI #[.int .i64 6,A,B,C,D] 281)=w1 at *;generalize w.heap.size=q1 at *;obtain⟨q,d,s,u,l⟩:=p.o.xs;go_wp2_with fail
 refine aR i ?_;rintro r K ⟨rfl,rfl⟩;go_wp2_with fail
 refine aS (j.o _) ?_;rintro r x ⟨rfl,n⟩;have b:=aP (p.o.below n);clear q d s u l i j n p;obtain⟨q,d,s,u,l⟩:=b.o.xs;have pt:=b.o.m.pt;unfold pA at pt;have y:aH (∀W,aD x x W->aG prog 168 #[.pointer a.gt,e,A] W λr w'=>∃v:Bool,r= .returned (.bool v)/\bJ (Fb F q1) w' g a {k with t:=PF k.t e A}/\Kp (Fb F q1) x w'):=λW G=>(Aa (b.o.m.below G).1 I.o e A).mono (by
  rintro r w' ⟨v,rfl,h1,J⟩;exact⟨v,rfl,h1,(b.o.m.below G).2.trans J⟩)
 go_upto_region 17 with(fail)
 go_region_held3 (λW=>W.cell? (g,1)=some (.pointer a.gt)/\W.cell? (q1,1)=some (.int .i64 A)) (first|exact⟨pt,d⟩|exact⟨‹_›,‹_›⟩) ((go_at_call 168;(refine aS (y.o _ (Below.refl _ _).drew) ?_);rintro r H ⟨v,rfl,hm,kp⟩;(have c:=hm.pt);(have l:=kp.cell d (.inr rfl));(unfold pA at c);(have f:=bH hm kp);clear hm kp))
 all_goals
  cases v with
  |false=>
   have z:aH (dP F g k e 6 A B C D w (.returned (.tuple #[cO, .int .i64 6])) H):=b.o.uF (.ER rfl) ⟨a,f.o.1⟩ f.o.2;clear y q d s u l pt c f;go_wp2_with fail
   go_ret2
   exact z.o
  |true=>
   have z:aH (dP F g k e 6 A B C D w (.returned (.tuple #[cO,aU])) H):=b.o.uF (.ER rfl) ⟨a,f.o.1⟩ f.o.2;clear y q d s u l pt c f;go_wp2_with fail
   go_ret2
   exact z.o
theorem Vo{a:Ka}{k:Kv}(h:bJ F w g a k)(hw:KW k)(e:Nat)(he:e<4)(A B C D:Int)(s:Pa.dI 7 A B C D=true):aG prog 119 #[.pointer g,e, .agg #[.int .i64 7,A,B,C,D]] w (dP F g k e 7 A B C D w):=by
 have i:=aP (BxK.new h 7 A B C D);have c:=fK i.o.m (e:Int);rw[gL he] at c;have c:=aP c;have d:=λW=>Pa.dY 7 A B C D W
 rw[s] at d;have d:=aP d;have u:=aP hw;clear h hw s he;go_enter func119,ntmps119
 go_upto_region 3 with(fail)
 generalize w.alloc (aI #[.int .i64 7,A,B,C,D] 281)=w1 at *;generalize w.heap.size=q1 at *;obtain⟨j,l,n,p,q⟩:=i.o.xs;go_wp2_with fail
 refine aR c ?_;rintro r z ⟨rfl,rfl⟩;go_wp2_with fail
 refine aS (d.o _) ?_;rintro r G ⟨rfl,f⟩;have b:=aP (i.o.below f);clear j l n p q c d f i;obtain⟨j,l,n,p,q⟩:=b.o.xs;have t:=aP (RW b.o.m u.o e A B C D);go_wp2_with fail
 refine aR t ?_;rintro r v ⟨E,H,x,rfl,hm,kp⟩;have y:aH (dP F g k e 7 A B C D w (.returned (.tuple #[cO,E])) v):=b.o.uF (.hand cD x) hm kp;clear hm kp;clear t j l n p q;go_wp2_with fail
 go_ret2
 exact y.o
theorem Vu{a:Ka}{k:Kv}(h:bJ F w g a k)(hw:KW k)(e:Nat)(he:e<4)(A B C D:Int)(s:Pa.dI 8 A B C D=true):aG prog 119 #[.pointer g,e, .agg #[.int .i64 8,A,B,C,D]] w (dP F g k e 8 A B C D w):=by
 have i:=aP (BxK.new h 8 A B C D);have c:=fK i.o.m (e:Int);rw[gL he] at c;have c:=aP c;have d:=λW=>Pa.dY 8 A B C D W
 rw[s] at d;have d:=aP d;have u:=aP hw;clear h hw s he;go_enter func119,ntmps119
 go_upto_region 3 with(fail)
 generalize w.alloc (aI #[.int .i64 8,A,B,C,D] 281)=w1 at *;generalize w.heap.size=q1 at *;obtain⟨j,l,n,p,q⟩:=i.o.xs;go_wp2_with fail
 refine aR c ?_;rintro r z ⟨rfl,rfl⟩;go_wp2_with fail
 refine aS (d.o _) ?_;rintro r G ⟨rfl,f⟩;have b:=aP (i.o.below f);clear j l n p q c d f i;obtain⟨j,l,n,p,q⟩:=b.o.xs;have t:=aP (W0 b.o.m u.o e A B C D);go_wp2_with fail
 refine aR t ?_;rintro r v ⟨E,H,x,rfl,hm,kp⟩;have y:aH (dP F g k e 8 A B C D w (.returned (.tuple #[cO,E])) v):=b.o.uF (.hand cD x) hm kp;clear hm kp;clear t j l n p q;go_wp2_with fail
 go_ret2
 exact y.o
theorem Vi{a:Ka}{k:Kv}(h:bJ F w g a k)(hw:KW k)(e:Nat)(he:e<4)(A B C D:Int)(s:Pa.dI 9 A B C D=true):aG prog 119 #[.pointer g,e, .agg #[.int .i64 9,A,B,C,D]] w (dP F g k e 9 A B C D w):=by
 have i:=aP (BxK.new h 9 A B C D);have c:=fK i.o.m (e:Int);rw[gL he] at c;have c:=aP c;have d:=λW=>Pa.dY 9 A B C D W
 rw[s] at d;have d:=aP d;have u:=aP hw;clear h hw s he;go_enter func119,ntmps119
 go_upto_region 3 with(fail)
 generalize w.alloc (aI #[.int .i64 9,A,B,C,D] 281)=w1 at *;generalize w.heap.size=q1 at *;obtain⟨j,l,n,p,q⟩:=i.o.xs;go_wp2_with fail
 refine aR c ?_;rintro r z ⟨rfl,rfl⟩;go_wp2_with fail
 refine aS (d.o _) ?_;rintro r G ⟨rfl,f⟩;have b:=aP (i.o.below f);clear j l n p q c d f i;obtain⟨j,l,n,p,q⟩:=b.o.xs;have t:=aP (R7 b.o.m u.o e A B C D);go_wp2_with fail
 refine aR t ?_;rintro r v ⟨E,H,x,rfl,hm,kp⟩;have y:aH (dP F g k e 9 A B C D w (.returned (.tuple #[cO,E])) v):=b.o.uF (.hand cD x) hm kp;clear hm kp;clear t j l n p q;go_wp2_with fail
 go_ret2
 exact y.o
theorem Qp{a:Ka}{k:Kv}(h:bJ F w g a k)(hw:KW k)(e:Nat)(he:e<4)(A B C D:Int)(s:Pa.dI 10 A B C D=true):aG prog 119 #[.pointer g,e, .agg #[.int .i64 10,A,B,C,D]] w (dP F g k e 10 A B C D w):=by
 have i:=aP (BxK.new h 10 A B C D);have c:=fK i.o.m (e:Int);rw[gL he] at c;have c:=aP c;have d:=λW=>Pa.dY 10 A B C D W
 rw[s] at d;have d:=aP d;have u:=aP hw;clear h hw s he;go_enter func119,ntmps119
 go_upto_region 3 with(fail)
 generalize w.alloc (aI #[.int .i64 10,A,B,C,D] 281)=w1 at *;generalize w.heap.size=q1 at *;obtain⟨j,l,n,p,q⟩:=i.o.xs;go_wp2_with fail
 refine aR c ?_;rintro r z ⟨rfl,rfl⟩;go_wp2_with fail
 refine aS (d.o _) ?_;rintro r G ⟨rfl,f⟩;have b:=aP (i.o.below f);clear j l n p q c d f i;obtain⟨j,l,n,p,q⟩:=b.o.xs;have t:=aP (YQ b.o.m u.o e A B C D);go_wp2_with fail
 refine aR t ?_;rintro r v ⟨E,H,x,rfl,hm,kp⟩;have y:aH (dP F g k e 10 A B C D w (.returned (.tuple #[cO,E])) v):=b.o.uF (.hand cD x) hm kp;clear hm kp;clear t j l n p q;go_wp2_with fail
 go_ret2
 exact y.o
theorem Qv{a:Ka}{k:Kv}(h:bJ F w g a k)(hw:KW k)(e:Nat)(he:e<4)(A B C D:Int)(s:Pa.dI 11 A B C D=true):aG prog 119 #[.pointer g,e, .agg #[.int .i64 11,A,B,C,D]] w (dP F g k e 11 A B C D w):=by
 have i:=aP (BxK.new h 11 A B C D);have c:=fK i.o.m (e:Int);rw[gL he] at c;have c:=aP c;have d:=λW=>Pa.dY 11 A B C D W
 rw[s] at d;have d:=aP d;clear h hw s he;go_enter func119,ntmps119
 go_upto_region 3 with(fail)
 generalize w.alloc (aI #[.int .i64 11,A,B,C,D] 281)=w1 at *;generalize w.heap.size=q1 at *;obtain⟨j,l,n,p,q⟩:=i.o.xs;go_wp2_with fail
 refine aR c ?_;rintro r x ⟨rfl,rfl⟩;go_wp2_with fail
 refine aS (d.o _) ?_;rintro r y ⟨rfl,f⟩;have b:=aP (i.o.below f);clear j l n p q c d f i;obtain⟨j,l,n,p,q⟩:=b.o.xs;have t:=aP (EZ b.o.m e 11 A B C D cD);go_wp2_with fail
 refine aR t ?_;rintro r u ⟨E,rfl,hm,kp⟩;have v:aH (dP F g k e 11 A B C D w (.returned (.tuple #[cO,E])) u):=b.o.uF (.line cD) hm kp;clear hm kp;clear t j l n p q;go_wp2_with fail
 go_ret2
 exact v.o
theorem Sy{a:Ka}{k:Kv}(h:bJ F w g a k)(hw:KW k)(e:Nat)(he:e<4)(A B C D:Int)(s:Pa.dI 12 A B C D=true):aG prog 119 #[.pointer g,e, .agg #[.int .i64 12,A,B,C,D]] w (dP F g k e 12 A B C D w):=by
 have i:=aP (BxK.new h 12 A B C D);have c:=fK i.o.m (e:Int);rw[gL he] at c;have c:=aP c;have d:=λW=>Pa.dY 12 A B C D W
 rw[s] at d;have d:=aP d;clear h hw s he;go_enter func119,ntmps119
 go_upto_region 3 with(fail)
 generalize w.alloc (aI #[.int .i64 12,A,B,C,D] 281)=w1 at *;generalize w.heap.size=q1 at *;obtain⟨j,l,n,p,q⟩:=i.o.xs;go_wp2_with fail
 refine aR c ?_;rintro r x ⟨rfl,rfl⟩;go_wp2_with fail
 refine aS (d.o _) ?_;rintro r y ⟨rfl,f⟩;have b:=aP (i.o.below f);clear j l n p q c d f i;obtain⟨j,l,n,p,q⟩:=b.o.xs;have t:=aP (EZ b.o.m e 12 A B C D cD);go_wp2_with fail
 refine aR t ?_;rintro r u ⟨E,rfl,hm,kp⟩;have v:aH (dP F g k e 12 A B C D w (.returned (.tuple #[cO,E])) u):=b.o.uF (.line cD) hm kp;clear hm kp;clear t j l n p q;go_wp2_with fail
 go_ret2
 exact v.o
theorem Um{a:Ka}{k:Kv}(h:bJ F w g a k)(hw:KW k)(e:Nat)(he:e<4)(A B C D:Int)(s:Pa.dI 13 A B C D=true):aG prog 119 #[.pointer g,e, .agg #[.int .i64 13,A,B,C,D]] w (dP F g k e 13 A B C D w):=by
 have i:=aP (BxK.new h 13 A B C D);have c:=fK i.o.m (e:Int);rw[gL he] at c;have c:=aP c;have d:=λW=>Pa.dY 13 A B C D W
 rw[s] at d;have d:=aP d;clear h hw s he;go_enter func119,ntmps119
 go_upto_region 3 with(fail)
 generalize w.alloc (aI #[.int .i64 13,A,B,C,D] 281)=w1 at *;generalize w.heap.size=q1 at *;obtain⟨j,l,n,p,q⟩:=i.o.xs;go_wp2_with fail
 refine aR c ?_;rintro r x ⟨rfl,rfl⟩;go_wp2_with fail
 refine aS (d.o _) ?_;rintro r y ⟨rfl,f⟩;have b:=aP (i.o.below f);clear j l n p q c d f i;obtain⟨j,l,n,p,q⟩:=b.o.xs;have t:=aP (EZ b.o.m e 13 A B C D cD);go_wp2_with fail
 refine aR t ?_;rintro r u ⟨E,rfl,hm,kp⟩;have v:aH (dP F g k e 13 A B C D w (.returned (.tuple #[cO,E])) u):=b.o.uF (.line cD) hm kp;clear hm kp;clear t j l n p q;go_wp2_with fail
 go_ret2
 exact v.o
theorem Te{a:Ka}{k:Kv}(h:bJ F w g a k)(hw:KW k)(v:k.n+1<=1000000)(e:Nat)(he:e<4)(A B C D:Int)(t:Pa.dI 14 A B C D=true):aG prog 119 #[.pointer g,e, .agg #[.int .i64 14,A,B,C,D]] w (dP F g k e 14 A B C D w):=by
 have i:=aP (BxK.new h 14 A B C D);have c:=fK i.o.m (e:Int);rw[gL he] at c;have c:=aP c;have d:=λW=>Pa.dY 14 A B C D W
 rw[t] at d;have d:=aP d;have x:=aP he;clear h hw t he;go_enter func119,ntmps119
 go_upto_region 3 with(fail)
 generalize w.alloc (aI #[.int .i64 14,A,B,C,D] 281)=w1 at *;generalize w.heap.size=q1 at *;obtain⟨j,l,p,q,s⟩:=i.o.xs;go_wp2_with fail
 refine aR c ?_;rintro r H ⟨rfl,rfl⟩;go_wp2_with fail
 refine aS (d.o _) ?_;rintro r I ⟨rfl,f⟩;have b:=aP (i.o.below f);clear j l p q s c d f i;obtain⟨j,l,p,q,s⟩:=b.o.xs;have u:=aP (WL b.o.m v e x.o A);go_wp2_with fail
 refine aR u ?_;rintro r y ⟨E,m,z,rfl,hm,kp⟩;have G:aH (dP F g k e 14 A B C D w (.returned (.tuple #[cO,E])) y):=b.o.uF (.vM rfl z) hm kp;clear hm kp;clear u j l p q s;go_wp2_with fail
 go_ret2
 exact G.o
theorem Ss{a:Ka}{k:Kv}(h:bJ F w g a k)(hw:KW k)(e:Nat)(he:e<4)(A B C D:Int)(s:Pa.dI 15 A B C D=true):aG prog 119 #[.pointer g,e, .agg #[.int .i64 15,A,B,C,D]] w (dP F g k e 15 A B C D w):=by
 have i:=aP (BxK.new h 15 A B C D);have c:=fK i.o.m (e:Int);rw[gL he] at c;have c:=aP c;have d:=λW=>Pa.dY 15 A B C D W
 rw[s] at d;have d:=aP d;have u:=aP hw;clear h hw s he;go_enter func119,ntmps119
 go_upto_region 3 with(fail)
 generalize w.alloc (aI #[.int .i64 15,A,B,C,D] 281)=w1 at *;generalize w.heap.size=q1 at *;obtain⟨j,l,n,p,q⟩:=i.o.xs;go_wp2_with fail
 refine aR c ?_;rintro r z ⟨rfl,rfl⟩;go_wp2_with fail
 refine aS (d.o _) ?_;rintro r G ⟨rfl,f⟩;have b:=aP (i.o.below f);clear j l n p q c d f i;obtain⟨j,l,n,p,q⟩:=b.o.xs;have t:=aP (Bi b.o.m u.o e A B C D);go_wp2_with fail
 refine aR t ?_;rintro r v ⟨E,H,x,rfl,hm,kp⟩;have y:aH (dP F g k e 15 A B C D w (.returned (.tuple #[cO,E])) v):=b.o.uF (.time (.inl rfl) x) hm kp;clear hm kp;clear t j l n p q;go_wp2_with fail
 go_ret2
 exact y.o
theorem Uj{a:Ka}{k:Kv}(h:bJ F w g a k)(hw:KW k)(e:Nat)(he:e<4)(A B C D:Int)(s:Pa.dI 16 A B C D=true):aG prog 119 #[.pointer g,e, .agg #[.int .i64 16,A,B,C,D]] w (dP F g k e 16 A B C D w):=by
 have i:=aP (BxK.new h 16 A B C D);have c:=fK i.o.m (e:Int);rw[gL he] at c;have c:=aP c;have d:=λW=>Pa.dY 16 A B C D W
 rw[s] at d;have d:=aP d;have u:=aP hw;clear h hw s he;go_enter func119,ntmps119
 go_upto_region 3 with(fail)
 generalize w.alloc (aI #[.int .i64 16,A,B,C,D] 281)=w1 at *;generalize w.heap.size=q1 at *;obtain⟨j,l,n,p,q⟩:=i.o.xs;go_wp2_with fail
 refine aR c ?_;rintro r z ⟨rfl,rfl⟩;go_wp2_with fail
 refine aS (d.o _) ?_;rintro r G ⟨rfl,f⟩;have b:=aP (i.o.below f);clear j l n p q c d f i;obtain⟨j,l,n,p,q⟩:=b.o.xs;have t:=aP (Y8 b.o.m u.o e A B C D);go_wp2_with fail
 refine aR t ?_;rintro r v ⟨E,H,x,rfl,hm,kp⟩;have y:aH (dP F g k e 16 A B C D w (.returned (.tuple #[cO,E])) v):=b.o.uF (.time (.inr (.inl rfl)) x) hm kp;clear hm kp;clear t j l n p q;go_wp2_with fail
 go_ret2
 exact y.o
theorem Qy{a:Ka}{k:Kv}(h:bJ F w g a k)(hw:KW k)(e:Nat)(he:e<4)(A B C D:Int)(s:Pa.dI 17 A B C D=true):aG prog 119 #[.pointer g,e, .agg #[.int .i64 17,A,B,C,D]] w (dP F g k e 17 A B C D w):=by
 have i:=aP (BxK.new h 17 A B C D);have c:=fK i.o.m (e:Int);rw[gL he] at c;have c:=aP c;have d:=λW=>Pa.dY 17 A B C D W
 rw[s] at d;have d:=aP d;have u:=aP hw;clear h hw s he;go_enter func119,ntmps119
 go_upto_region 3 with(fail)
 generalize w.alloc (aI #[.int .i64 17,A,B,C,D] 281)=w1 at *;generalize w.heap.size=q1 at *;obtain⟨j,l,n,p,q⟩:=i.o.xs;go_wp2_with fail
 refine aR c ?_;rintro r z ⟨rfl,rfl⟩;go_wp2_with fail
 refine aS (d.o _) ?_;rintro r G ⟨rfl,f⟩;have b:=aP (i.o.below f);clear j l n p q c d f i;obtain⟨j,l,n,p,q⟩:=b.o.xs;have t:=aP (ZS b.o.m u.o e A B);go_wp2_with fail
 refine aR t ?_;rintro r v ⟨E,H,x,rfl,hm,kp⟩;have y:aH (dP F g k e 17 A B C D w (.returned (.tuple #[cO,E])) v):=b.o.uF (.send rfl x) hm kp;clear hm kp;clear t j l n p q;go_wp2_with fail
 go_ret2
 exact y.o
theorem Ud{a:Ka}{k:Kv}(h:bJ F w g a k)(hw:KW k)(e:Nat)(he:e<4)(A B C D:Int)(s:Pa.dI 18 A B C D=true):aG prog 119 #[.pointer g,e, .agg #[.int .i64 18,A,B,C,D]] w (dP F g k e 18 A B C D w):=by
 have i:=aP (BxK.new h 18 A B C D);have c:=fK i.o.m (e:Int);rw[gL he] at c;have c:=aP c;have d:=λW=>Pa.dY 18 A B C D W
 rw[s] at d;have d:=aP d;have v:=aP he;clear h hw s he;go_enter func119,ntmps119
 go_upto_region 3 with(fail)
 generalize w.alloc (aI #[.int .i64 18,A,B,C,D] 281)=w1 at *;generalize w.heap.size=q1 at *;obtain⟨j,l,n,p,q⟩:=i.o.xs;go_wp2_with fail
 refine aR c ?_;rintro r G ⟨rfl,rfl⟩;go_wp2_with fail
 refine aS (d.o _) ?_;rintro r H ⟨rfl,f⟩;have b:=aP (i.o.below f);clear j l n p q c d f i;obtain⟨j,l,n,p,q⟩:=b.o.xs;have t:=aP (Y4 b.o.m e (by have:=v.o;omega));go_wp2_with fail
 refine aR t ?_;rintro r x ⟨y,z,u,rfl,hm,kp⟩;have E:aH (dP F g k e 18 A B C D w (.returned (.tuple #[.int .u64 y,z])) x):=b.o.uF (.next rfl u) ⟨a,hm⟩ kp;clear hm kp u;clear t j l n p q;go_wp2_with fail
 go_ret2
 exact E.o
theorem Rq{a:Ka}{k:Kv}(h:bJ F w g a k)(hw:KW k)(e:Nat)(he:e<4)(A B C D:Int)(s:Pa.dI 19 A B C D=true):aG prog 119 #[.pointer g,e, .agg #[.int .i64 19,A,B,C,D]] w (dP F g k e 19 A B C D w):=by
 have i:=aP (BxK.new h 19 A B C D);have c:=fK i.o.m (e:Int);rw[gL he] at c;have c:=aP c;have d:=λW=>Pa.dY 19 A B C D W
 rw[s] at d;have d:=aP d;have u:=aP hw;have v:=aP he;clear h hw s he;go_enter func119,ntmps119
 go_upto_region 3 with(fail)
 generalize w.alloc (aI #[.int .i64 19,A,B,C,D] 281)=w1 at *;generalize w.heap.size=q1 at *;obtain⟨j,l,n,p,q⟩:=i.o.xs;go_wp2_with fail
 refine aR c ?_;rintro r G ⟨rfl,rfl⟩;go_wp2_with fail
 refine aS (d.o _) ?_;rintro r H ⟨rfl,f⟩;have b:=aP (i.o.below f);clear j l n p q c d f i;obtain⟨j,l,n,p,q⟩:=b.o.xs;have t:=aP (ZL b.o.m u.o e (by have:=v.o;omega) A B C D);go_wp2_with fail
 refine aR t ?_;rintro r x ⟨E,I,y,rfl,hm,kp⟩;have z:aH (dP F g k e 19 A B C D w (.returned (.tuple #[cO,E])) x):=b.o.uF (.time (.inr (.inr rfl)) y) hm kp;clear hm kp;clear t j l n p q;go_wp2_with fail
 go_ret2
 exact z.o
end
variable{X:(Nat->Prop)->aA->Prop}{W w' w3 w6 wE:aA}{j i q3:Nat}{H:Nat->Prop}
section
def Nw(F:Nat->Prop)(N:Nat)(W:aA):Nat->Prop:=λb=>F b\/(N<=b/\b<W.heap.size)
theorem dV.grow(M:dV X)(h:X F w)(fl:Ol F w)(c:aD w w W):X (Nw F w W) W:=
 M F (λb=>b<w.heap.size) _ w W h (Kp.dD c λ_ c=>c) (λ_ d _=>d) (λb a=>by
  rcases a with a|a
  .exact aaJ (fl b a) c.size
  .exact a.2) (λr d e hc=>by
  rcases hc with hc|hc
  .exact e hc
  .omega)
theorem gN{A:Nat}{v:Value}(h:g≠A):(w.setCell (A,i) v).cell? (g,j)=w.cell? (g,j):=
 World.cell?_of_block (w:=w) (Below.heap_setCell w ⟨A,i,none⟩ v g h)
theorem dV.mG(M:dV X){A:Nat}(h:X F w)(fl:Ol F w)(d:w.grownBy w' (some A))(f:F A)(hH:∀b,H b->F b/\b≠A):X H w'/\Kp H w w':=by
 have k:Kp (λb=>b<w.heap.size/\b≠A) w w':=Kp.grown d λb a=>⟨a.1,λe=>a.2 (by injection e)⟩
 have g:Kp H w w':=k.mono λb a=>⟨fl b (hH b a).1,(hH b a).2⟩
 exact⟨M F _ H w w' h k (λr i c=>⟨i,λe=>c (e ▸ f)⟩) (λb a=>aaJ (fl b (hH b a).1) k.size) (λr _ c hc=>c (hH r hc).1),g⟩
theorem MZ{a:Ka}{k:Kv}(e:bJ (Fb F q3) w3 g a k/\Kp F w w3)(d:bJ (Nw (Fb F q3) w3.heap.size w3.drew) w6 g a k'/\Kp (Nw (Fb F q3) w3.heap.size w3.drew) w3.drew w6)(c:aD w6 w6 wE):KM F wE g k'/\Kp F w wE:=by
 obtain⟨f,h⟩:=d.1.below c;have i:Kp F w3.drew w6:=d.2.mono λb c=> .inl (.inl c)
 have j:Kp F w6 wE:=h.mono λb c=> .inl (.inl c)
 exact⟨⟨a,f.less (λb c=> .inl (.inl c))⟩,(e.2.drew.trans i).trans j⟩
theorem Rx{a:Ka}{k:Kv}{o:Obj}(d:bJ (Fb F q3) w3 g a k/\Kp F w w3)(f:bJ (Nw (Fb F q3) w3.heap.size (w3.alloc o).drew) w6 g a k'/\Kp (Nw (Fb F q3) w3.heap.size (w3.alloc o).drew) (w3.alloc o).drew w6)(h:w6.grownBy wE (some w3.heap.size)):KM F wE g k'/\Kp F w wE:=by
 have i:Nw (Fb F q3) w3.heap.size (w3.alloc o).drew w3.heap.size:= .inr ⟨aaH _,(show w3.heap.size<(w3.alloc o).heap.size by simp)⟩;obtain⟨j,l⟩:=dV.mG (bJ.bX g a k') (H:=F) f.1 f.1.fl h i (λb c=>⟨.inl (.inl c),λe=>by have:=d.1.fl b (.inl c);omega⟩);have m:Kp F (w3.alloc o).drew w6:=f.2.mono λb c=> .inl (.inl c)
 have n:Kp F w (w3.alloc o).drew:=(d.2.trans (Kp.dD (aX w3 o) λb c=>d.1.fl b (.inl c))).drew;exact⟨⟨a,j⟩,(n.trans m).trans l⟩
theorem Hh(k:Kv)(e s a wr:Int)(h:¬1<wr):qQ k e s a wr=match jY k.c e s 1 (if wr=1 then 3 else 1) with
 |none=>(23,k)
 |some h=>(if lE ⟨e,a,h.ob,decide (wr=1)⟩ then 0 else 1,{k with t:=B8 k.t ⟨e,a,h.ob,decide (wr=1)⟩}):=by
 unfold qQ;exact aaL h
theorem Dh{a:Ka}{k:Kv}(h:bJ F w g a k)(hw:KW k)(e s l wr:Int):aG prog 167 #[.pointer g,e,s,l,wr] w (gD F g (qQ k e s l wr).2 (.int .i64 (qQ k e s l wr).1) w):=by
 have J:=aP h;have Z:=aP hw;by_cases h1:1<wr
 .have v:aH (qQ k e s l wr=(1,k)):=by unfold aH qQ;rw[aaK h1]
  generalize qQ k e s l wr=rk at *;clear h hw;go_enter func167,ntmps167
  go_wp2_with fail
  go_ret
  rw[v.o];exact⟨rfl,⟨a,J.o⟩,Kp.refl _ _⟩
 obtain⟨G,K,_⟩:=h.cp;have pc:=h.pc;unfold pA at pc;have L:=aP (Hh k e s l wr h1);generalize qQ k e s l wr=rk at *;by_cases M:wr=1
 .subst M;have hor:bits .or .i64 1 2=3:=cD;have v:aH (rk=match jY k.c e s 1 3 with
   |none=>(23,k)
   |some h=>(if lE ⟨e,l,h.ob,true⟩ then 0 else 1,{k with t:=B8 k.t ⟨e,l,h.ob,true⟩})):=by unfold aH;rw[L.o];rfl
  have q:=oK K e s 1 3;clear h hw K L;cases hq:jY k.c e s 1 3 with
  |none=>
   rw[hq] at q v;have q:=aP q;clear hq;go_enter func167,ntmps167
   go_wp2_with fail
   refine aR q ?_;rintro r N ⟨rfl,d⟩;simp only[mC,acF];have V:=aP (J.o.below (d.alloc d.size (aI #[aU,aU,aU] 154)));clear d;go_wp2_with fail
   go_ret
   rw[v.o];exact⟨rfl,⟨a,V.o.1⟩,V.o.2⟩
  |some x=>
   rw[hq] at q v;have q:=aP q;clear hq;obtain⟨O,i,P,x4,x5⟩:=x;simp only at v;go_enter func167,ntmps167
   go_wp2_with fail
   refine aR q ?_;rintro r N ⟨rfl,d⟩;simp only[mC,acE];have C:=d.alloc d.size (aI #[O,i,P] 154);have yb:=bC.new N 154 #[O,i,P];have u:=aP (And.intro ((bJ.bX g a k).box (J.o.below d).1 (J.o.below d).1.fl (aI #[O,i,P] 154)) (J.o.below C).2);clear d C pc;go_upto_region 9 with(fail)
   generalize N.alloc (aI #[O,i,P] 154)=f at *;generalize N.heap.size=z at *;have A:=yb.cell 1 i rfl;have pt:=u.o.1.pt;unfold pA at pt;clear yb;have Q:aH (∀W,aD f f W->aG prog 210 #[.pointer a.gt, .agg #[e,l,i,true]] W λr w'=>∃(y:En) (b:Bool),r= .returned (.tuple #[.agg #[y.env,y.cY,y.frame,y.write],b, .int .i64 (if lE ⟨e,l,i,true⟩=true then 0 else 1)])/\bJ (Nw (Fb F z) f.heap.size W) w' g a {k with t:=B8 k.t ⟨e,l,i,true⟩}/\Kp (Nw (Fb F z) f.heap.size W) W w'/\w'.cell? (g,1)=some (.pointer a.gt)/\w'.cell? (z,1)=some (.int .i64 i)):=λW X=>by
    obtain⟨G2,ht,back⟩:=(dV.grow (bJ.bX g a k) u.o.1 u.o.1.fl X).tb;refine(OE ht Z.o.t ⟨e,l,i,true⟩).mono ?_;rintro r B ⟨y,bo,rfl,R,S⟩;obtain⟨m,n⟩:=back _ _ R S;exact⟨y,bo,rfl,m,n,m.pt,n.cell (bD X A) (.inl (.inr rfl))⟩
   generalize (if lE ⟨e,l,i,true⟩=true then(0:Int) else 1)=er at *;have T:aH (∀o,aD f f (f.alloc o).drew):=λo=>(aX f o).drew
   have D:g≠f.heap.size:=by have:=u.o.1.bk.lt;omega
   have E:z≠f.heap.size:=by have:=World.block_lt_of_cell? f _ A;simp only at this;omega
   go_region_held3 (λW=>W.cell? (g,1)=some (.pointer a.gt)/\W.cell? (z,1)=some (.int .i64 i)) (first|with_reducible exact⟨‹_›,‹_›⟩|exact⟨by simp only[gN D,gN H];with_reducible assumption,by simp only[gN E,gN I];with_reducible assumption⟩|exact⟨bD (aX f _).drew pt,bD (aX f _).drew A⟩|exact⟨bD (aX _ _) pt,bD (aX _ _) A⟩|exact⟨bD (aX _ _) ‹_›,bD (aX _ _) ‹_›⟩|exact⟨pt,A⟩|fail) ((go_at_call 210;first|((refine aS (Q.o _ (Below.refl _ _).drew) ?_);rintro r B ⟨y,bo,rfl,m,n,U,Y⟩;(have H:g≠B.heap.size:=by have:=m.bk.lt;omega);(have I:z≠B.heap.size:=by have:=World.block_lt_of_cell? B _ Y;simp only at this;omega);(have j:=bH m n);clear m n)|((refine aS (Q.o _ (T.o _)) ?_);rintro r B ⟨y,bo,rfl,m,n,U,Y⟩;(have p:bC B f.heap.size 396 #[aU,aU,aU,false]:=n.aZ (bC.new f 396 #[aU,aU,aU,false]) (.inr ⟨aaH _,(show f.heap.size<(f.alloc (aI #[aU,aU,aU,false] 396)).heap.size by simp)⟩));(have z0:=p.cell 0 _ rfl);(have z1:=p.cell 1 _ rfl);(have z2:=p.cell 2 _ rfl);(have z3:=p.cell 3 _ rfl);(have f0:=p.frozen 0);(have f1:=p.frozen 1);(have f2:=p.frozen 2);(have f3:=p.frozen 3);(have j:=bH m n);(have H:=D);(have I:=E);clear p m n)|fail))
   all_goals
    clear pt A Q Z;go_wp2_with fail
    go_ret
    rw[v.o];first
     |exact⟨rfl,MZ u.o j.o (aX _ _)⟩
     |exact⟨rfl,MZ u.o j.o (aX _ _).drew⟩
     |exact⟨rfl,MZ u.o j.o ((((((aX _ _).setCell (aaH _) _).setCell (aaH _) _).setCell (aaH _) _).setCell (aaH _) _))⟩
     |exact⟨rfl,Rx u.o j.o (aY (aY (aY (aY (bE _ _) 0 _) 1 _) 2 _) 3 _)⟩
     |(trace_state;fail)
 .have hw1':(wr==1)=false:=by simp[M]
  have v:aH (rk=match jY k.c e s 1 1 with
   |none=>(23,k)
   |some h=>(if lE ⟨e,l,h.ob,false⟩ then 0 else 1,{k with t:=B8 k.t ⟨e,l,h.ob,false⟩})):=by unfold aH;rw[L.o];simp only[aaL M,aa0 M]
  have q:=oK K e s 1 1;clear h hw K L;cases hq:jY k.c e s 1 1 with
  |none=>
   rw[hq] at q v;have q:=aP q;clear hq;go_enter func167,ntmps167
   go_wp2_with fail
   refine aR q ?_;rintro r N ⟨rfl,d⟩;simp only[mC,acF];have V:=aP (J.o.below (d.alloc d.size (aI #[aU,aU,aU] 154)));clear d;go_wp2_with fail
   go_ret
   rw[v.o];exact⟨rfl,⟨a,V.o.1⟩,V.o.2⟩
  |some x=>
   rw[hq] at q v;have q:=aP q;clear hq;obtain⟨O,i,P,x4,x5⟩:=x;simp only at v;go_enter func167,ntmps167
   go_wp2_with fail
   refine aR q ?_;rintro r N ⟨rfl,d⟩;simp only[mC,acE];have C:=d.alloc d.size (aI #[O,i,P] 154);have yb:=bC.new N 154 #[O,i,P];have u:=aP (And.intro ((bJ.bX g a k).box (J.o.below d).1 (J.o.below d).1.fl (aI #[O,i,P] 154)) (J.o.below C).2);clear d C pc;go_upto_region 9 with(fail)
   generalize N.alloc (aI #[O,i,P] 154)=f at *;generalize N.heap.size=z at *;have A:=yb.cell 1 i rfl;have pt:=u.o.1.pt;unfold pA at pt;clear yb;have Q:aH (∀W,aD f f W->aG prog 210 #[.pointer a.gt, .agg #[e,l,i,false]] W λr w'=>∃(y:En) (b:Bool),r= .returned (.tuple #[.agg #[y.env,y.cY,y.frame,y.write],b, .int .i64 (if lE ⟨e,l,i,false⟩=true then 0 else 1)])/\bJ (Nw (Fb F z) f.heap.size W) w' g a {k with t:=B8 k.t ⟨e,l,i,false⟩}/\Kp (Nw (Fb F z) f.heap.size W) W w'/\w'.cell? (g,1)=some (.pointer a.gt)/\w'.cell? (z,1)=some (.int .i64 i)):=λW X=>by
    obtain⟨G2,ht,back⟩:=(dV.grow (bJ.bX g a k) u.o.1 u.o.1.fl X).tb;refine(OE ht Z.o.t ⟨e,l,i,false⟩).mono ?_;rintro r B ⟨y,bo,rfl,R,S⟩;obtain⟨m,n⟩:=back _ _ R S;exact⟨y,bo,rfl,m,n,m.pt,n.cell (bD X A) (.inl (.inr rfl))⟩
   generalize (if lE ⟨e,l,i,false⟩=true then(0:Int) else 1)=er at *;have T:aH (∀o,aD f f (f.alloc o).drew):=λo=>(aX f o).drew
   have D:g≠f.heap.size:=by have:=u.o.1.bk.lt;omega
   have E:z≠f.heap.size:=by have:=World.block_lt_of_cell? f _ A;simp only at this;omega
   go_region_held3 (λW=>W.cell? (g,1)=some (.pointer a.gt)/\W.cell? (z,1)=some (.int .i64 i)) (first|with_reducible exact⟨‹_›,‹_›⟩|exact⟨by simp only[gN D,gN H];with_reducible assumption,by simp only[gN E,gN I];with_reducible assumption⟩|exact⟨bD (aX f _).drew pt,bD (aX f _).drew A⟩|exact⟨bD (aX _ _) pt,bD (aX _ _) A⟩|exact⟨bD (aX _ _) ‹_›,bD (aX _ _) ‹_›⟩|exact⟨pt,A⟩|fail) ((go_at_call 210;first|((refine aS (Q.o _ (Below.refl _ _).drew) ?_);rintro r B ⟨y,bo,rfl,m,n,U,Y⟩;(have H:g≠B.heap.size:=by have:=m.bk.lt;omega);(have I:z≠B.heap.size:=by have:=World.block_lt_of_cell? B _ Y;simp only at this;omega);(have j:=bH m n);clear m n)|((refine aS (Q.o _ (T.o _)) ?_);rintro r B ⟨y,bo,rfl,m,n,U,Y⟩;(have p:bC B f.heap.size 396 #[aU,aU,aU,false]:=n.aZ (bC.new f 396 #[aU,aU,aU,false]) (.inr ⟨aaH _,(show f.heap.size<(f.alloc (aI #[aU,aU,aU,false] 396)).heap.size by simp)⟩));(have z0:=p.cell 0 _ rfl);(have z1:=p.cell 1 _ rfl);(have z2:=p.cell 2 _ rfl);(have z3:=p.cell 3 _ rfl);(have f0:=p.frozen 0);(have f1:=p.frozen 1);(have f2:=p.frozen 2);(have f3:=p.frozen 3);(have j:=bH m n);(have H:=D);(have I:=E);clear p m n)|fail))
   all_goals
    clear pt A Q Z;go_wp2_with fail
    go_ret
    rw[v.o];first
     |exact⟨rfl,MZ u.o j.o (aX _ _)⟩
     |exact⟨rfl,MZ u.o j.o (aX _ _).drew⟩
     |exact⟨rfl,MZ u.o j.o ((((((aX _ _).setCell (aaH _) _).setCell (aaH _) _).setCell (aaH _) _).setCell (aaH _) _))⟩
     |exact⟨rfl,Rx u.o j.o (aY (aY (aY (aY (bE _ _) 0 _) 1 _) 2 _) 3 _)⟩
     |(trace_state;fail)
end
section
theorem We{a:Ka}{k:Kv}(h:bJ F w g a k)(hw:KW k)(e:Nat)(he:e<4)(A B C D:Int)(u:Pa.dI 5 A B C D=true):aG prog 119 #[.pointer g,e, .agg #[.int .i64 5,A,B,C,D]] w (dP F g k e 5 A B C D w):=by
 have l:=aP (BxK.new h 5 A B C D);have d:=fK l.o.m (e:Int);rw[gL he] at d;have d:=aP d;have f:=λW=>Pa.dY 5 A B C D W
 rw[u] at f;have f:=aP f;have y:=aP hw;clear h hw u he;go_enter func119,ntmps119
 go_upto_region 3 with(fail)
 generalize w.alloc (aI #[.int .i64 5,A,B,C,D] 281)=w1 at *;generalize w.heap.size=q1 at *;obtain⟨n,p,q,s,t⟩:=l.o.xs;go_wp2_with fail
 refine aR d ?_;rintro r H ⟨rfl,rfl⟩;go_wp2_with fail
 refine aS (f.o _) ?_;rintro r I ⟨rfl,i⟩;have b:=aP (l.o.below i);clear n p q s t d f i l;obtain⟨n,p,q,s,t⟩:=b.o.xs;have j:=Dh b.o.m y.o e A B C;obtain⟨rk,c⟩:∃x,x=qQ k e A B C:=⟨_,rfl⟩
 have v:=aP c;rw[<-c] at j;have j:=aP j;clear c;obtain⟨z,J⟩:=rk;go_wp2_with fail
 refine aR j ?_;rintro r E ⟨rfl,hm,kp⟩;have G:aH (dP F g k e 5 A B C D w (.returned (.tuple #[cO,z])) E):=b.o.uF (by have:=nV.load (k:=k) (e:=e) (op:=5) (A:=A) (B:=B) (C:=C) (D:=D) rfl;rw[<-v.o] at this;exact this) hm kp;clear v;clear j n p q s t;go_wp2_with fail
 go_ret2
 exact G.o
theorem Ja{a:Ka}{k:Kv}(h:bJ F w g a k)(e op A B C D:Int)(he:oZ e=false):aG prog 119 #[.pointer g,e, .agg #[op,A,B,C,D]] w (dP F g k e op A B C D w):=by
 have c:=aP (BxK.new h op A B C D);have b:=fK c.o.m e;rw[he] at b;have b:=aP b;clear h he;go_enter func119,ntmps119
 go_upto_region 3 with(fail)
 generalize w.alloc (aI #[op,A,B,C,D] 281)=w1 at *;generalize w.heap.size=q1 at *;go_wp2_with fail
 refine aR b ?_;rintro r f ⟨rfl,rfl⟩;have d:aH (dP F g k e op A B C D w (.returned (.tuple #[cO, .int .i64 1])) w1):=⟨0,1,k, .inr ⟨rfl,rfl,rfl⟩,rfl,c.o.o.1,c.o.o.2⟩
 clear c b;go_wp2_with fail
 go_ret2
 exact d.o
theorem Cb{a:Ka}{k:Kv}(h:bJ F w g a k)(e:Nat)(he:e<4)(op A B C D:Int)(j:Pa.dI op A B C D=false):aG prog 119 #[.pointer g,e, .agg #[op,A,B,C,D]] w (dP F g k e op A B C D w):=by
 have i:=aP (BxK.new h op A B C D);have c:=fK i.o.m (e:Int);rw[gL he] at c;have c:=aP c;have d:=λW=>Pa.dY op A B C D W
 rw[j] at d;have d:=aP d;clear h j he;go_enter func119,ntmps119
 go_upto_region 3 with(fail)
 generalize w.alloc (aI #[op,A,B,C,D] 281)=w1 at *;generalize w.heap.size=q1 at *;obtain⟨l,n,p,q,s⟩:=i.o.xs;go_wp2_with fail
 refine aR c ?_;rintro r v ⟨rfl,rfl⟩;go_wp2_with fail
 refine aS (d.o _) ?_;rintro r t ⟨rfl,f⟩;have b:=i.o.below f;have u:aH (dP F g k e op A B C D w (.returned (.tuple #[cO, .int .i64 1])) t):=⟨0,1,k, .inr ⟨rfl,rfl,rfl⟩,rfl,b.o.1,b.o.2⟩
 clear l n p q s c d f i b;go_wp2_with fail
 go_ret2
 exact u.o
theorem Jo{A B C D:Int}(h:Pa.dI op A B C D=true):(0<=op/\op<=19)/\0<=A:=by
 unfold Pa.dI at h;simp only[abJ,afE] at h;obtain⟨⟨⟨⟨a,h1⟩,_⟩,_⟩,_⟩:=h;refine⟨a,?_⟩;unfold Pa.kT at h1;split at h1
 .have:=acC h1;exact this.1
 .rw[beq_iff_eq] at h1;omega
theorem Nv{a:Ka}{k:Kv}(h:bJ F w g a k)(hw:KW k)(f:k.n+1<=1000000)(e op A B C D:Int):aG prog 119 #[.pointer g,e, .agg #[op,A,B,C,D]] w (dP F g k e op A B C D w):=by
 cases he:oZ e with
 |false=>exact Ja h e op A B C D he
 |true=>
  have d:=acC he;obtain⟨n,rfl⟩:=aaO d.1;have b:n<4:=aQ;cases c:Pa.dI op A B C D with
  |false=>exact Cb h n b op A B C D c
  |true=>
   obtain⟨⟨j,i⟩,_⟩:=Jo c;rcases(by omega:op=0\/op=1\/op=2\/op=3\/op=4\/op=5\/op=6\/op=7\/op=8\/op=9\/op=10\/op=11\/op=12\/op=13\/op=14\/op=15\/op=16\/op=17\/op=18\/op=19) with rfl|rfl|rfl|rfl|rfl|rfl|rfl|rfl|rfl|rfl|rfl|rfl|rfl|rfl|rfl|rfl|rfl|rfl|rfl|rfl
   .exact Vr h hw n b A B C D c
   .exact Ux h hw n b A B C D c
   .exact Vd h hw n b A B C D c
   .exact Uq h hw n b A B C D c
   .exact Vt h hw n b A B C D c
   .exact We h hw n b A B C D c
   .exact Ur h hw n b A B C D c
   .exact Vo h hw n b A B C D c
   .exact Vu h hw n b A B C D c
   .exact Vi h hw n b A B C D c
   .exact Qp h hw n b A B C D c
   .exact Qv h hw n b A B C D c
   .exact Sy h hw n b A B C D c
   .exact Um h hw n b A B C D c
   .exact Te h hw f n b A B C D c
   .exact Ss h hw n b A B C D c
   .exact Uj h hw n b A B C D c
   .exact Qy h hw n b A B C D c
   .exact Ud h hw n b A B C D c
   .exact Rq h hw n b A B C D c
end
end
end Go.Proofs.YtacgiflhgdaeaaaGreat
