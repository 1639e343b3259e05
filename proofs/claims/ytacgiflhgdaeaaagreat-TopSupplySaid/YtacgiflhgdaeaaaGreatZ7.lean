/- Texts laid as one. -/
import Derived.Test.YtacgiflhgdaeaaaGreatZ1
import Derived.Test.YtacgiflhgdaeaaaGreatZ6
set_option linter.unusedVariables false
set_option linter.unusedSimpArgs false
set_option maxRecDepth 100000
set_option maxHeartbeats 20000000
namespace Go.Proofs.YtacgiflhgdaeaaaGreat
open Go.Proofs.Tryz
open Go renaming World->aA,Value->aC,Addr->aJ,TypeId->aN,Calls->aG
open Go.RowKit renaming Below->aD,Hid->aH,intOf->aL
open Go.Obj renaming cells->aI
section
open Go.RowKit Go.Lib Go.Shelf
variable{A6 B:Option aJ}{m g n d:Nat}{F:Nat->Prop}{w:aA}{tu:Int}{M:Option Nat}
section
theorem Rv:jM prog 182 331 2 16:=gA (z:= .agg #[cO,aU]) underlying182 aV (by simp[Value.cells]) aQ
section
variable{F:Nat->Prop}{w w' w5:aA}{g n c d:Nat}{E B:Option aJ}{nw tu:Int}{M:Option Nat}{b:Bs}
theorem fY.Yy(h:fY F w g E n c b M B d nw tu)(a:w.grownBy w' (aZ B)):Jt LA w' M b.f:=⟨h.mp.1,λr i=>by
 cases j:aZ B with
 |none=>rw[j] at a;exact(h.mp.2 r i).same (a.block r (h.mp.2 r i).lt aT)
 |some q=>
  rw[j] at a;refine(h.mp.2 r i).mG a (λe=>?_);obtain⟨cs,h1⟩:=yV h.oB q j;exact zI (h.mp.2 r i) h1 e⟩
theorem fY.Xl{c6:Nat}{x:Bk}(h:fY F w g E n c b M B d nw tu)(hm:m=b.L.length)(a:bB UW 2 w5 (g+1) 331 A6 c6 (b.L++ [x]))(j:w.grownBy w5 (aZ B))(k:aZ A6=aZ B\/aZ A6=some w.heap.size):
 fY F (w5.setCell (g,4) (.slice A6 (m+1) c6)) g E n c {b with L:=b.L++ [x]} M A6 c6 nw tu/\Kp F w (w5.setCell (g,4) (.slice A6 (m+1) c6)):=by
 have l:Kp F w w5:=Kp.grown j λb o=>⟨h.fl b o,λe=>h.fB b e.symm o⟩
 have p:=h.b.grown j (λe=>by have:=(h.oB.lt g e.symm).1;omega);have f:=aY (bE w5 g) 4 (.slice A6 (m+1) c6);have s:=(h.fl.kp l).self h.fg f;have i:=h.Yy j;refine⟨⟨?_,a.kept f (tL a),⟨i.1,λr t=>(i.2 r t).mG f (zI (i.2 r t) p)⟩,(h.fl.kp l).kp s,h.fg,λq hq hF=>?_,h.fM⟩,l.trans s⟩
 .have:=p.bQ 4 (.slice A6 (m+1) c6);subst hm;simpa[ID] using this
 .rcases k with e|e
  .exact h.fB q (e ▸ hq) hF
  .rw[e] at hq;injection hq with hq;have:=h.fl q hF;omega
theorem fY.Yp{c6:Nat}{R:List Bk}(h:fY F w g E n c b M B d nw tu)(hm:m=R.length)(a:bB UW 2 w (g+1) 331 A6 c6 R)(f:∀q,aZ A6=some q->¬F q):
 fY F (w.setCell (g,4) (.slice A6 m c6)) g E n c {b with L:=R} M A6 c6 nw tu/\Kp F w (w.setCell (g,4) (.slice A6 m c6)):=by
 have e:=aY (bE w g) 4 (.slice A6 m c6);have i:=h.fl.self h.fg e;refine⟨⟨?_,a.kept e (tL a),⟨h.mp.1,λr j=>(h.mp.2 r j).mG e (zI (h.mp.2 r j) h.b)⟩,h.fl.kp i,h.fg,f,h.fM⟩,i⟩;have:=h.b.bQ 4 (.slice A6 m c6);subst hm;simpa[ID] using this
end
theorem RT{c:Nat}{E:Option aJ}{nw:Int}{b:Bs}(h:fY F w g E n c b M B d nw tu)(A:uA b)(a i:Int)(hl:b.L.length<=2000000):
 aG prog 100 #[.pointer (some ⟨g,1,none⟩),a,i] w λe w'=>e= .returned (.int .i64 (CT b a))/\(∃M B d,fY F w' g E n c (pL b a i) M B d nw tu)/\Kp F w w':=by
 have j:=aP (R0 h a);cases l:b.f a with
 |none=>
  have G:aH (CT b a=6/\pL b a i=b):=by unfold aH CT pL;rw[l];exact⟨rfl,rfl⟩
  rw[l] at j;have t:=aP h;clear h A l;generalize pL b a i=R at *;generalize CT b a=W at *;go_enter func100,ntmps100
  go_wp2_with fail
  refine aR j ?_;rintro e X ⟨rfl,rfl⟩;go_wp2_with fail
  go_ret
  exact⟨by rw[G.o.1];rfl,by rw[G.o.2];exact⟨_,_,_,t.o⟩,Kp.refl _ _⟩
 |some s=>
  have G:aH (CT b a=0):=by unfold aH CT;rw[l];rfl
  have u:aH (pL b a i=if b.bn<i then {b with f:=fZ b.f a none,L:=b.L++ [⟨s,i⟩]} else {b with f:=fZ b.f a none,us:=b.us - s}):=by unfold aH pL;rw[l]
  rw[l] at j;obtain⟨r,rfl⟩:∃r,M=some r:=by
   cases M with
   |none=>have:=h.mp.1 rfl a;rw[l] at this;cases this
   |some r=>exact⟨r,rfl⟩
  have hs:=A.nn a s l;have T:=Pf A.nn l;have U:=yJ A.pn;have H:=A.all;have I:=A.top;have p:=wQ underlying181 underlying3 (JS w) (h.mp.2 r rfl) a false;rw[l] at p;simp only[abL,LA,afK,abB,ab4] at p;obtain⟨x,J,K,Y⟩:∃x,gV LA x r (fZ b.f a none)/\w.grownBy x (some r)/\aH (∀ty,(Builtin.delete_ #[181,3] ty #[.map (some r),a]).run prog w= .ok (.tuple #[]) x):=by
   obtain⟨x,h1,h2,h3⟩:=AU underlying181 underlying3 (h.mp.2 r rfl) a 0;exact⟨x,h2,h3,λty=>h1⟩
  have Z:=Y.o;have c3:=h.b.cell 3 (.map (some r)) rfl;obtain⟨m7,k7⟩:=h.map J K;have c1:=m7.b.cell 1 b.bn rfl;have N:b.us - s<=4294967296:=aQ;have O:0<=b.us - s:=aQ;have z1:IntKind.u64.wrap (b.us - s)=b.us - s:=by rw[IntKind.wrap_u64];omega
  have t:=bH m7 k7;clear h A l U H I T J K m7 k7 Y;generalize pL b a i=R at *;generalize CT b a=W at *;by_cases S:b.bn<i
  .have y:aH (R={b with f:=fZ b.f a none,L:=b.L++ [⟨s,i⟩]}):=by have:=u.o;rw[aaK S] at this;exact this
   clear u z1 N O;have c4:=t.o.1.b.cell 4 (.slice B b.L.length d) rfl;obtain⟨m,hm⟩:∃m,m=b.L.length:=⟨_,rfl⟩
   try simp only at c4
   rw[<-hm] at c4 hl;have HN:=aP hm;clear hm;obtain⟨bn,q⟩:∃bn,bn=b.bn:=⟨_,rfl⟩
   rw[<-q] at c1 S;clear q;go_enter func100,ntmps100
   go_wp2_with fail
   refine aR j ?_;rintro e X ⟨rfl,rfl⟩;have m8:=t.o.1.keep (aX x (aI #[.int .u64 s,i] 331));have k:=aP (And.intro m8 (t.o.2.trans (t.o.1.fl.below (aX x (aI #[.int .u64 s,i] 331)))));clear m8;go_wp2_with(at_builtin;refine bN _ rfl _ _ rfl Rv BF k.o.1.oB (n:=m) HN.o.symm rfl (m:=1) rfl (ys:= [⟨s,i⟩]) rfl (Sl.new BF x ⟨s,i⟩ _ rfl _) dT aQ (by have:=k.o.1.b.lt;omega) _ rfl (m+1) rfl ?_;intro A6 c6 w6 z C P;(have V:=(k.o.1.b.grown C (λe=>by have:=(k.o.1.oB.lt g e.symm).1;omega)));(have f6:=V.frozen 4);(have d6:=V.cell 4 _ rfl);(have D:=aP (k.o.1.Xl HN.o z C P));clear V z C P)
   have HR:aH (Ending.returned (.int .i64 0)=Ending.returned (.int .i64 W)/\(∃M B d,fY F (w6.setCell (g,4) (.slice A6 (m+1) c6)) g E n c R M B d nw tu)/\Kp F w (w6.setCell (g,4) (.slice A6 (m+1) c6))):=
    ⟨by rw[G.o],by rw[y.o];exact⟨_,_,_,D.o.1⟩,k.o.2.trans D.o.2⟩
   exact bodyPost_ret (v:= .int .i64 0) (by simp[results,results100,go_sem]) rfl HR.o
  .have y:aH (R={b with f:=fZ b.f a none,us:=b.us - s}):=by have:=u.o;rw[aaL S] at this;exact this
   clear u;have c2:=t.o.1.b.cell 2 (.int .u64 b.us) rfl;have f2:=t.o.1.b.frozen 2;have D:=aP (t.o.1.YG (b.us - s));obtain⟨bn,q⟩:∃bn,bn=b.bn:=⟨_,rfl⟩
   rw[<-q] at c1 S;clear q;obtain⟨us,Q⟩:∃us,us=b.us:=⟨_,rfl⟩
   rw[<-Q] at c2 z1 N O D y;clear Q;go_enter func100,ntmps100
   go_wp2_with fail
   refine aR j ?_;rintro e X ⟨rfl,rfl⟩;go_wp2_with fail
   go_ret
   exact⟨by rw[G.o];rfl,by rw[y.o];exact⟨_,_,_,D.o.1⟩,t.o.2.trans D.o.2⟩
end
variable{r:Option Nat}
section
structure Xh(F:Nat->Prop)(H g:Nat)(B:Option aJ)(M:Option Nat):Prop where
 g:g<H
 B:∀q,aZ B=some q->q<H
 M:∀r,M=some r->r<H
 F:∀b,F b->b<H
section
variable{F:Nat->Prop}{w w' w5:aA}{g n c d H:Nat}{E B:Option aJ}{nw tu:Int}{M:Option Nat}{b:Bs}
theorem fY.lo(h:fY F w g E n c b M B d nw tu):Xh F w g B M:=⟨h.b.lt,λq hq=>(h.oB.lt q hq).2,λr a=>(h.mp.2 r a).lt,h.fl⟩
theorem fY.beside(h:fY F w g E n c b M B d nw tu)(a:w.grownBy w' r)(l:Xh F H g B M)(f:∀q,r=some q->H<=q):fY F w' g E n c b M B d nw tu/\Kp F w w':=by
 have k:Kp F w w':=Kp.grown a λb i=>⟨h.fl b i,λe=>by have:=f b e.symm;have:=l.F b i;omega⟩
 refine⟨⟨h.b.grown a (λe=>by have:=f g e.symm;have:=l.g;omega),h.oB.kept a ?_,⟨h.mp.1,λq hq=>(h.mp.2 q hq).same (a.block q (h.mp.2 q hq).lt (λe=>by have:=f q e.symm;have:=l.M q hq;omega))⟩,h.fl.kp k,h.fg,h.fB,h.fM⟩,k⟩;cases i:aZ B with
 |none=>exact .inl rfl
 |some q=>right;intro e;have:=f q e.symm;have:=l.B q i;omega
end
theorem RL(now:Int){l:List Bk}(h:∀p∈l,0<=p.sh)(j:Nat):gF (lJ now (l.take j))<=gF l:=by
 have h1:=DF now (l.take j);have e:0<=gF (pG now (l.take j)):=yJ λp hp=>h p (aeR (acW.1 hp).1)
 have f:gF l=gF (l.take j)+gF (l.drop j):=by
  have a:gF (l.take j++l.drop j)=gF (l.take j)+gF (l.drop j):=by simp[gF, -List.take_append_drop]
  rw[List.take_append_drop] at a;exact a
 have i:0<=gF (l.drop j):=yJ λp hp=>h p (afM hp)
 omega
structure YF(F:Nat->Prop)(w wr:aA)(g:Nat)(E:Option aJ)(n c:Nat)(b:Bs)(M:Option Nat)(B:Option aJ)(d:Nat)(nw tu now us:Int)(k:Nat)(A:Option aJ)(c6:Nat)(R:List Bk):Prop where
 m:fY F wr g E n c {b with bn:=now,us:=us} M B d nw tu
 o:bB UW 2 wr w.heap.size 331 A c6 R
 kp:Kp F w wr
 eR:R=pG now (b.L.take k)
 eu:us=b.us - gF (lJ now (b.L.take k))
 sz:w.heap.size<=wr.heap.size
theorem PT{c:Nat}{E:Option aJ}{nw:Int}{b:Bs}(h:fY F w g E n c b M B d nw tu)(hb:uA b)(now:Int)(hl:b.L.length<=2000000):
 aG prog 111 #[.pointer (some ⟨g,1,none⟩),now] w λe w'=>(∃v:Int,e= .returned (.int .i64 v))/\(∃M B d,fY F w' g E n c (jZ b now) M B d nw tu)/\Kp F w w':=by
 have c1:=h.b.cell 1 b.bn rfl;have f1:=h.b.frozen 1;obtain⟨bn,T⟩:∃bn,bn=b.bn:=⟨_,rfl⟩
 rw[<-T] at c1;have HBN:=aP T;clear T;by_cases hn:now<bn
 .have U:aH (jZ b now=b):=by unfold aH jZ;rw[aaK (by rw[<-HBN.o];exact hn)]
  have HM:=aP h;clear h hb;generalize jZ b now=b' at *;go_enter func111,ntmps111
  go_wp2_with fail
  go_ret
  exact⟨⟨0,rfl⟩,by rw[U.o];exact⟨_,_,_,HM.o⟩,Kp.refl _ _⟩
 .have U:aH (jZ b now={b with bn:=now,us:=b.us - gF (lJ now b.L),L:=pG now b.L}):=by unfold aH jZ;rw[aaL (by rw[<-HBN.o];exact hn)]
  obtain⟨m1,k1⟩:=h.Vn now;have G:=aP h.lo;have t:=aP hb;have c4:=m1.b.cell 4 (.slice B b.L.length d) rfl;obtain⟨m,hm⟩:∃m,m=b.L.length:=⟨_,rfl⟩
  rw[<-hm] at c4 hl;have HN:=aP hm;have H1:aH (YF F w (w.setCell (g,1) now) g E n c b M B d nw tu now b.us 0 none 0 []):=⟨m1,bB.nil _ _ _,k1,rfl,by simp[lJ,gF],k1.size⟩
  clear h hb m1 k1 hm;generalize jZ b now=b' at *;go_enter func111,ntmps111
  go_upto_region 4 with(fail)
  generalize w.setCell (g,1) now=w1 at *;clear c1 f1;go_wp2_with fail
  go_loopw [5,6,8,28] (λv5 v6 _ v28 wr=>∃(k:Nat) (V us:Int) (A:Option aJ) (c6 r:Nat) (R:List Bk),v5= .int .i64 V/\v6= .slice A r c6/\v28= .int .i64 k/\k<=m/\0<=V/\V<=k/\r<=k/\aH (r=R.length)/\aH (YF F w wr g E n c b M B d nw tu now us k A c6 R)) (λ_ _ _ v28 _=>m - (aL v28).toNat)
  case atStart=>exact⟨0,0,b.us,none,0,0, [],rfl,rfl,rfl,aaQ _,aQ,aQ,aaH _,rfl,H1⟩
  case round=>
   clear H1 c4;obtain⟨k,V,us,A,c6,r,R,rfl,rfl,rfl,hk,hg0,hg1,hrk,I,a⟩:=hrel;by_cases hkm:k<m
   .have f:k<b.L.length:=by rw[<-HN.o];exact hkm
    obtain⟨q,rfl⟩:∃q,B=some ⟨q,0,none⟩:=by
     rcases a.o.m.oB.shape with⟨_,h2,_⟩|h2
     .simp only at h2;rw[h2] at f;simp at f
     .exact h2
    have e0:=bG BF a.o.m.oB (i:=k) f (j:=0) (v:= .int .u64 b.L[k].sh) rfl;have e1:=bG BF a.o.m.oB (i:=k) f (j:=1) (v:= .int .i64 b.L[k].un) rfl;rw[aa3] at e0;have hy:=t.o.pn _ (aaM f);have hle:=RL now t.o.pn (k+1);have l:=WB now (b.L.take k) b.L[k];have u:=W3 now (b.L.take k) b.L[k];have x:b.L.take (k+1)=b.L.take k++ [b.L[k]]:=by rw[abN,aaG f];rfl
    rw[<-x] at l u;have O:=t.o.all;have hsF:=UR t.o.nn;have P:=t.o.top;have W:=a.o.eu;have J:=a.o.eR;obtain⟨y,X⟩:∃y,y=b.L[k]:=⟨_,rfl⟩
    rw[<-X] at e0 e1 hy l u;have i0:(0:Int)<=k:=aQ;have i1:(k:Int)<(m:Int):=aQ;have s:=aP (aX wr (aI #[.int .u64 y.sh,y.un] 331));have yb:=bC.new wr 331 #[.int .u64 y.sh,y.un];have m2:=a.o.m.keep s.o;have o2:=a.o.o.keep s.o;have k2:=a.o.kp.trans (a.o.m.fl.below s.o);by_cases hu:y.un<=now
    .have hgs:gF (lJ now (b.L.take (k+1)))=gF (lJ now (b.L.take k))+y.sh:=by rw[l,aaK hu,NF]
     have hge:0<=us - y.sh:=aQ;have hlt:us - y.sh<=4294967296:=by
      have:0<=gF (lJ now (b.L.take k)):=yJ λp hp=>t.o.pn p (aeR (acW.1 hp).1)
      omega
     have HA:aH (us - y.sh=b.us - gF (lJ now (b.L.take (k+1)))/\R=pG now (b.L.take (k+1))):=⟨aQ,by rw[u,aaK hu,acX];exact J⟩
     have z1:IntKind.u64.wrap (us - y.sh)=us - y.sh:=by rw[IntKind.wrap_u64];omega
     have c2:=m2.b.cell 2 (.int .u64 us) rfl;have D:=cZ m2 o2 k2;have lF:w.heap.size<=(wr.alloc (aI #[.int .u64 y.sh,y.un] 331)).heap.size:=aaR a.o.sz s.o.size;have Y:=aP lF;clear hgs l u x O hsF P W J X hle m2 o2 k2 a f lF;go_upto_region 11 with(fail)
     clear e0 e1 s;generalize wr.alloc (aI #[.int .u64 y.sh,y.un] 331)=w3 at *;generalize wr.heap.size=yq at *;have x0:=yb.cell 0 (.int .u64 y.sh) rfl;clear yb;have K:=bF x0;have N:=bF c2;refine bS (bV _) (λ_=>bV) [] (λ_ _ _=>True) [9] [] 57 (cM _) (λ_ _ _ h hz=>bZ h hz) (λ_ d hd _ v w w' _ h hz=>by cases hd) aV aV bK ?_;repeat refine fQ ?_
     refine eL ?_;intro γ w5 z hT;clear K N;simp only[dG,Act.put,aaI,aaP,aaN];refine eT ?_;have m5:=D.o.1.keep z;have o5:=D.o.2.1.keep z;have k5:=D.o.2.2.trans (D.o.1.fl.below z);refine dU w5 rfl 75 _ _ rfl g 2 (.int .u64 (us - y.sh)) rfl rfl aV rfl (m5.b.one (by simp[ID])) ?_;refine cP ?_;try simp only[Act.put]
     obtain⟨m6,k6⟩:=m5.YG (us - y.sh);have o6:=o5.kept (aY (bE w5 g) 2 (.int .u64 (us - y.sh))) (o5.ne (p:=⟨g,2,none⟩) (B:=w.heap.size) G.o.g (aaH _));have HF:aH (YF F w (w5.setCell (g,2) (.int .u64 (us - y.sh))) g E n c b M (some ⟨q,0,none⟩) d nw tu now (us - y.sh) (k+1) A c6 R):=⟨m6,o6,k5.trans k6,HA.o.2,HA.o.1,aaR Y.o (aaR z.size k6.size)⟩
     clear m5 o5 k5 m6 k6 o6 hT z c2 x0;go_wp2_with fail
     go_roundw
     case rel=>exact⟨k+1,V+1,us - y.sh,A,c6,r,R,by go_num,rfl,by go_num,aQ,aQ,aQ,aQ,I,HF⟩
     case measure=>simp[aL];omega
    .have HA:aH (us=b.us - gF (lJ now (b.L.take (k+1)))/\R++ [y]=pG now (b.L.take (k+1))):=⟨by rw[l,aaL hu,acX];exact W,by rw[u,aaL hu];rw[J]⟩
     have hus0:0<=us:=by
      have:gF (lJ now (b.L.take (k+1)))=gF (lJ now (b.L.take k)):=by rw[l,aaL hu,acX]
      omega
     have Y:aH (w.heap.size<=(wr.alloc (aI #[.int .u64 y.sh,y.un] 331)).heap.size):=aaR a.o.sz s.o.size;have D:=cZ m2 o2 k2;clear l u x O hsF P W J X hle m2 o2 k2 a f hus0;go_upto_region 12 with(fail)
     clear e0 e1 s;generalize wr.alloc (aI #[.int .u64 y.sh,y.un] 331)=w3 at *;generalize wr.heap.size=yq at *;have x0:=yb.cell 0 (.int .u64 y.sh) rfl;have x1:=yb.cell 1 y.un rfl;clear yb;have C:=aX w3 (aI #[.int .u64 y.sh,y.un] 331);have H4:=cZ (D.o.1.keep C) (D.o.2.1.keep C) (D.o.2.2.trans (D.o.1.fl.below C));have Q:aH (w.heap.size<=(w3.alloc (aI #[.int .u64 y.sh,y.un] 331)).heap.size):=aaR Y.o C.size;clear C;go_wp2_with(at_builtin;refine bN _ rfl _ _ rfl Rv BF H4.o.2.1 (n:=r) I.o.symm rfl (m:=1) rfl (ys:= [y]) rfl (Sl.new BF w3 y _ rfl _) dT aQ Q.o _ rfl (r+1) rfl ?_;intro A6 c7 w6 S Z at6;(have a1:=H4.o.1.beside Z G.o (λq hq=>(H4.o.2.1.lt q hq).1));(have HF:aH (YF F w w6 g E n c b M (some ⟨q,0,none⟩) d nw tu now us (k+1) A6 c7 (R++ [y])):=⟨a1.1,S,H4.o.2.2.trans a1.2,HA.o.2,HA.o.1,aaR Q.o Z.size⟩);clear S Z at6 a1 H4 D)
     go_roundw
     case rel=>exact⟨k+1,V,us,A6,c7,r+1,R++ [y],rfl,rfl,by go_num,aQ,aQ,aQ,aQ,by show r+1=(R++ [y]).length;rw[aaT,<-I.o];rfl,HF⟩
     case measure=>simp[aL];omega
   .obtain rfl:k=m:=aQ;have i1:¬(k:Int)<(k:Int):=aQ;have x:b.L.take k=b.L:=aa7 (by rw[<-HN.o];exact aaH _);have f4:=a.o.m.b.frozen 4;have c4:=a.o.m.b.cell 4 (.slice B b.L.length d) rfl;have HF:=aP (a.o.m.Yp (A6:=A) (c6:=c6) I.o (a.o.o.from_ (by have:=G.o.g;omega)) (λq hq hF=>by have:=(a.o.o.lt q hq).1;have:=G.o.F q hF;omega));have HB3:aH (b'={b with bn:=now,us:=us,L:=R}):=by unfold aH;rw[U.o,a.o.eu,a.o.eR,x]
    have HK:=aP (a.o.kp.trans HF.o.2);clear a x;go_wp2_with fail
    go_ret
    exact⟨⟨V,rfl⟩,by rw[HB3.o];exact⟨_,_,_,HF.o.1⟩,HK.o⟩
end
end
variable{e bu pe:Int}
section
section
structure mE(T:Int)(s:Sv):Prop where
 b:qE s
 rp:∀r∈s.rf,1<=r.am/\r.at_<=T+s.pe
 cd:∀x∈s.ch,x.de<=T+s.pe
 ro:s.rf.Pairwise λx y=>x.at_<=y.at_
 nw:0<=s.nw/\s.nw<=T
 cg:0<=s.cg/\s.cg<=T
theorem mE.mono{T:Int}{s:Sv}(h:mE T s)(d:T<=e):mE e s:=
 ⟨h.b,λr a=>⟨(h.rp r a).1,by have:=(h.rp r a).2;omega⟩,λx c=>by have:=h.cd x c;omega,h.ro,⟨h.nw.1,by have:=h.nw.2;omega⟩,⟨h.cg.1,by have:=h.cg.2;omega⟩⟩
def lK(bu pe:Int):Sv:=⟨bu,pe,0,bu, [], [],0⟩
theorem mE.new{T:Int}(h:1<=bu/\bu<=pe/\pe<=1048576)(a:0<=T):mE T (lK bu pe):=by
 refine⟨⟨?_,?_,?_,?_,h,?_,?_⟩,?_,?_,?_,⟨?_,a⟩,⟨?_,a⟩⟩ <;> simp[lK,mM,lA]
 omega
theorem Ij{l:List Ck}(h:∀x∈l,1<=x.lf/\0<=x.us):(l.length:Int)<=mM l:=by
 induction l with
 |nil=>simp[mM]
 |cons r l a=>
  have:=h r aT;have:=a λr b=>h r (by simp[b])
  rw[kP];simp only[abM];omega
theorem Hn{l:List Rl}(h:∀r∈l,1<=r.am):(l.length:Int)<=lA l:=by
 induction l with
 |nil=>simp[lA]
 |cons r l a=>
  have:=h r aT;have:=a λr b=>h r (by simp[b])
  rw[rN];simp only[abM];omega
theorem mE.len{T:Int}{s:Sv}(h:mE T s):s.rf.length+s.ch.length<=1048576:=by
 have h1:=Ij h.b.ch;have c:=Hn λr a=>(h.rp r a).1
 have:=h.b.all;have:=h.b.bu;have:=h.b.av;omega
theorem wP(now:Int):∀(l:List Rl) (av:Int),(jL now av l).2<:+l
 | [],_=>List.suffix_refl _
 |r::l,av=>by
  unfold jL;split
  .exact(wP now l _).trans (List.suffix_cons r l)
  .exact List.suffix_refl _
def AB(s:Sv):Bool:=!s.rf.isEmpty || s.ch.any λx=>decide (0<x.us)
theorem uJ{s:Sv}(h:AB s=false):s.rf= []/\∀x∈s.ch,¬0<x.us:=by
 unfold AB at h;rw[Bool.or_eq_false_iff] at h;refine⟨by simpa using h.1,λx a hu=>?_⟩;have:=List.any_eq_false.1 h.2 x a;simp[hu] at this
theorem yY{s:Sv}(h:s.rf= [])(a:∀x∈s.ch,¬0<x.us):AB s=false:=by
 unfold AB;rw[h,Bool.or_eq_false_iff];exact⟨rfl,List.any_eq_false.2 λx b=>by simp;have:=a x b;omega⟩
theorem DN{T:Int}(bu pe:Int):∀(l:List Ck) (s:Sv),0<=s.av->(∀x∈l,1<=x.lf/\0<=x.us/\x.de<=T+pe)->(∀r∈s.rf,1<=r.am/\r.at_<=T+pe)->s.rf.Pairwise (λx y=>x.at_<=y.at_)->l.Pairwise (λx y=>x.de<=y.de)->(∀r∈s.rf,∀x∈l,r.at_<=x.de)->s.av+mM l+lA s.rf=bu->
 0<=(l.foldl dS s).av/\(∀r∈(l.foldl dS s).rf,1<=r.am/\r.at_<=T+pe)/\(l.foldl dS s).rf.Pairwise (λx y=>x.at_<=y.at_)/\(l.foldl dS s).av+lA (l.foldl dS s).rf=bu/\(l.foldl dS s).bu=s.bu/\(l.foldl dS s).pe=s.pe/\(l.foldl dS s).nw=s.nw/\(l.foldl dS s).cg=s.cg/\((s.rf= []/\∀x∈l,¬0<x.us)->(l.foldl dS s).rf= [])
 | [],s,h1,_,f,g,_,_,i=>⟨h1,f,g,by simpa[mM] using i,rfl,rfl,rfl,rfl,λh=>h.1⟩
 |x::l,s,h1,h2,f,g,h5,j,i=>by
  have q:=h2 x aT;rw[kP] at i;have e:=ac2.1 h5;rw[ac7];by_cases hu:x.us=0
  .have k:dS s x={s with av:=s.av+x.lf}:=by unfold dS gU;rw[aaK hu]
   rw[k];obtain⟨m,a2,a3,a4,a5,n,o,p,a9⟩:=DN bu pe l {s with av:=s.av+x.lf} (by simp only;omega) (λy d=>h2 y (by simp[d])) f g e.2 (λr c y d=>j r c y (by simp[d])) (by simp only;omega);exact⟨m,a2,a3,a4,a5,n,o,p,λh=>a9 ⟨h.1,λy d=>h.2 y (by simp[d])⟩⟩
  .have k:dS s x={s with av:=s.av+x.lf,rf:=s.rf++ [⟨x.de,x.us⟩]}:=by unfold dS gU;rw[aaL hu]
   rw[k];obtain⟨m,a2,a3,a4,a5,n,o,p,a9⟩:=DN (T:=T) bu pe l {s with av:=s.av+x.lf,rf:=s.rf++ [⟨x.de,x.us⟩]} (by simp only;omega) (λy d=>h2 y (by simp[d])) (λr c=>by
    rcases aa8.1 c with c|c
    .exact f r c
    .rw[aaZ.1 c];exact⟨by simp only;omega,q.2.2⟩) (abH.2 ⟨g,ac8 _ _,λa t b u=>by rw[aaZ.1 u];exact j a t x aT⟩) e.2 (λr c y d=>by
    rcases aa8.1 c with c|c
    .exact j r c y (by simp[d])
    .rw[aaZ.1 c];exact e.1 y d) (by simp only;rw[F4];simp only;omega)
   exact⟨m,a2,a3,a4,a5,n,o,p,λh=>absurd (show 0<x.us by omega) (h.2 x aT)⟩
theorem mE.pop{T:Int}{s:Sv}(h:mE T s)(c:0<=T):mE T (iN T s):=by
 have hs:=wP T s.rf s.av;have hm:∀r∈(jL T s.av s.rf).2,r∈s.rf:=λr a=>hs.subset a
 exact⟨h.b.pop T,λr a=>h.rp r (hm r a),h.cd,h.ro.sublist hs.sublist,⟨c,ab0 _⟩,h.cg⟩
theorem mE.begin{T:Int}{s:Sv}(h:mE T s)(n:0<=T)(rd:Bool):mE T (dE s T rd)/\(dE s T rd).nw=T/\(AB s=false->AB (dE s T rd)=false)/\(dE s T rd).bu=s.bu/\(dE s T rd).pe=s.pe:=by
 have hp:=h.pop n;have f:=wP T s.rf s.av;have hu:AB s=false->(iN T s).rf= []:=λhu=>by
  have h1:=(uJ hu).1;have k:(iN T s).rf<:+s.rf:=f;rw[h1] at k;exact List.suffix_nil.1 k
 have i:=hp.b.av;have g:=hp.b.all;unfold dE;cases rd with
 |false=>
  simp only[abB,ab4];obtain⟨o,a2,a3,a4,a5,j,l,p,a9⟩:=DN (T:=T) s.bu s.pe s.ch (iN T s) i (λx c=>⟨(hp.b.ch x c).1,(hp.b.ch x c).2,hp.cd x c⟩) hp.rp hp.ro hp.b.ord hp.b.AF g;refine⟨⟨⟨o,aT,λr e=>by have:=(a2 r e).1;omega,by simp only[mM,ae9,List.sum_nil,afQ];rw[a4,a5];rfl,by simp only;rw[a5,j];exact hp.b.bu,aT,aT⟩,λr e=>by simp only;rw[j];exact a2 r e,aT,a3,by simp only;rw[l];exact hp.nw,by simp only;rw[p];exact hp.cg⟩,l,λd=>yY (a9 ⟨hu d,λx c=>(uJ d).2 x c⟩) aT,a5,j⟩
 |true=>
  simp only[acY];split
  .rename_i m;refine⟨⟨⟨?_,?_,hp.b.rf,?_,hp.b.bu,?_,?_⟩,hp.rp,?_,hp.ro,hp.nw,hp.cg⟩,rfl,λd=>yY (hu d) λx c=>?_,rfl,rfl⟩
   .simp
   .intro x c;rcases aa8.1 c with c|c
    .exact hp.b.ch x c
    .rw[aaZ.1 c];exact⟨by simp only;omega,aT⟩
   .simp only[ZH];omega
   .refine abH.2 ⟨hp.b.ord,ac8 _ _,λa q b t=>?_⟩;rw[aaZ.1 t];exact hp.cd a q
   .intro r e x c;rcases aa8.1 c with c|c
    .exact hp.b.AF r e x c
    .rw[aaZ.1 c];exact(hp.rp r e).2
   .intro x c;rcases aa8.1 c with c|c
    .exact hp.cd x c
    .rw[aaZ.1 c];exact ab0 _
   .rcases aa8.1 c with c|c
    .exact(uJ d).2 x c
    .rw[aaZ.1 c];simp
  .exact⟨hp,rfl,λd=>yY (hu d) (uJ d).2,rfl,rfl⟩
theorem mE.run{T:Int}{s:Sv}(h:mE T s){x:Ck}{xs:List Ck}(hs:s.ch=x::xs):mE (T+1) (iW s)/\(iW s).bu=s.bu/\(iW s).pe=s.pe:=by
 have o:=h.b.ch x (by rw[hs];simp);have g:=h.b.bu;have k:=h.cd x (by rw[hs];simp);have i:=h.b.all;rw[hs,kP] at i;have f:=h.b.ord;rw[hs] at f;have e:=ac2.1 f;have hm:∀y∈xs,y∈s.ch:=λy c=>by rw[hs];simp[c]
 have p:=h.nw;have hc:=h.cg;unfold iW;rw[hs];simp only;split
 .rename_i l;have j:¬(x.us+1=0):=aQ;unfold gU;simp only[aaL j];refine⟨⟨⟨h.b.av,λy c=>h.b.ch y (hm y c),λr d=>?_,?_,g,e.2,λr d y c=>?_⟩,λr d=>?_,λy c=>by have:=h.cd y (hm y c);simp only;omega,abH.2 ⟨h.ro,ac8 _ _,λa m b n=>?_⟩,by simp only;omega,by simp only;omega⟩,by first|exact⟨rfl,rfl⟩|trivial⟩
  .rcases aa8.1 d with d|d
   .exact h.b.rf r d
   .rw[aaZ.1 d];simp only;omega
  .simp only[F4];omega
  .rcases aa8.1 d with d|d
   .exact h.b.AF r d y (hm y c)
   .rw[aaZ.1 d];exact e.1 y c
  .rcases aa8.1 d with d|d
   .have:=h.rp r d;simp only;omega
   .rw[aaZ.1 d];simp only;omega
  .rw[aaZ.1 n];exact h.b.AF a m x (by rw[hs];simp)
 .rename_i l;refine⟨⟨⟨h.b.av,λy c=>?_,h.b.rf,?_,g,?_,λr d y c=>?_⟩,λr d=>by have:=h.rp r d;simp only;omega,λy c=>?_,h.ro,by simp only;omega,by simp only;omega⟩,by first|exact⟨rfl,rfl⟩|trivial⟩
  .rcases acD.1 c with rfl|c
   .simp only;omega
   .exact h.b.ch y (hm y c)
  .simp only[kP];omega
  .exact ac2.2 ⟨λy c=>e.1 y c,e.2⟩
  .rcases acD.1 c with rfl|c
   .exact h.b.AF r d x (by rw[hs];simp)
   .exact h.b.AF r d y (hm y c)
  .rcases acD.1 c with rfl|c
   .simp only;omega
   .have:=h.cd y (hm y c);simp only;omega
def wM(l:List Rl):Int:=l.foldl (λa r=>max a r.at_) 0
def sC(a:Int)(l:List Ck):Int:=l.foldl (λa x=>if 0<x.us then max a x.de else a) a
def fF(s:Sv):Int:=sC (wM s.rf) s.ch
theorem KP{a:Int}:∀{l:List Ck},(∀x∈l,¬0<x.us)->sC a l=a
 | [],_=>rfl
 |x::l,h=>by
  have:=KP (a:=a) (l:=l) (λy b=>h y (by simp[b]));unfold sC at *;rw[ac7,aaL (h x aT)];exact this
theorem CP{s:Sv}(h:AB s=false):fF s=0:=by
 unfold fF;rw[KP (uJ h).2,(uJ h).1];rfl
theorem WJ(l:List Rl)(r:Rl):wM (l++ [r])=max (wM l) r.at_:=by simp[wM]
theorem XX(a:Int)(l:List Ck)(x:Ck):sC a (l++ [x])=if 0<x.us then max (sC a l) x.de else sC a l:=by simp[sC]
end
end
section
open Go.RowKit Go.Lib Go.Shelf
variable{F:Nat->Prop}{w:aA}{g:Nat}
section
theorem Cd{s:Sv}(h:tA F w g s)(I:s.rf.length+s.ch.length<=2000000):
 aG prog 99 #[.pointer g] w λe w'=>e= .returned (.int .i64 (fF s))/\aD w w w':=by
 obtain⟨A,c,B,d,h⟩:=h;have c4:=h.b.cell 4 (.slice A s.ch.length c) rfl;have c5:=h.b.cell 5 (.slice B s.rf.length d) rfl;have J:=aP h;obtain⟨n,D⟩:∃n,n=s.rf.length:=⟨_,rfl⟩
 obtain⟨m,hm⟩:∃m,m=s.ch.length:=⟨_,rfl⟩
 rw[<-D] at c5 I;rw[<-hm] at c4 I;have C:=bH D hm;clear h D hm;go_enter func99,ntmps99
 go_wp2_with fail
 go_loopw [3,16] (λv3 r wr=>∃(k:Nat) (x:Int),r= .int .i64 k/\v3= .int .i64 x/\k<=n/\aH (x=wM (s.rf.take k))/\aD w w wr) (λ_ r _=>n - (aL r).toNat)
 case atStart=>exact⟨0,0,rfl,rfl,aaQ _,rfl,Below.refl _ _⟩
 case round=>
  obtain⟨k,x,rfl,rfl,hk,t,a⟩:=hrel;by_cases K:k<n
  .have u:k<s.rf.length:=by have:=C.o.1;omega
   obtain⟨b,off,rfl,R,S⟩:=((J.o.oB.sl pV).keep a).Mi u;have T:(0:Int)<=k:=aQ;have L:(k:Int)<(n:Int):=aQ;have i:s.rf.take (k+1)=s.rf.take k++ [s.rf[k]]:=by rw[abN,aaG u];rfl
   have l:aH (wM (s.rf.take (k+1))=max x s.rf[k].at_):=by unfold aH;rw[i,WJ,<-t.o]
   clear i;generalize s.rf[k]=y at *;have p:=aP (a.alloc a.size (aI #[y.at_,y.am] 327));clear a;by_cases E:x<y.at_
   all_goals
    go_wp2_with fail
    go_roundw
    case rel=>exact⟨k+1,_,by go_num,rfl,aQ,by show _=_;rw[l.o];omega,p.o⟩
    case measure=>simp[aL];omega
  .obtain rfl:k=n:=aQ;have L:¬(k:Int)<(k:Int):=aQ;replace c4:=bD a c4;have G:aH (x=wM s.rf):=by show x=_;rw[t.o,aa7 (by have:=C.o.1;omega)]
   clear t;go_wp2_with fail
   go_loopw [3,30] (λv3 v30 M=>∃(j:Nat) (x:Int),v30= .int .i64 j/\v3= .int .i64 x/\j<=m/\aH (x=sC (wM s.rf) (s.ch.take j))/\aD w w M) (λ_ v30 _=>m - (aL v30).toNat)
   case atStart=>exact⟨0,x,rfl,rfl,aaQ _,G,a⟩
   case round=>
    clear a c4;obtain⟨j,x,rfl,rfl,U,t,a⟩:=hrel;by_cases N:j<m
    .have f:j<s.ch.length:=by have:=C.o.2;omega
     have z:=J.o.oA.keep (w':=wr) a;obtain⟨q,rfl⟩:∃q,A=some ⟨q,0,none⟩:=by
      rcases z.shape with⟨_,H,_⟩|H
      .rw[H] at f;simp at f
      .exact H
     have O:=bG kI z f (j:=0) (v:= .int .i64 s.ch[j].lf) rfl;have V:=bG kI z f (j:=1) (v:= .int .i64 s.ch[j].us) rfl;have W:=bG kI z f (j:=2) (v:= .int .i64 s.ch[j].de) rfl;rw[aa3] at O;have X:(0:Int)<=j:=aQ;have P:(j:Int)<(m:Int):=aQ;clear z;have i:s.ch.take (j+1)=s.ch.take j++ [s.ch[j]]:=by rw[abN,aaG f];rfl
     have l:aH (sC (wM s.rf) (s.ch.take (j+1))=if 0<s.ch[j].us then max x s.ch[j].de else x):=by unfold aH;rw[i,XX,<-t.o]
     clear i;generalize s.ch[j]=y at *;have p:=aP (a.alloc a.size (aI #[y.lf,y.us,y.de] 329));clear a;by_cases hu:0<y.us
     .by_cases E:x<y.de
      all_goals
       go_wp2_with fail
       go_roundw
       case rel=>exact⟨j+1,_,by go_num,rfl,aQ,by show _=_;rw[l.o,aaK hu];omega,p.o⟩
       case measure=>simp[aL];omega
     .go_wp2_with fail
      go_roundw
      case rel=>exact⟨j+1,_,by go_num,rfl,aQ,by show _=_;rw[l.o,aaL hu],p.o⟩
      case measure=>simp[aL];omega
    .obtain rfl:j=m:=aQ;have P:¬(j:Int)<(j:Int):=aQ;go_wp2_with fail
     go_ret
     have Q:x=fF s:=by rw[t.o,aa7 (by have:=C.o.2;omega)];rfl
     exact⟨by rw[<-Q];rfl,a⟩
theorem Ez(bu pe:Int)(w:aA)(l:mY bu pe=true):aG prog 97 #[.agg #[bu,pe]] w λe w'=>∃g,e= .returned (.tuple #[.pointer (some ⟨g,0,none⟩),aU])/\w.heap.size<=g/\tA (λb=>b<w.heap.size) w' g (lK bu pe)/\aD w w w':=by
 have d:=aP (λW=>CS bu pe W);rw[l] at d;have c:=aX w (aI #[bu,pe] 112);have f:=bC.new w 112 #[bu,pe];go_enter func97,ntmps97
 go_upto_region 1 with(fail)
 generalize w.alloc (aI #[bu,pe] 112)=w1 at *;generalize hq:w.heap.size=q at f⊢;have j:=f.cell 0 bu rfl;have k:=f.cell 1 pe rfl;go_wp2_with fail
 refine aS (d.o _) ?_;rintro e h ⟨rfl,a⟩;replace j:=bD a j;replace k:=bD a k;have i:=aP (c.trans (Below.mono a c.size));clear c a;go_wp2_with fail
 have m:w.heap.size<=h.heap.size:=i.o.size;exact bodyPost_ret (v:= .tuple #[.pointer h.heap.size,aU]) (by simp[results,results97,go_sem]) rfl ⟨h.heap.size,rfl,m,⟨none,0,none,0,bC.new _ _ _,bB.nil _ _ _,bB.nil _ _ _,λb n=>by have:=n;simp;omega,aQ,λq hq=>(by cases hq),λq hq=>(by cases hq)⟩,i.o.alloc i.o.size _⟩
end
def Fo(w:aA)(ow:Nat->Nat)(i:Nat):Nat->Prop:=λb=>b<w.heap.size/\ow b≠i
def nx(w:aA)(ow:Nat->Nat)(i:Nat):Nat->Nat:=λb=>if b<w.heap.size then ow b else i
def dV(X:(Nat->Prop)->aA->Prop):Prop:=∀(F G H:Nat->Prop) (w w':aA),X F w->Kp G w w'->(∀r,r<w.heap.size->¬F r->G r)->Ol H w'->(∀r,r<w.heap.size->¬F r->¬H r)->X H w'
def zU(F:Nat->Prop)(w:aA)(ow:Nat->Nat):Prop:=∀b,F b->b<w.heap.size/\ow b=0
variable{n:Nat}{A B:Option aJ}{tu:Int}
section
variable{F G H:Nat->Prop}{w w':aA}{ow:Nat->Nat}{i j:Nat}{X:(Nat->Prop)->aA->Prop}
theorem Fo.ol(w:aA)(ow:Nat->Nat)(i:Nat):Ol (Fo w ow i) w:=λ_ h=>h.1
theorem dV.own(M:dV X)(h:X (Fo w ow i) w')(k:Kp (Fo w ow i) w w'):X (Fo w' (nx w ow i) i) w':=
 M _ (λ_=>True) _ w' w' h (Kp.refl _ _) (λ_ _ _=>trivial) (Fo.ol _ _ _) (λr _ a b=>b.2 (by
  unfold nx;split
  .rename_i c;exact aa4 λhc=>a ⟨c,hc⟩
  .rfl))
theorem dV.other(M:dV X)(h:X (Fo w ow j) w)(k:Kp (Fo w ow i) w w')(b:j≠i):X (Fo w' (nx w ow i) j) w':=
 M _ _ _ w w' h k (λr a c=>⟨a,λe=>c ⟨a,λd=>b (by rw[<-d,e])⟩⟩) (Fo.ol _ _ _) (λr a c f=>f.2 (by
  unfold nx;rw[aaK a];exact aa4 λhc=>c ⟨a,hc⟩))
theorem zU.kp(h:zU F w ow)(k:Kp (Fo w ow i) w w')(hi:i≠0):Kp F w w':=k.mono λb a=>⟨(h b a).1,by rw[(h b a).2];exact λe=>hi e.symm⟩
theorem zU.next(h:zU F w ow)(k:Kp (Fo w ow i) w w')(i:Nat):zU F w' (nx w ow i):=λb a=>⟨aaJ (h b a).1 k.size,by unfold nx;rw[aaK (h b a).1];exact(h b a).2⟩
theorem zU.ol(h:zU F w ow):Ol F w:=λb a=>(h b a).1
noncomputable def mv (w:aA) (ow:Nat->Nat) (H:Nat->Prop):Nat->Nat:=λb=> @ite Nat (b<w.heap.size/\¬H b) (Classical.propDecidable _) (ow b) 0
theorem dV.part(M:dV X)(hF:zU F w ow)(k:Kp G w w')(d:∀r,r<w.heap.size->¬F r->G r)(hH:∀r,r<w.heap.size->¬F r->¬H r)(hi:i≠0)(h:X (Fo w ow i) w):X (Fo w' (mv w ow H) i) w':=by
 have hq:∀r,r<w.heap.size->¬Fo w ow i r->ow r=i/\¬F r:=λr a b=>by
  have h1:ow r=i:=aa4 λhc=>b ⟨a,hc⟩
  exact⟨h1,λc=>hi (by rw[<-h1,(hF r c).2])⟩
 refine M _ G _ w w' h k (λr a b=>d r a (hq r a b).2) (Fo.ol _ _ _) (λr a b c=>c.2 ?_);unfold mv;rw[aaK ⟨a,hH r a (hq r a b).2⟩];exact(hq r a b).1
theorem zU.mv(c:Ol H w'):zU H w' (mv w ow H):=λb a=>⟨c b a,by unfold Go.Proofs.YtacgiflhgdaeaaaGreat.mv;rw[aaL (λh=>h.2 a)]⟩
theorem Wk{r:Nat}(a:r<w.heap.size)(b:¬H r):mv w ow H r=ow r:=by unfold mv;rw[aaK ⟨a,b⟩]
theorem yO{r:Nat}(a:r<w.heap.size):nx w ow i r=ow r:=aaK a
theorem KQ{r:Nat}(a:w.heap.size<=r):nx w ow i r=i:=aaL (Nat.not_lt.2 a)
theorem tA.bX(g:Nat)(s:Sv):dV (λF w=>tA F w g s):=λ_ _ _ _ _ h k a fl hH=>h.move k a fl hH
theorem fY.move{c d:Nat}{nw:Int}{M:Option Nat}{b:Bs}(h:fY F w g A n c b M B d nw tu)(k:Kp G w w')(e:∀r,r<w.heap.size->¬F r->G r)(fl:Ol H w')(hH:∀r,r<w.heap.size->¬F r->¬H r):fY H w' g A n c b M B d nw tu:=
 ⟨k.aZ h.b (e g h.b.lt h.fg),h.oB.kp k (λq hq=>e q (h.oB.lt q hq).2 (h.fB q hq)),⟨h.mp.1,λr a=>(h.mp.2 r a).same (k.block r (e r (h.mp.2 r a).lt (h.fM r a)))⟩,fl,hH g h.b.lt h.fg,λq hq=>hH q (h.oB.lt q hq).2 (h.fB q hq),λr a=>hH r (h.mp.2 r a).lt (h.fM r a)⟩
end
structure Pt where
 X:(Nat->Prop)->aA->Prop
 bX:dV X
def yU(l:List Pt)(F:Nat->Prop)(w:aA)(ow:Nat->Nat):Prop:=zU F w ow/\∀(i:Nat) (p:Pt),l[i]?=some p->p.X (Fo w ow (i+1)) w
def Ob(l:List Pt)(F:Nat->Prop)(w:aA):Prop:=∃ow,yU l F w ow
section
variable{l:List Pt}{F G H:Nat->Prop}{w w':aA}{ow:Nat->Nat}{p p':Pt}{i:Nat}
theorem yU.get(h:yU l F w ow)(i:Nat)(hp:l[i]?=some p):p.X (Fo w ow (i+1)) w:=h.2 i p hp
theorem yU.eV(h:yU l F w ow)(i:Nat)(p':Pt)(a:p'.X (Fo w ow (i+1)) w')(k:Kp (Fo w ow (i+1)) w w'):yU (l.set i p') F w' (nx w ow (i+1))/\Kp F w w':=by
 refine⟨⟨h.1.next k _,λm p hp=>?_⟩,h.1.kp k aQ⟩;rw[adA] at hp;split at hp
 .rename_i e;subst e;split at hp
  .injection hp with hp;subst hp;exact p'.bX.own a k
  .cases hp
 .rename_i e;exact p.bX.other (h.2 m p hp) k (λb=>e aQ)
theorem yU.Yv(h:yU l F w ow)(k:Kp (Fo w ow 0) w w'):yU l F w' (nx w ow 0):=⟨h.1.next k _,λm p hp=>p.bX.other (h.2 m p hp) k aQ⟩
theorem yU.below(h:yU l F w ow)(a:aD w w w'):yU l F w' (nx w ow 0):=h.Yv (Kp.dD a λ_ a=>a.1)
theorem yU.add(h:yU l F w ow)(p':Pt)(f:p'.X (λb=>b<w.heap.size) w')(a:aD w w w'):yU (l++ [p']) F w' (nx w ow (l.length+1))/\Kp F w w':=by
 have k:Kp (Fo w ow (l.length+1)) w w':=Kp.dD a λ_ a=>a.1
 refine⟨⟨h.1.next k _,λm p hp=>?_⟩,h.1.ol.below a⟩;by_cases hm:m<l.length
 .rw[abC hm] at hp;exact p.bX.other (h.2 m p hp) k aQ
 .rw[aaS aQ] at hp;have d:m - l.length=0:=by
   cases hd:m - l.length with
   |zero=>rfl
   |succ n=>rw[hd] at hp;simp at hp
  rw[d] at hp;simp at hp;subst hp;obtain rfl:m=l.length:=aQ;exact p'.bX _ (λ_=>True) _ w' w' f (Kp.refl _ _) (λ_ _ _=>trivial) (Fo.ol _ _ _) (λr q j o=>o.2 (KQ (Nat.not_lt.1 j)))
theorem Ob.none(h:Ol F w)(hF:∀b,F b->b<w.heap.size):Ob [] F w:=⟨λ_=>0,λb a=>⟨hF b a,rfl⟩,λi p hp=>by simp at hp⟩
theorem Ob.bX(l:List Pt):dV (Ob l):=λF G H w w' ⟨ow,h⟩ k a fl hH=>⟨mv w ow H,zU.mv fl,λi p hp=>p.bX.part h.1 k a hH aQ (h.2 i p hp)⟩
theorem Ob.fl(h:Ob l F w):Ol F w:=by obtain⟨_,h⟩:=h;exact h.1.ol
theorem Ob.below(h:Ob l F w)(a:aD w w w'):Ob l F w':=by obtain⟨_,h⟩:=h;exact⟨_,h.below a⟩
end
structure mI(g:Nat)(t:aN)(cs:Array aC)(F:Nat->Prop)(w:aA):Prop where
 b:bC w g t cs
 ol:Ol F w
 nf:¬F g
theorem mI.bX(g:Nat)(t:aN)(cs:Array aC):dV (mI g t cs):=λ_ _ _ _ _ h k a fl hH=>⟨k.aZ h.b (a g h.b.lt h.nf),fl,hH g h.b.lt h.nf⟩
def PB(g:Nat)(t:aN)(cs:Array aC):Pt:=⟨mI g t cs,mI.bX g t cs⟩
structure fT{α:Type}(enc:α->List aC)(sz:Nat)(e:aN)(A:Option aJ)(c:Nat)(xs:List α)(F:Nat->Prop)(w:aA):Prop where
 o:bB enc sz w 0 e A c xs
 ol:Ol F w
 nf:∀q,aZ A=some q->¬F q
theorem fT.bX{α:Type}(enc:α->List aC)(sz:Nat)(e:aN)(A:Option aJ)(c:Nat)(xs:List α):dV (fT enc sz e A c xs):=λ_ _ _ _ _ h k a fl hH=>⟨h.o.kp k (λq hq=>a q (h.o.lt q hq).2 (h.nf q hq)),fl,λq hq=>hH q (h.o.lt q hq).2 (h.nf q hq)⟩
def PR{α:Type}(enc:α->List aC)(sz:Nat)(e:aN)(A:Option aJ)(c:Nat)(xs:List α):Pt:=⟨fT enc sz e A c xs,fT.bX enc sz e A c xs⟩
variable{A':Option aJ}{c' q i j:Nat}
section
variable{F:Nat->Prop}{w w':aA}{g:Nat}{t e:aN}{cs:Array aC}
theorem PB.mk(h:bC w g t cs)(hF:Ol F w)(a:¬F g):mI g t cs F w:=⟨h,hF,a⟩
theorem mI.eV(h:mI g t cs F w){cs':Array aC}(a:bC w' g t cs')(b:w.grownBy w' (some g)):mI g t cs' F w'/\Kp F w w':=by
 have k:=h.ol.self h.nf b;exact⟨⟨a,h.ol.kp k,h.nf⟩,k⟩
theorem mI.set(h:mI g t cs F w)(j:Nat)(v:aC){cs':Array aC}(he:cs'=cs.setIfInBounds j v):mI g t cs' F (w.setCell (g,j) v)/\Kp F w (w.setCell (g,j) v):=
 h.eV (by rw[he];exact h.b.bQ j v) (aY (bE w g) j v)
variable{α:Type}{enc:α->List aC}{sz c:Nat}{A:Option aJ}{xs:List α}
theorem fT.eV(h:fT enc sz e A c xs F w){ys:List α}(ho:bB enc sz w' 0 e A' c' ys)(f:w.grownBy w' (aZ A))(a:aZ A'=aZ A\/aZ A'=some w.heap.size):fT enc sz e A' c' ys F w'/\Kp F w w':=by
 have k:Kp F w w':=Kp.grown f λb d=>⟨h.ol b d,λj=>h.nf b j.symm d⟩
 refine⟨⟨ho,h.ol.kp k,λq hq hF=>?_⟩,k⟩;rcases a with a|a
 .exact h.nf q (by rw[<-a];exact hq) hF
 .rw[a] at hq;injection hq with hq;have:=h.ol q hF;omega
theorem fT.cell(he:∀x,(enc x).length=sz)(h:fT enc sz e q c xs F w)(hi:i<xs.length)(a:j<sz)(x:α)(v:aC)(b:enc x=(enc xs[i]).set j v):fT enc sz e q c (xs.set i x) F (w.setCell (q,i *sz+j) v)/\Kp F w (w.setCell (q,i *sz+j) v):=by
 obtain⟨h1,d⟩:=qR he h.o hi a x v b;exact h.eV h1 d (.inl rfl)
theorem fT.nil(hF:Ol F w):fT enc sz e none 0 ([]:List α) F w:=⟨bB.nil _ _ _,hF,λq hq=>by cases hq⟩
end
end
section
open Go.RowKit
variable{w:aA}{g:Nat}{p:Int}
section
structure iY where
 period:Int
 next:Int
 waits:Bool
 FT:Int
 refused:Int
def Zf(s:iY):Array aC:=#[s.period,s.next,s.waits,s.FT,s.refused]
def Sh(w:aA)(g:Nat)(s:iY):Prop:=bC w g 251 (Zf s)
theorem Sh.cells{s:iY}(h:Sh w g s):w.cell? (g,0)=some (.int .i64 s.period)/\w.cell? (g,1)=some (.int .i64 s.next)/\w.cell? (g,2)=some (.bool s.waits)/\w.cell? (g,3)=some (.int .i64 s.FT)/\w.cell? (g,4)=some (.int .i64 s.refused):=
 ⟨h.cell 0 _ rfl,h.cell 1 _ rfl,h.cell 2 _ rfl,h.cell 3 _ rfl,h.cell 4 _ rfl⟩
theorem Sh.free{s:iY}(h:Sh w g s):w.frozen? (g,1)=false/\w.frozen? (g,2)=false/\w.frozen? (g,3)=false/\w.frozen? (g,4)=false:=
 ⟨bC.frozen h 1,bC.frozen h 2,bC.frozen h 3,bC.frozen h 4⟩
def tI(s:iY)(now:Int):iY:={s with next:=now+s.period,waits:=false,FT:=s.FT+1}
structure lT(s:iY)(k:Nat):Prop where
 p0:1<=s.period
 p1:s.period<=1048576
 n0:0<=s.next
 n1:s.next<=1048576 *(2+(k:Int))
 c0:0<=s.FT
 c1:s.FT<=k
 r0:0<=s.refused
 r1:s.refused<=k
def PA(v:aC)(s:iY)(g:Nat)(w:aA)(e:Ending)(w':aA):Prop:=e= .returned v/\Sh w' g s/\w.grownBy w' (some g)
theorem IJ(s:iY)(now:Int)(g:Nat)(k:Nat)(w:aA)(h:Sh w g s)(ok:lT s k)(hk:k<=100000)(a:0<=now)(h1:now<=1048576):
 aG prog 88 #[.pointer g,now] w (PA (.tuple #[]) (tI s now) g w):=by
 obtain⟨c0,c1,c2,c3,c4⟩:=h.cells;obtain⟨f1,f2,f3,f4⟩:=h.free;obtain⟨p0,p1,n0,n1,a0,b,r0,r1⟩:=ok;have H:=aP h;clear h;go_enter func88,ntmps88
 go_wp2
 go_end0
 exact⟨rfl,((H.o.bQ 1 _).bQ 2 _).bQ 3 _,aY (aY (aY (bE w g) 1 _) 2 _) 3 _⟩
def rR(s:iY)(now:Int):iY×Bool×Int:=
 if now<0\/1048576<now then(s,false,1) else if s.waits then({s with refused:=s.refused+1},false,20) else if now<s.next then({s with waits:=true},false,0) else(tI s now,true,0)
def l6(s:iY)(now:Int):iY×Bool:=if s.waits=false\/now<s.next\/1048576<now then(s,false) else(tI s now,true)
def jD(s:iY)(now:Int):iY×Int:=({s with next:=max now s.next+s.period},max now s.next)
theorem N8{s:iY}{k:Nat}{now:Int}(h:lT s k)(a:0<=now)(h1:now<=1048576):lT (tI s now) (k+1):=by
 obtain⟨p0,p1,n0,n1,a0,b,r0,r1⟩:=h;exact⟨p0,p1,by simp[tI];omega,by simp[tI];omega,by simp[tI];omega,by simp[tI];omega,by simp[tI];omega,by simp[tI];omega⟩
theorem N5{s:iY}{k:Nat}(h:lT s k):lT s (k+1):=by
 obtain⟨p0,p1,n0,n1,a0,a,r0,r1⟩:=h;exact⟨p0,p1,n0,aQ,a0,aQ,r0,aQ⟩
theorem SK{s:iY}{k:Nat}{now:Int}(h:lT s k):lT (rR s now).1 (k+1):=by
 unfold rR;split
 .exact N5 h
 .split
  .obtain⟨p0,p1,n0,n1,a0,a,r0,r1⟩:=h;exact⟨p0,p1,n0,bL,a0,bL,bL,bL⟩
  .split
   .obtain⟨p0,p1,n0,n1,a0,a,r0,r1⟩:=h;exact⟨p0,p1,n0,bL,a0,bL,r0,bL⟩
   .exact N8 h aQ aQ
theorem SI{s:iY}{k:Nat}{now:Int}(h:lT s k):lT (l6 s now).1 (k+1):=by
 unfold l6;split
 .exact N5 h
 .have:=h.n0;exact N8 h aQ aQ
theorem ZU{s:iY}{k:Nat}{now:Int}(h:lT s k)(a:0<=now)(h1:now<=1048576):lT (jD s now).1 (k+1):=by
 obtain⟨p0,p1,n0,n1,a0,b,r0,r1⟩:=h;exact⟨p0,p1,by simp[jD];omega,by simp[jD];omega,a0,by simp[jD];omega,r0,by simp[jD];omega⟩
theorem ZE(s:iY)(now:Int)(g:Nat)(k:Nat)(w:aA)(h:Sh w g s)(ok:lT s k)(hk:k<=100000):
 aG prog 56 #[.pointer g,now] w (PA (.tuple #[.bool (rR s now).2.1, .int .i64 (rR s now).2.2]) (rR s now).1 g w):=by
 have f:=aP ok;obtain⟨c0,c1,c2,c3,c4⟩:=h.cells;obtain⟨f1,f2,f3,f4⟩:=h.free;obtain⟨p0,p1,n0,n1,a0,i,r0,r1⟩:=ok;have H:=aP h;clear h;by_cases b1:now<0
 .have a:aH (rR s now=(s,false,1)):=by unfold aH rR;rw[aaK (.inl b1)]
  go_enter func56,ntmps56
  go_wp2
  go_ret2
  rw[a.o];exact⟨rfl,H.o,bE w g⟩
 .by_cases b2:1048576<now
  .have a:aH (rR s now=(s,false,1)):=by unfold aH rR;rw[aaK (.inr b2)]
   go_enter func56,ntmps56
   go_wp2
   go_ret2
   rw[a.o];exact⟨rfl,H.o,bE w g⟩
  .cases b3:s.waits
   .rw[b3] at c2;by_cases d:now<s.next
    .have a:aH (rR s now=({s with waits:=true},false,0)):=by unfold aH rR;rw[aaL aQ,aaL (by simp[b3]),aaK d]
     go_enter func56,ntmps56
     go_wp2
     go_ret2
     rw[a.o];exact⟨rfl,H.o.bQ 2 _,aY (bE w g) 2 _⟩
    .have a:aH (rR s now=(tI s now,true,0)):=by unfold aH rR;rw[aaL aQ,aaL (by simp[b3]),aaL d]
     go_enter func56,ntmps56
     go_wp2_with(go_at_call 88;refine(IJ s now g k _ H.o f.o hk aQ aQ).mono ?_;rintro e j ⟨rfl,b,c⟩)
     go_ret2
     rw[a.o];exact⟨rfl,b,c⟩
   .rw[b3] at c2;have a:aH (rR s now=({s with refused:=s.refused+1},false,20)):=by unfold aH rR;rw[aaL aQ,aaK b3]
    go_enter func56,ntmps56
    go_wp2
    go_ret2
    rw[a.o];exact⟨rfl,H.o.bQ 4 _,aY (bE w g) 4 _⟩
theorem Ep(s:iY)(now:Int)(g:Nat)(k:Nat)(w:aA)(h:Sh w g s)(ok:lT s k)(hk:k<=100000):
 aG prog 61 #[.pointer g,now] w (PA (.bool (l6 s now).2) (l6 s now).1 g w):=by
 have d:=aP ok;obtain⟨c0,c1,c2,c3,c4⟩:=h.cells;obtain⟨f1,f2,f3,f4⟩:=h.free;obtain⟨p0,p1,n0,n1,a0,i,r0,r1⟩:=ok;have H:=aP h;clear h;cases b3:s.waits
 .rw[b3] at c2;have a:aH (l6 s now=(s,false)):=by unfold aH l6;rw[aaK (.inl b3)]
  go_enter func61,ntmps61
  go_wp2
  go_ret
  rw[a.o];exact⟨rfl,H.o,bE w g⟩
 .rw[b3] at c2;by_cases f:now<s.next
  .have a:aH (l6 s now=(s,false)):=by unfold aH l6;rw[aaK (.inr (.inl f))]
   go_enter func61,ntmps61
   go_wp2
   go_ret
   rw[a.o];exact⟨rfl,H.o,bE w g⟩
  .by_cases b2:1048576<now
   .have a:aH (l6 s now=(s,false)):=by unfold aH l6;rw[aaK (.inr (.inr b2))]
    go_enter func61,ntmps61
    go_wp2
    go_ret
    rw[a.o];exact⟨rfl,H.o,bE w g⟩
   .have a:aH (l6 s now=(tI s now,true)):=by unfold aH l6;rw[aaL (by simp[b3];omega)]
    go_enter func61,ntmps61
    go_wp2_with(go_at_call 88;refine(IJ s now g k _ H.o d.o hk aQ aQ).mono ?_;rintro e j ⟨rfl,b,c⟩)
    go_ret
    rw[a.o];exact⟨rfl,b,c⟩
theorem YA(s:iY)(now:Int)(g:Nat)(k:Nat)(w:aA)(h:Sh w g s)(ok:lT s k)(hk:k<=100000)(c:0<=now)(h1:now<=1048576):
 aG prog 92 #[.pointer g,now] w (PA (.int .i64 (jD s now).2) (jD s now).1 g w):=by
 obtain⟨c0,c1,c2,c3,c4⟩:=h.cells;obtain⟨f1,f2,f3,f4⟩:=h.free;obtain⟨p0,p1,n0,n1,a0,d,r0,r1⟩:=ok;have H:=aP h;clear h;by_cases b:now<s.next
 .have a:aH (jD s now=({s with next:=s.next+s.period},s.next)):=by unfold aH jD;rw[Int.max_eq_right aQ]
  go_enter func92,ntmps92
  go_wp2
  go_ret
  rw[a.o];exact⟨rfl,H.o.bQ 1 _,aY (bE w g) 1 _⟩
 .have a:aH (jD s now=({s with next:=now+s.period},now)):=by unfold aH jD;rw[Int.max_eq_left aQ]
  go_enter func92,ntmps92
  go_wp2
  go_ret
  rw[a.o];exact⟨rfl,H.o.bQ 1 _,aY (bE w g) 1 _⟩
def jP(p:Int):iY:=⟨p,0,false,0,0⟩
theorem Fv(a:1<=p)(h1:p<=1048576):lT (jP p) 0:=⟨a,h1,by simp[jP],by simp[jP],by simp[jP],by simp[jP],by simp[jP],by simp[jP]⟩
def Si(p:Int)(w:aA)(e:Ending)(w':aA):Prop:=∃g,e= .returned (.tuple #[.pointer (some ⟨g,0,none⟩),aU])/\w.heap.size<=g/\Sh w' g (jP p)/\aD w w w'
theorem Dj(p:Int)(w:aA)(a:1<=p)(h1:p<=1048576):aG prog 52 #[p] w (Si p w):=by
 go_enter func52,ntmps52
 go_wp2
 go_ret2
 exact⟨w.heap.size,rfl,aaH _,bC.new w _ _,aX _ _⟩
end
end
end Go.Proofs.YtacgiflhgdaeaaaGreat
