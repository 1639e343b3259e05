/- Texts laid as one. -/
import Derived.Test.YtacgiflhgdaeaaaGreatAZ2
import Derived.Test.YtacgiflhgdaeaaaGreatAZ3
import Derived.Test.YtacgiflhgdaeaaaGreatAZ15
import Derived.Test.YtacgiflhgdaeaaaGreatAZ18
import Derived.Test.YtacgiflhgdaeaaaGreatAZ19
set_option linter.unusedVariables false
set_option linter.unusedSimpArgs false
set_option maxRecDepth 100000
set_option maxHeartbeats 20000000
namespace Go.Proofs.YtacgiflhgdaeaaaGreat
open Go.Proofs.Tryz
open Go renaming World->aA,Value->aC,Addr->aJ,Ending->aM,Calls->aG
open Go.RowKit renaming Below->aD,Hid->aH,intOf->aL
open Go.Obj renaming cells->aI
section
open Go.RowKit Go.Lib Go.Shelf dF Fr Up Nt
variable{F:Nat->Prop}{w:aA}{g:Nat}{k:Kv}
section
theorem RX{a:Ka}(h:bQ F w g a k)(R:k.n+1<=1000000)(e:Nat)(he:e<4)(x:Int)(S:x≠0)(v:Int)(Z:v≠0)(t:w.cell? (g,11+e)=some (.int .i64 x)):aG prog 171 #[.pointer g,e,v] w (FC F g k w):=by
 have e0:¬(e:Int)<0:=aQ;have e8:(e:Int)<8:=aQ;have a1:(x !=0)=true:=by simp[S]
 have a6:(v==0)=false:=by simp[Z]
 have pw:=h.pw;unfold pA at pw;have T:=aP h;have U:=aP R;clear h R S;go_enter func171,ntmps171
 go_upto_region 2 with(fail)
 have j:=bD pw;have l:=bD t;refine bO (bS _) (λ_=>bS) [] (λ_ _ _=>True) [10] [] 65 (bY _) (λ_ _ _ h t=>bU h t) (λ_ d hd _ v w w' _ h t=>by cases hd) aV aV bL ?_;repeat refine eA ?_
 refine dC ?_;intro γ w5 hb5 hT;clear j l;simp only[cO,Act.put,Zx,aaE,aaD];refine dP ?_;have J:=T.o.below hb5;have HD:=aP (GM J.1 (by have:=U.o;omega) x);have B:=aP J.2;clear J hb5 hT T pw t;refine wpList_plain rfl (λK hK=>?_);go_wp2_with fail
 refine aR HD ?_;rintro r w6 ⟨b,rfl,C,V⟩;have f6:=C.fz (11+e);obtain⟨v6,c6⟩:=C.p7 (i:=e) aQ;have m:=aP (C.store (11+e) aQ 0);have c:=aP (B.o.trans V);clear C V HD B;refine hK _ _ ?_;clear hK K;refine cI ?_;try refine dE ?_
 have y:=aP (c.o.trans m.o.2);have z:=aP m.o.1;clear m;go_upto_region 6 with(fail)
 clear c6 f6 c;generalize w6.setCell (g,11+e) (.int .i64 0)=f at *;obtain⟨p,h⟩:=z.o;have c:=y;have pw:=h.pw;have ps:=h.ps;unfold pA at pw ps;clear z y;obtain⟨u,_,A⟩:=NK h;have L:=aP A;obtain⟨G,hs,_⟩:=h.sd;have M:aH (∀W,aD f f W->aG prog 21 #[.pointer p.gs] W λe w'=>e= .returned (.int .i64 k.s.nw)/\W=w'):=λW hW=>vR (h.below hW).1.sd.choose_spec.1
 have N:aH (∀x,aG prog 217 #[.pointer p.gw, .int .i64 x,e] f.drew λr w'=>∃H E:Int,r= .returned (.tuple #[H,E])/\bQ F w' g p {k with n:=k.n+1}/\Kp F f.drew w'):=λx=>RQ (h.below (Below.refl f f).drew).1 U.o x e aQ
 have B:aH (Kp F f f.drew):=(h.below (Below.refl f f).drew).2;clear h hs A;go_region_held3 (λW=>W.cell? (g,10)=some (.pointer p.gw)/\W.cell? (g,6)=some (.pointer p.gs)) (first|exact⟨pw,ps⟩|exact⟨‹_›,‹_›⟩) ((first|(go_at_call 21;(refine aS (M.o _ (Below.refl _ _).drew) ?_);rintro r X ⟨rfl,rfl⟩)|(go_at_call 218;(refine aS (L.o _ (Below.refl _ _).drew) ?_);rintro r X ⟨rfl,rfl⟩)|(go_at_call 217;(refine aS (N.o _) ?_);rintro r X ⟨H,E,rfl,D,Y⟩;(have O:=D.pw);(have P:=D.ps);(unfold pA at O P);(have q:=bN D (B.o.trans Y));clear D Y)))
 all_goals
  by_cases I:E=0
  .have Q:(E !=0)=false:=by simp[I]
   have m:=aP (q.o.1.store (11+e) aQ H);have fz:=q.o.1.fz (11+e);obtain⟨v0,hc⟩:=q.o.1.p7 (i:=e) aQ;clear I;go_wp2_with fail
   go_ret
   exact⟨0,k.n+1,⟨aQ,aQ⟩,rfl,m.o.1,c.o.trans (q.o.2.trans m.o.2)⟩
  .have Q:(E !=0)=true:=by simp[I]
   clear I;go_wp2_with fail
   go_ret
   exact⟨E,k.n+1,⟨aQ,aQ⟩,rfl,⟨p,q.o.1⟩,c.o.trans q.o.2⟩
end
section
theorem W0{a:Ka}(h:bQ F w g a k)(d:k.n+1<=1000000)(e:Nat)(he:e<4)(v:Int):aG prog 171 #[.pointer g,e,v] w (FC F g k w):=by
 obtain⟨x,c⟩:=h.p7 (i:=e) aQ;by_cases f:x=0
 .subst f;by_cases b:v=0
  .subst b;exact R9 h e he c
  .exact XI h d e he v b c
 .by_cases b:v=0
  .subst b;exact Q7 h d e he x f c
  .exact RX h d e he x f v b c
end
variable{X:(Nat->Prop)->aA->Prop}{W w' w3 w6 wE:aA}{j i q3:Nat}{v:aC}{H:Nat->Prop}{k':Kv}
section
def Nw(F:Nat->Prop)(N:Nat)(W:aA):Nat->Prop:=λb=>F b\/(N<=b/\b<W.heap.size)
theorem dN.grow(M:dN X)(h:X F w)(fl:Ol F w)(hb:aD w w W):X (Nw F w W) W:=
 M F (λb=>b<w.heap.size) _ w W h (Kp.cB hb λ_ hb=>hb) (λ_ c _=>c) (λb a=>by
  rcases a with a|a
  .exact Zy (fl b a) hb.size
  .exact a.2) (λr c d hc=>by
  rcases hc with hc|hc
  .exact d hc
  .omega)
theorem dJ{A:Nat}(h:g≠A):(w.setCell (A,i) v).cell? (g,j)=w.cell? (g,j):=
 World.cell?_of_block (w:=w) (Below.heap_setCell w ⟨A,i,none⟩ v g h)
theorem dN.rU(M:dN X){A:Nat}(h:X F w)(fl:Ol F w)(c:w.grownBy w' (some A))(d:F A)(hH:∀b,H b->F b/\b≠A):X H w'/\Kp H w w':=by
 have k:Kp (λb=>b<w.heap.size/\b≠A) w w':=Kp.grown c λb hb=>⟨hb.1,λe=>hb.2 (by injection e)⟩
 have f:Kp H w w':=k.mono λb hb=>⟨fl b (hH b hb).1,(hH b hb).2⟩
 exact⟨M F _ H w w' h k (λr g a=>⟨g,λe=>a (e ▸ d)⟩) (λb hb=>Zy (fl b (hH b hb).1) k.size) (λr _ a hc=>a (hH r hc).1),f⟩
theorem LD{a:Ka}(d:bQ (Fb F q3) w3 g a k/\Kp F w w3)(c:bQ (Nw (Fb F q3) w3.heap.size w3.drew) w6 g a k'/\Kp (Nw (Fb F q3) w3.heap.size w3.drew) w3.drew w6)(hb:aD w6 w6 wE):KM F wE g k'/\Kp F w wE:=by
 obtain⟨e,f⟩:=c.1.below hb;have h:Kp F w3.drew w6:=c.2.mono λb hb=> .inl (.inl hb)
 have i:Kp F w6 wE:=f.mono λb hb=> .inl (.inl hb)
 exact⟨⟨a,e.less (λb hb=> .inl (.inl hb))⟩,(d.2.drew.trans h).trans i⟩
theorem Qs{a:Ka}{o:Obj}(c:bQ (Fb F q3) w3 g a k/\Kp F w w3)(d:bQ (Nw (Fb F q3) w3.heap.size (w3.alloc o).drew) w6 g a k'/\Kp (Nw (Fb F q3) w3.heap.size (w3.alloc o).drew) (w3.alloc o).drew w6)(f:w6.grownBy wE (some w3.heap.size)):KM F wE g k'/\Kp F w wE:=by
 have h:Nw (Fb F q3) w3.heap.size (w3.alloc o).drew w3.heap.size:= .inr ⟨Zw _,(show w3.heap.size<(w3.alloc o).heap.size by simp)⟩;obtain⟨i,j⟩:=dN.rU (bQ.cD g a k') (H:=F) d.1 d.1.fl f h (λb hb=>⟨.inl (.inl hb),λe=>by have:=c.1.fl b (.inl hb);omega⟩);have l:Kp F (w3.alloc o).drew w6:=d.2.mono λb hb=> .inl (.inl hb)
 have m:Kp F w (w3.alloc o).drew:=(c.2.trans (Kp.cB (aX w3 o) λb hb=>c.1.fl b (.inl hb))).drew;exact⟨⟨a,i⟩,(m.trans l).trans j⟩
theorem Eg(k:Kv)(e s a wr:Int)(h:¬1<wr):mP k e s a wr=match jI k.c e s 1 (if wr=1 then 3 else 1) with
 |none=>(23,k)
 |some h=>(if lG ⟨e,a,h.ob,decide (wr=1)⟩ then 0 else 1,{k with t:=xK k.t ⟨e,a,h.ob,decide (wr=1)⟩}):=by
 unfold mP;exact aaA h
theorem Be{a:Ka}(h:bQ F w g a k)(hw:KW k)(e s l wr:Int):aG prog 167 #[.pointer g,e,s,l,wr] w (gJ F g (mP k e s l wr).2 (.int .i64 (mP k e s l wr).1) w):=by
 have J:=aP h;have Z:=aP hw;by_cases h1:1<wr
 .have v:aH (mP k e s l wr=(1,k)):=by unfold aH mP;rw[Zz h1]
  generalize mP k e s l wr=rk at *;clear h hw;go_enter func167,ntmps167
  go_wp2_with fail
  go_ret
  rw[v.o];exact⟨rfl,⟨a,J.o⟩,Kp.refl _ _⟩
 obtain⟨G,K,_⟩:=h.cp;have pc:=h.pc;unfold pA at pc;have L:=aP (Eg k e s l wr h1);generalize mP k e s l wr=rk at *;by_cases M:wr=1
 .subst M;have hor:bits .or .i64 1 2=3:=cC;have v:aH (rk=match jI k.c e s 1 3 with
   |none=>(23,k)
   |some h=>(if lG ⟨e,l,h.ob,true⟩ then 0 else 1,{k with t:=xK k.t ⟨e,l,h.ob,true⟩})):=by unfold aH;rw[L.o];rfl
  have q:=lU K e s 1 3;clear h hw K L;cases hq:jI k.c e s 1 3 with
  |none=>
   rw[hq] at q v;have q:=aP q;clear hq;go_enter func167,ntmps167
   go_wp2_with fail
   refine aR q ?_;rintro r N ⟨rfl,d⟩;simp only[mA,ab5];have V:=aP (J.o.below (d.alloc d.size (aI #[aU,aU,aU] 154)));clear d;go_wp2_with fail
   go_ret
   rw[v.o];exact⟨rfl,⟨a,V.o.1⟩,V.o.2⟩
  |some x=>
   rw[hq] at q v;have q:=aP q;clear hq;obtain⟨O,i,P,x4,x5⟩:=x;simp only at v;go_enter func167,ntmps167
   go_wp2_with fail
   refine aR q ?_;rintro r N ⟨rfl,d⟩;simp only[mA,ab4];have C:=d.alloc d.size (aI #[O,i,P] 154);have yb:=bF.new N 154 #[O,i,P];have u:=aP (And.intro ((bQ.cD g a k).box (J.o.below d).1 (J.o.below d).1.fl (aI #[O,i,P] 154)) (J.o.below C).2);clear d C pc;go_upto_region 9 with(fail)
   generalize N.alloc (aI #[O,i,P] 154)=f at *;generalize N.heap.size=z at *;have A:=yb.cell 1 i rfl;have pt:=u.o.1.pt;unfold pA at pt;clear yb;have Q:aH (∀W,aD f f W->aG prog 210 #[.pointer a.gt, .agg #[e,l,i,true]] W λr w'=>∃(y:En) (b:Bool),r= .returned (.tuple #[.agg #[y.env,y.cN,y.frame,y.write],b, .int .i64 (if lG ⟨e,l,i,true⟩=true then 0 else 1)])/\bQ (Nw (Fb F z) f.heap.size W) w' g a {k with t:=xK k.t ⟨e,l,i,true⟩}/\Kp (Nw (Fb F z) f.heap.size W) W w'/\w'.cell? (g,1)=some (.pointer a.gt)/\w'.cell? (z,1)=some (.int .i64 i)):=λW X=>by
    obtain⟨G2,ht,back⟩:=(dN.grow (bQ.cD g a k) u.o.1 u.o.1.fl X).tb;refine(MT ht Z.o.t ⟨e,l,i,true⟩).mono ?_;rintro r B ⟨y,bo,rfl,R,S⟩;obtain⟨m,n⟩:=back _ _ R S;exact⟨y,bo,rfl,m,n,m.pt,n.cell (bG X A) (.inl (.inr rfl))⟩
   generalize (if lG ⟨e,l,i,true⟩=true then(0:Int) else 1)=er at *;have T:aH (∀o,aD f f (f.alloc o).drew):=λo=>(aX f o).drew
   have D:g≠f.heap.size:=by have:=u.o.1.bk.lt;omega
   have E:z≠f.heap.size:=by have:=World.block_lt_of_cell? f _ A;simp only at this;omega
   go_region_held3 (λW=>W.cell? (g,1)=some (.pointer a.gt)/\W.cell? (z,1)=some (.int .i64 i)) (first|with_reducible exact⟨‹_›,‹_›⟩|exact⟨by simp only[dJ D,dJ H];with_reducible assumption,by simp only[dJ E,dJ I];with_reducible assumption⟩|exact⟨bG (aX f _).drew pt,bG (aX f _).drew A⟩|exact⟨bG (aX _ _) pt,bG (aX _ _) A⟩|exact⟨bG (aX _ _) ‹_›,bG (aX _ _) ‹_›⟩|exact⟨pt,A⟩|fail) ((go_at_call 210;first|((refine aS (Q.o _ (Below.refl _ _).drew) ?_);rintro r B ⟨y,bo,rfl,m,n,U,Y⟩;(have H:g≠B.heap.size:=by have:=m.bk.lt;omega);(have I:z≠B.heap.size:=by have:=World.block_lt_of_cell? B _ Y;simp only at this;omega);(have j:=bN m n);clear m n)|((refine aS (Q.o _ (T.o _)) ?_);rintro r B ⟨y,bo,rfl,m,n,U,Y⟩;(have p:bF B f.heap.size 396 #[aU,aU,aU,false]:=n.aY (bF.new f 396 #[aU,aU,aU,false]) (.inr ⟨Zw _,(show f.heap.size<(f.alloc (aI #[aU,aU,aU,false] 396)).heap.size by simp)⟩));(have z0:=p.cell 0 _ rfl);(have z1:=p.cell 1 _ rfl);(have z2:=p.cell 2 _ rfl);(have z3:=p.cell 3 _ rfl);(have f0:=p.frozen 0);(have f1:=p.frozen 1);(have f2:=p.frozen 2);(have f3:=p.frozen 3);(have j:=bN m n);(have H:=D);(have I:=E);clear p m n)|fail))
   all_goals
    clear pt A Q Z;go_wp2_with fail
    go_ret
    rw[v.o];first
     |exact⟨rfl,LD u.o j.o (aX _ _)⟩
     |exact⟨rfl,LD u.o j.o (aX _ _).drew⟩
     |exact⟨rfl,LD u.o j.o ((((((aX _ _).setCell (Zw _) _).setCell (Zw _) _).setCell (Zw _) _).setCell (Zw _) _))⟩
     |exact⟨rfl,Qs u.o j.o (aZ (aZ (aZ (aZ (bK _ _) 0 _) 1 _) 2 _) 3 _)⟩
 .have hw1':(wr==1)=false:=by simp[M]
  have v:aH (rk=match jI k.c e s 1 1 with
   |none=>(23,k)
   |some h=>(if lG ⟨e,l,h.ob,false⟩ then 0 else 1,{k with t:=xK k.t ⟨e,l,h.ob,false⟩})):=by unfold aH;rw[L.o];simp only[aaA M,aaP M]
  have q:=lU K e s 1 1;clear h hw K L;cases hq:jI k.c e s 1 1 with
  |none=>
   rw[hq] at q v;have q:=aP q;clear hq;go_enter func167,ntmps167
   go_wp2_with fail
   refine aR q ?_;rintro r N ⟨rfl,d⟩;simp only[mA,ab5];have V:=aP (J.o.below (d.alloc d.size (aI #[aU,aU,aU] 154)));clear d;go_wp2_with fail
   go_ret
   rw[v.o];exact⟨rfl,⟨a,V.o.1⟩,V.o.2⟩
  |some x=>
   rw[hq] at q v;have q:=aP q;clear hq;obtain⟨O,i,P,x4,x5⟩:=x;simp only at v;go_enter func167,ntmps167
   go_wp2_with fail
   refine aR q ?_;rintro r N ⟨rfl,d⟩;simp only[mA,ab4];have C:=d.alloc d.size (aI #[O,i,P] 154);have yb:=bF.new N 154 #[O,i,P];have u:=aP (And.intro ((bQ.cD g a k).box (J.o.below d).1 (J.o.below d).1.fl (aI #[O,i,P] 154)) (J.o.below C).2);clear d C pc;go_upto_region 9 with(fail)
   generalize N.alloc (aI #[O,i,P] 154)=f at *;generalize N.heap.size=z at *;have A:=yb.cell 1 i rfl;have pt:=u.o.1.pt;unfold pA at pt;clear yb;have Q:aH (∀W,aD f f W->aG prog 210 #[.pointer a.gt, .agg #[e,l,i,false]] W λr w'=>∃(y:En) (b:Bool),r= .returned (.tuple #[.agg #[y.env,y.cN,y.frame,y.write],b, .int .i64 (if lG ⟨e,l,i,false⟩=true then 0 else 1)])/\bQ (Nw (Fb F z) f.heap.size W) w' g a {k with t:=xK k.t ⟨e,l,i,false⟩}/\Kp (Nw (Fb F z) f.heap.size W) W w'/\w'.cell? (g,1)=some (.pointer a.gt)/\w'.cell? (z,1)=some (.int .i64 i)):=λW X=>by
    obtain⟨G2,ht,back⟩:=(dN.grow (bQ.cD g a k) u.o.1 u.o.1.fl X).tb;refine(MT ht Z.o.t ⟨e,l,i,false⟩).mono ?_;rintro r B ⟨y,bo,rfl,R,S⟩;obtain⟨m,n⟩:=back _ _ R S;exact⟨y,bo,rfl,m,n,m.pt,n.cell (bG X A) (.inl (.inr rfl))⟩
   generalize (if lG ⟨e,l,i,false⟩=true then(0:Int) else 1)=er at *;have T:aH (∀o,aD f f (f.alloc o).drew):=λo=>(aX f o).drew
   have D:g≠f.heap.size:=by have:=u.o.1.bk.lt;omega
   have E:z≠f.heap.size:=by have:=World.block_lt_of_cell? f _ A;simp only at this;omega
   go_region_held3 (λW=>W.cell? (g,1)=some (.pointer a.gt)/\W.cell? (z,1)=some (.int .i64 i)) (first|with_reducible exact⟨‹_›,‹_›⟩|exact⟨by simp only[dJ D,dJ H];with_reducible assumption,by simp only[dJ E,dJ I];with_reducible assumption⟩|exact⟨bG (aX f _).drew pt,bG (aX f _).drew A⟩|exact⟨bG (aX _ _) pt,bG (aX _ _) A⟩|exact⟨bG (aX _ _) ‹_›,bG (aX _ _) ‹_›⟩|exact⟨pt,A⟩|fail) ((go_at_call 210;first|((refine aS (Q.o _ (Below.refl _ _).drew) ?_);rintro r B ⟨y,bo,rfl,m,n,U,Y⟩;(have H:g≠B.heap.size:=by have:=m.bk.lt;omega);(have I:z≠B.heap.size:=by have:=World.block_lt_of_cell? B _ Y;simp only at this;omega);(have j:=bN m n);clear m n)|((refine aS (Q.o _ (T.o _)) ?_);rintro r B ⟨y,bo,rfl,m,n,U,Y⟩;(have p:bF B f.heap.size 396 #[aU,aU,aU,false]:=n.aY (bF.new f 396 #[aU,aU,aU,false]) (.inr ⟨Zw _,(show f.heap.size<(f.alloc (aI #[aU,aU,aU,false] 396)).heap.size by simp)⟩));(have z0:=p.cell 0 _ rfl);(have z1:=p.cell 1 _ rfl);(have z2:=p.cell 2 _ rfl);(have z3:=p.cell 3 _ rfl);(have f0:=p.frozen 0);(have f1:=p.frozen 1);(have f2:=p.frozen 2);(have f3:=p.frozen 3);(have j:=bN m n);(have H:=D);(have I:=E);clear p m n)|fail))
   all_goals
    clear pt A Q Z;go_wp2_with fail
    go_ret
    rw[v.o];first
     |exact⟨rfl,LD u.o j.o (aX _ _)⟩
     |exact⟨rfl,LD u.o j.o (aX _ _).drew⟩
     |exact⟨rfl,LD u.o j.o ((((((aX _ _).setCell (Zw _) _).setCell (Zw _) _).setCell (Zw _) _).setCell (Zw _) _))⟩
     |exact⟨rfl,Qs u.o j.o (aZ (aZ (aZ (aZ (bK _ _) 0 _) 1 _) 2 _) 3 _)⟩
end
section
theorem SD{a:Ka}(h:bQ F w g a k)(e:Int)(he:0<=e/\e<8):aG prog 219 #[.pointer a.gr,e] w λx w'=>∃(y:Up) (r:Int),x= .returned (.tuple #[.agg #[y.kind,y.a, .int .u64 y.b],r])/\bQ F w' g a k/\Kp F w w':=by
 obtain⟨G,f,back⟩:=h.rw;refine(UW f e he).mono ?_;rintro x w' ⟨y,r,rfl,c,d⟩;exact⟨y,r,rfl,(back _ c d).1,(back _ c d).2⟩
theorem YV{a:Ka}(h:bQ F w g a k)(e:Int)(he:0<=e/\e<8):aG prog 173 #[.pointer g,e] w λr w'=>∃N E:Int,(0<=N/\N<18446744073709551616)/\r= .returned (.tuple #[.int .u64 N,E])/\bQ F w' g a k/\Kp F w w':=by
 have pr:=h.pr;unfold pA at pr;have q:=aP (SD h e he);clear h he;go_enter func173,ntmps173
 go_wp2_with fail
 refine aR q ?_;rintro r i ⟨y,E,rfl,m,p⟩;obtain⟨c,d,f⟩:=y;have b:=aX i (aI #[c,d, .int .u64 f] 248);have yb:=bF.new i 248 #[c,d, .int .u64 f];have j:aH (bQ F (i.alloc (aI #[c,d, .int .u64 f] 248)) g a k/\Kp F w (i.alloc (aI #[c,d, .int .u64 f] 248))):=⟨(m.below b).1,p.trans (m.below b).2⟩
 clear m p b;have s:=yb.cell 0 c rfl;have t:=yb.cell 1 d rfl;have u:=yb.cell 2 (.int .u64 f) rfl;by_cases l:E=0
 .have n:(E !=0)=false:=by simp[l]
  clear l;go_wp2_with fail
  go_ret2
  refine⟨_,_,?_,rfl,j.o.1,j.o.2⟩;unfold bits;rw[IntKind.wrap_u64];omega
 .have n:(E !=0)=true:=by simp[l]
  clear l;go_wp2_with fail
  go_ret2
  exact⟨0,E,aQ,rfl,j.o.1,j.o.2⟩
end
end
section
open Go.RowKit
namespace Pa
def fC(op:Int)(i:Nat):Bool:=
 match i with
 |0=>op==1 || op==2 || op==6 || op==9 || op==10 || op==11 || op==12 || op==14 || op==3 || op==13 || op==17 || op==4 || op==5 || op==7 || op==8
 |1=>op==3 || op==13 || op==17 || op==4 || op==5 || op==7 || op==8
 |2=>op==4 || op==5 || op==7 || op==8 || op==15
 |_=>op==8 || op==15
def iH(n:Int)(had:Bool)(most:Int):Bool:=if had then decide (0<=n/\n<=most) else n==0
def iT(op a b c d:Int):Bool:=decide (0<=op/\op<=19)&&iH a (fC op 0) 255&&iH b (fC op 1) 255&&iH c (fC op 2) 1048575&&iH d (fC op 3) 1048575
theorem xU(n:Int)(b:Bool)(a:Int)(w:aA):aG prog 205 #[n,b,a] w λe w'=>e= .returned (.bool (iH n b a))/\w=w':=by
 cases b
 .go_enter func205,ntmps205
  go_wp2
  go_ret
  exact⟨rfl,rfl⟩
 .go_enter func205,ntmps205
  go_wp2
  all_goals go_ret
  all_goals refine⟨jL ?_,rfl⟩
  all_goals unfold iH
  all_goals simp
  all_goals omega
theorem lU(op:Int)(w:aA)(a:0<=op)(h1:op<=19):aG prog 204 #[op] w λe w'=>e= .returned (.tuple #[.bool (fC op 0), .bool (fC op 1), .bool (fC op 2), .bool (fC op 3)])/\w=w':=by
 obtain⟨n,rfl⟩:=aaB a;have b:n<=19:=aQ;clear a h1;rcases(show n=0\/n=1\/n=2\/n=3\/n=4\/n=5\/n=6\/n=7\/n=8\/n=9\/n=10\/n=11\/n=12\/n=13\/n=14\/n=15\/n=16\/n=17\/n=18\/n=19 by omega) with rfl|rfl|rfl|rfl|rfl|rfl|rfl|rfl|rfl|rfl|rfl|rfl|rfl|rfl|rfl|rfl|rfl|rfl|rfl|rfl
 all_goals
  clear b;go_enter func204,ntmps204
  go_wp2
  exact bodyPost_ret (v:= .tuple #[_,_,_,_]) (by simp[results,results204,go_sem];exact⟨rfl,rfl,rfl,rfl⟩) rfl ⟨rfl,rfl⟩
theorem J7(op a b c d:Int)(w:aA):aG prog 162 #[.agg #[op,a,b,c,d]] w λe w'=>e= .returned (.bool (iT op a b c d))/\aD w w w':=by
 by_cases f:0<=op/\op<=19
 .obtain⟨f,h1⟩:=f;have h:=aP (λW=>lU op W f h1);have g:iT op a b c d=(iH a (fC op 0) 255&&iH b (fC op 1) 255&&iH c (fC op 2) 1048575&&iH d (fC op 3) 1048575):=by unfold iT;simp[f,h1]
  rw[g];clear g;have i:=aP (λW=>xU a (fC op 0) 255 W);have j:=aP (λW=>xU b (fC op 1) 255 W);have k:=aP (λW=>xU c (fC op 2) 1048575 W);have l:=aP (λW=>xU d (fC op 3) 1048575 W);generalize iH a (fC op 0) 255=m at *;generalize iH b (fC op 1) 255=q1 at *;generalize iH c (fC op 2) 1048575=q2 at *;generalize iH d (fC op 3) 1048575=q3 at *;generalize fC op 0=p0 at *;generalize fC op 1=p1 at *;generalize fC op 2=p2 at *;generalize fC op 3=p3 at *;cases m <;> cases q1 <;> cases q2
  all_goals
   go_enter func162,ntmps162
   go_wp2_with(first|(go_at_call 204;(with_reducible refine(h.o _).mono ?_);rintro e n ⟨rfl,rfl⟩)|(go_at_call 205;(first|(with_reducible refine(i.o _).mono ?_)|(with_reducible refine(j.o _).mono ?_)|(with_reducible refine(k.o _).mono ?_)|(with_reducible refine(l.o _).mono ?_));rintro e n ⟨rfl,rfl⟩))
   go_ret
   exact⟨aT,aX _ _⟩
 .have g:iT op a b c d=false:=by unfold iT;simp[f]
  rw[g];clear g;by_cases h1:op<0
  .go_enter func162,ntmps162
   go_wp2
   go_ret
   exact⟨rfl,aX _ _⟩
  .have p:19<op:=aQ;clear f;go_enter func162,ntmps162
   go_wp2
   go_ret
   exact⟨rfl,aX _ _⟩
end Pa
namespace Pa
def nN:List Fl:= [⟨0,8⟩,⟨8,8⟩,⟨16,8⟩,⟨24,20⟩,⟨44,20⟩]
theorem D8(x:Nat)(a:x<18446744073709551616):nN.map (tD · (x:Int))= [((x%256:Nat):Int),((x /256%256:Nat):Int),((x /65536%256:Nat):Int),((x /16777216%1048576:Nat):Int),((x /17592186044416:Nat):Int)]:=by
 simp[nN,tD,DQ,yK,MZ.MF];omega
end Pa
namespace Pa
end Pa
section
namespace Pa
variable{sz:Nat}
theorem _root_.Go.Proofs.YtacgiflhgdaeaaaGreat.Sl.lit{α:Type}{enc:α->List aC}(he:eL enc sz)(w:aA)(xs:List α)(cs:Array aC)(a:cs.toList=xs.flatMap enc)(t:TypeId):Sl enc sz (w.alloc (.cells cs t)) (some ⟨w.heap.size,0,none⟩) xs:=λ_=>by
 refine⟨w.heap.size,0,rfl,λi x j u b hu=>?_⟩;have c:j<sz:=by rw[<-he.len x];exact(aaN.1 hu).1
 have h1:=cell_of_row (w.alloc (.cells cs t)) w (i *sz+j) cs t (0,0) (heap_alloc_new w _);rw[aa8,h1,<-aaX,a,kM he.len xs i x j b c,hu]
def tY:Array aC:=#[aU, .int .i64 8, .int .i64 8, .int .i64 8, .int .i64 16, .int .i64 8, .int .i64 24, .int .i64 20, .int .i64 44, .int .i64 20]
theorem DB(w:aA):aG prog 161 #[] w λe w'=>e= .returned (.slice w.heap.size 5 5)/\w'=w.alloc (.cells tY 384):=by
 go_enter func161,ntmps161
 go_wp2
 go_ret
 exact⟨rfl,rfl⟩
end Pa
end
namespace Pa
theorem tS(w:aA)(g:Nat)(v0 v1 v2 v3 v4:aC):w.grownBy (((((w.setCell (g,0) (v0)).setCell (g,1) (v1)).setCell (g,2) (v2)).setCell (g,3) (v3)).setCell (g,4) (v4)) (some g):=
 aZ (aZ (aZ (aZ (aZ (bK w g) 0 v0) 1 v1) 2 v2) 3 v3) 4 v4
theorem ZW(x n0 n1 c f j:Nat)(w:aA)(S:x<18446744073709551616)(F:nN.map (tD · (x:Int))= [(n0:Int),(n1:Int),(c:Int),(f:Int),(j:Int)])(hs:n0<1000000000/\n1<1000000000/\c<1000000000/\f<1000000000/\j<1000000000)(q:Bool)(hq:iT n0 n1 c f j=q):
 aG prog 118 #[.int .u64 x] w λe w'=>e= .returned (if q then .tuple #[.agg #[n0,n1,c,f,j],aU] else .tuple #[.agg #[aU,aU,aU,aU,aU], .int .i64 21])/\aD w w w':=by
 have T:IntKind.i64.wrap (n0:Int)=n0:=by rw[IntKind.wrap_i64];omega
 have U:IntKind.i64.wrap (n1:Int)=n1:=by rw[IntKind.wrap_i64];omega
 have V:IntKind.i64.wrap (c:Int)=c:=by rw[IntKind.wrap_i64];omega
 have X:IntKind.i64.wrap (f:Int)=f:=by rw[IntKind.wrap_i64];omega
 have Y:IntKind.i64.wrap (j:Int)=j:=by rw[IntKind.wrap_i64];omega
 have G:=aP (λW=>J7 n0 n1 c f j W);rw[hq] at G;have O:aH (∀(W:aA) (A:Option aJ),Sl eF 2 W A nN->aG prog 160 #[.slice A 5 5, .int .u64 (x:Int)] W (WE eU 1 75 [(n0:Int),(n1:Int),(c:Int),(f:Int),(j:Int)] W)):=λW A h=>by rw[<-F];exact OH A nN x 5 W h cC aQ aQ
 clear F;have l:=aX w (aI #[aU,aU,aU,aU,aU] 281);have bk:=bF.new w 281 #[aU,aU,aU,aU,aU];go_enter func118,ntmps118
 go_wp2_with fail
 refine(DB _).mono ?_;rintro e Z ⟨rfl,rfl⟩;have b:=Sl.lit Js (w.alloc (aI #[aU,aU,aU,aU,aU] 281)) nN tY rfl 384;generalize w.alloc (aI #[aU,aU,aU,aU,aU] 281)=wa at *;replace l:=l.alloc l.size (aI tY 384);replace bk:=bk.alloc (aI tY 384);go_wp2_with fail
 refine(O.o _ _ b).mono ?_;rintro e w2 ⟨A,k,rfl,own,hb⟩;replace bk:=bk.keep hb;replace l:=fK l aT hb;clear hb b;rcases own.shape with⟨_,u,_⟩|⟨g,rfl⟩
 .cases u
 have b:=own.sl xS;have P:=own.lt g rfl;have c0:=b.GC (i:=0) aT;have c1:=b.GC (i:=1) aT;have c2:=b.GC (i:=2) aT;have c3:=b.GC (i:=3) aT;have c4:=b.GC (i:=4) aT;simp only[abL,abG,aa8] at c0 c1 c2 c3 c4;clear b own;go_wp2_with fail
 have m:=bD c0;have n:=bD c1;have p:=bD c2;have r:=bD c3;have s:=bD c4;refine bO (bS _) (λ_=>bS) [5] (λ_ v w=>EO (jA c0) 281 #[aU,aU,aU,aU,aU] v w) [22] [] 35 (bY _) (λ_ _ _ h B=>bU h B) (λ_ d hd _ v w w' _ h B=>h.keep B) aV aV bL ?_;repeat (first|(refine eA ?_)|(refine uG 5 [] bL bL bL bL (λγ w hC C=>?_) ?_;(simp only[cO];go_simp;exact p5 (aX w _) ⟨_,rfl,Below.size hC,bF.new w _ _⟩);(try refine dE ?_)))
 refine dC ?_;intro γ w_ hb_ C;clear m n p r s;simp only[cO,Act.put,Zx,aaE,aaD];refine dP ?_;obtain⟨g5,H,y,z⟩:=C 5 aT;simp only[H];clear C H;refine iP y hb_ z rfl 281 _ _ rfl #[n0,n1,c,f,j] rfl rfl rfl aV aV ?_;clear y hb_ z;intro w3 t D;refine cI ?_;simp only[Act.put];obtain⟨Q,a⟩:=D;replace bk:=bk.keep t;replace l:=fK l aT t;have I:=a.cell 0 n0 rfl;have J:=a.cell 1 n1 rfl;have K:=a.cell 2 c rfl;have L:=a.cell 3 f rfl;have M:=a.cell 4 j rfl;clear t;go_wp2_with fail
 refine(G.o _).mono ?_;rintro e N ⟨rfl,hb⟩;replace bk:=bk.keep hb;replace a:=a.keep hb;replace l:=fK l aT hb;clear hb I J K L M;have R:=bk.lt;have I:=a.cell 0 n0 rfl;have J:=a.cell 1 n1 rfl;have K:=a.cell 2 c rfl;have L:=a.cell 3 f rfl;have M:=a.cell 4 j rfl;have z0:=bk.cell 0 (.int .i64 0) rfl;have z1:=bk.cell 1 (.int .i64 0) rfl;have z2:=bk.cell 2 (.int .i64 0) rfl;have z3:=bk.cell 3 (.int .i64 0) rfl;have z4:=bk.cell 4 (.int .i64 0) rfl;have f0:=bk.frozen 0;have f1:=bk.frozen 1;have f2:=bk.frozen 2;have f3:=bk.frozen 3;have f4:=bk.frozen 4;cases q
 .go_wp2
  have E:=l.grown (tS N w (.int .i64 0) (.int .i64 0) (.int .i64 0) (.int .i64 0) (.int .i64 0)) l.size (λk hk=>by injection hk with hk;omega);exact bodyPost_ret (v:= .tuple #[.agg #[aU,aU,aU,aU,aU], .int .i64 21]) (by simp[results,results118,go_sem, *]) rfl ⟨rfl,E⟩
 .go_wp2
  have E:=l.grown (tS N w (.int .i64 n0) (.int .i64 n1) (.int .i64 c) (.int .i64 f) (.int .i64 j)) l.size (λk hk=>by injection hk with hk;omega);exact bodyPost_ret (v:= .tuple #[.agg #[n0,n1,c,f,j],aU]) (by simp[results,results118,go_sem, *]) rfl ⟨rfl,E⟩
end Pa
end
section
open Go.RowKit Go.Lib Go.Shelf dF Fr Up Nt
variable{F:Nat->Prop}{w w1 w2:aA}{q1 g:Nat}{k k':Kv}{op D N E:Int}
section
def p9(F:Nat->Prop)(g:Nat)(k:Kv)(e op A B C D:Int)(w:aA)(r:aM)(w':aA):Prop:=∃(N E:Int) (k':Kv),(lF k e op A B C D N E k'\/(N=0/\E=1/\k'=k))/\gJ F g k' (.tuple #[.int .u64 N,E]) w r w'
theorem Ny{e:Nat}(he:e<4):nY (e:Int)=true:=aa2 aQ
theorem BxK.uJ{a:Ka}{e A B C:Int}(h:BxK F w w1 q1 g a k op A B C D)(hd:lF k e op A B C D N E k')(hm:KM (Fb F q1) w2 g k')(kp:Kp (Fb F q1) w1 w2):p9 F g k e op A B C D w (.returned (.tuple #[.int .u64 N,E])) w2:=
 ⟨N,E,k', .inl hd,rfl,hm.less (λb hb=> .inl hb),h.k.trans kp.unbox⟩
theorem ZU{a:Ka}(h:bQ F w g a k)(hw:KW k)(e p:Int):aG prog 168 #[.pointer a.gt,e,p] w λr w'=>∃v:Bool,r= .returned (.bool v)/\bQ F w' g a {k with t:=OV k.t e p}/\Kp F w w':=by
 obtain⟨G,d,back⟩:=h.tb;refine(Y1 d hw.t e p).mono ?_;rintro r w' ⟨v,rfl,b,c⟩;exact⟨v,rfl,(back _ _ b c).1,(back _ _ b c).2⟩
theorem Hl{a:Ka}(h:bQ F w g a k)(e op A B C D:Int)(he:nY e=false):aG prog 119 #[.pointer g,e, .agg #[op,A,B,C,D]] w (p9 F g k e op A B C D w):=by
 have c:=aP (BxK.new h op A B C D);have b:=BO c.o.m e;rw[he] at b;have b:=aP b;clear h he;go_enter func119,ntmps119
 go_upto_region 3 with(fail)
 generalize w.alloc (aI #[op,A,B,C,D] 281)=w1 at *;generalize w.heap.size=q1 at *;go_wp2_with fail
 refine aR b ?_;rintro r f ⟨rfl,rfl⟩;have d:aH (p9 F g k e op A B C D w (.returned (.tuple #[bC, .int .i64 1])) w1):=⟨0,1,k, .inr ⟨rfl,rfl,rfl⟩,rfl,c.o.o.1,c.o.o.2⟩
 clear c b;go_wp2_with fail
 go_ret2
 exact d.o
theorem Fi{A B C:Int}(h:Pa.iT op A B C D=true):(0<=op/\op<=19)/\0<=A:=by
 unfold Pa.iT at h;simp only[aa6,acB] at h;obtain⟨⟨⟨⟨a,h1⟩,_⟩,_⟩,_⟩:=h;refine⟨a,?_⟩;unfold Pa.iH at h1;split at h1
 .have:=abQ h1;exact this.1
 .rw[beq_iff_eq] at h1;omega
theorem Pw{a:Ka}(h:bQ F w g a k)(hw:KW k)(U:k.n+1<=1000000)(e:Nat)(he:e<4)(op A B C D:Int):aG prog 119 #[.pointer g,e, .agg #[op,A,B,C,D]] w (p9 F g k e op A B C D w):=by
 have L:=aP (BxK.new h op A B C D);have z:=BO L.o.m (e:Int);rw[Ny he] at z;have z:=aP z;obtain⟨rb,Q⟩:∃rb,Pa.iT op A B C D=rb:=⟨_,rfl⟩
 have G:=λW=>Pa.J7 op A B C D W
 rw[Q] at G;have G:=aP G;have q:=aP Q;have j:=aP hw;have H:=aP he;have R:=aP U;clear h hw Q he U;go_enter func119,ntmps119
 go_upto_region 3 with(fail)
 generalize w.alloc (aI #[op,A,B,C,D] 281)=w1 at *;generalize w.heap.size=q1 at *;obtain⟨M,x,O,P,I⟩:=L.o.xs;go_wp2_with fail
 refine aR z ?_;rintro r Y ⟨rfl,rfl⟩;go_wp2_with fail
 refine aS (G.o _) ?_;rintro r l ⟨rfl,J⟩;have b:=aP (L.o.below J);clear M x O P I z G J L;cases rb with
 |false=>
  have s:aH (p9 F g k e op A B C D w (.returned (.tuple #[bC, .int .i64 1])) l):=⟨0,1,k, .inr ⟨rfl,rfl,rfl⟩,rfl,b.o.o.1,b.o.o.2⟩
  clear b q j H R;go_wp2_with fail
  go_ret2
  exact s.o
 |true=>
  obtain⟨M,x,O,P,I⟩:=b.o.xs;have i:aH (∀{f:FuncId} {args:Array aC} {Φ:aM->aA->Prop},aG prog f args l Φ->(∀r w',Φ r w'->(λr w'=>∃E,r= .returned (.int .i64 E)/\p9 F g k e op A B C D w (.returned (.tuple #[bC, .int .i64 E])) w') r w')->aG prog f args l (λr w'=>∃E,r= .returned (.int .i64 E)/\p9 F g k e op A B C D w (.returned (.tuple #[bC, .int .i64 E])) w')):=λh k=>h.mono k
  have y:aH (∀{f:FuncId} {args:Array aC} {Φ:aM->aA->Prop},aG prog f args l Φ->(∀r w',Φ r w'->(λr w'=>∃N E,r= .returned (.tuple #[.int .u64 N, .int .i64 E])/\p9 F g k e op A B C D w (.returned (.tuple #[.int .u64 N, .int .i64 E])) w') r w')->aG prog f args l (λr w'=>∃N E,r= .returned (.tuple #[.int .u64 N, .int .i64 E])/\p9 F g k e op A B C D w (.returned (.tuple #[.int .u64 N, .int .i64 E])) w')):=λh k=>h.mono k
  have S:=(Fi q.o).1;clear q;rcases(by omega:op=0\/op=6\/op=1\/op=3\/op=18\/op=2\/op=4\/op=5\/op=7\/op=8\/op=9\/op=10\/op=11\/op=12\/op=13\/op=14\/op=15\/op=16\/op=17\/op=19) with rfl|rfl|rfl|rfl|rfl|rfl|rfl|rfl|rfl|rfl|rfl|rfl|rfl|rfl|rfl|rfl|rfl|rfl|rfl|rfl
  all_goals clear S
  .have s:aH (p9 F g k e 0 A B C D w (.returned (.tuple #[bC,aU])) l):=⟨0,0,k, .inl (.null rfl),rfl,b.o.o.1,b.o.o.2⟩
   clear j H R i y;go_wp2_with fail
   go_ret2
   exact s.o
  .have pt:=b.o.m.pt;unfold pA at pt;have c:aH (∀W,aD l l W->aG prog 168 #[.pointer a.gt,e,A] W λr w'=>∃v:Bool,r= .returned (.bool v)/\bQ (Fb F q1) w' g a {k with t:=OV k.t e A}/\Kp (Fb F q1) l w'):=λW V=>(ZU (b.o.m.below V).1 j.o e A).mono (by
    rintro r w' ⟨v,rfl,h1,X⟩;exact⟨v,rfl,h1,(b.o.m.below V).2.trans X⟩)
   clear i y;go_upto_region 17 with(fail)
   go_region_held3 (λW=>W.cell? (g,1)=some (.pointer a.gt)/\W.cell? (q1,1)=some (.int .i64 A)) (first|exact⟨pt,x⟩|exact⟨‹_›,‹_›⟩) ((go_at_call 168;(refine aS (c.o _ (Below.refl _ _).drew) ?_);rintro r d ⟨v,rfl,hm,kp⟩;(have K:=hm.pt);(have I:=kp.cell x (.inr rfl));(unfold pA at K);(have T:=bN hm kp);clear hm kp))
   all_goals
    have s:aH (∀E,p9 F g k e 6 A B C D w (.returned (.tuple #[bC, .int .i64 E])) d):=λE=>b.o.uJ (.yR rfl) ⟨a,T.o.1⟩ T.o.2
    clear c M x O P I pt K T;cases v
    all_goals
     go_wp2_with fail
     go_ret2
     exact s.o _
  have c:=y.o (WC b.o.m j.o e A) (by rintro r d ⟨rfl,hm,kp⟩;exact⟨_,_,rfl,b.o.uJ (.alloc rfl) hm kp⟩);rotate_left
  have c:=y.o (YB b.o.m e A B) (by rintro r d ⟨rfl,hm,kp⟩;exact⟨_,_,rfl,b.o.uJ (.read rfl) hm kp⟩);rotate_left
  have c:=y.o (YV b.o.m e (by have:=H.o;omega)) (by rintro r d ⟨Z,E1,hf,rfl,hm,kp⟩;exact⟨_,_,rfl,b.o.uJ (.next rfl hf) ⟨a,hm⟩ kp⟩);rotate_left
  have c:=i.o (Al b.o.m j.o e A) (by rintro r d ⟨E,p,hf,rfl,hm,kp⟩;exact⟨_,rfl,b.o.uJ (.free rfl hf) hm kp⟩);rotate_left
  have c:=i.o (VE b.o.m e A B C) (by rintro r d ⟨rfl,hm,kp⟩;exact⟨_,rfl,b.o.uJ (.write rfl) hm kp⟩);rotate_left
  have c:=i.o (Be b.o.m j.o e A B C) (by rintro r d ⟨rfl,hm,kp⟩;exact⟨_,rfl,b.o.uJ (.load rfl) hm kp⟩);rotate_left
  have c:=i.o (QQ b.o.m j.o e A B C D) (by rintro r d ⟨E,p,hf,rfl,hm,kp⟩;exact⟨_,rfl,b.o.uJ (.hand cC hf) hm kp⟩);rotate_left
  have c:=i.o (XQ b.o.m j.o e A B C D) (by rintro r d ⟨E,p,hf,rfl,hm,kp⟩;exact⟨_,rfl,b.o.uJ (.hand cC hf) hm kp⟩);rotate_left
  have c:=i.o (QK b.o.m j.o e A B C D) (by rintro r d ⟨E,p,hf,rfl,hm,kp⟩;exact⟨_,rfl,b.o.uJ (.hand cC hf) hm kp⟩);rotate_left
  have c:=i.o (XP b.o.m j.o e A B C D) (by rintro r d ⟨E,p,hf,rfl,hm,kp⟩;exact⟨_,rfl,b.o.uJ (.hand cC hf) hm kp⟩);rotate_left
  have c:=i.o (DM b.o.m e 11 A B C D cC) (by rintro r d ⟨E,rfl,hm,kp⟩;exact⟨_,rfl,b.o.uJ (.line cC) hm kp⟩);rotate_left
  have c:=i.o (DM b.o.m e 12 A B C D cC) (by rintro r d ⟨E,rfl,hm,kp⟩;exact⟨_,rfl,b.o.uJ (.line cC) hm kp⟩);rotate_left
  have c:=i.o (DM b.o.m e 13 A B C D cC) (by rintro r d ⟨E,rfl,hm,kp⟩;exact⟨_,rfl,b.o.uJ (.line cC) hm kp⟩);rotate_left
  have c:=i.o (W0 b.o.m R.o e H.o A) (by rintro r d ⟨E,p,hf,rfl,hm,kp⟩;exact⟨_,rfl,b.o.uJ (.p7 rfl hf) hm kp⟩);rotate_left
  have c:=i.o (YH b.o.m j.o e A B C D) (by rintro r d ⟨E,p,hf,rfl,hm,kp⟩;exact⟨_,rfl,b.o.uJ (.time (.inl rfl) hf) hm kp⟩);rotate_left
  have c:=i.o (YI b.o.m j.o e A B C D) (by rintro r d ⟨E,p,hf,rfl,hm,kp⟩;exact⟨_,rfl,b.o.uJ (.time (.inr (.inl rfl)) hf) hm kp⟩);rotate_left
  have c:=i.o (Z2 b.o.m j.o e A B) (by rintro r d ⟨E,p,hf,rfl,hm,kp⟩;exact⟨_,rfl,b.o.uJ (.send rfl hf) hm kp⟩);rotate_left
  have c:=i.o (X1 b.o.m j.o e (by have:=H.o;omega) A B C D) (by rintro r d ⟨E,p,hf,rfl,hm,kp⟩;exact⟨_,rfl,b.o.uJ (.time (.inr (.inr rfl)) hf) hm kp⟩);rotate_left
  all_goals
   have c:=aP c;as_aux_lemma=>
   go_wp2_with fail
   refine aR c ?_;first
    |rintro r d ⟨N,E,rfl,u⟩
    |rintro r d ⟨E,rfl,u⟩
   have s:=aP u;clear u c i y M x O P I;go_wp2_with fail
   go_ret2
   exact s.o
theorem S6{a:Ka}(h:bQ F w g a k)(hw:KW k)(c:k.n+1<=1000000)(e op A B C D:Int):aG prog 119 #[.pointer g,e, .agg #[op,A,B,C,D]] w (p9 F g k e op A B C D w):=by
 cases he:nY e with
 |false=>exact Hl h e op A B C D he
 |true=>
  have b:=abQ he;obtain⟨n,rfl⟩:=aaB b.1;exact Pw h hw c n aQ op A B C D
end
end
section
open Go.RowKit Go.Lib Go.Shelf Go.Sort
variable{w:aA}{q:Nat}
section
def YN(x y:Du):Int:=Lib.compareInt x.hd y.hd
theorem Jk(x y:Du):ltOf YN x y=decide (x.hd<y.hd):=by
 unfold ltOf YN Lib.compareInt;by_cases h1:x.hd<y.hd
 .simp[h1]
 .by_cases a:y.hd<x.hd <;> simp[h1,a]
theorem Xw:SWO (ltOf YN) where
 irrefl x:=by rw[Jk];simp
 trans x y z h1 h2:=by rw[Jk] at *;simp at *;omega
 ntrans x y z h1 h2:=by rw[Jk] at *;simp at *;omega
theorem Ih(x y:Du)(W:aA):aG prog 189 #[.agg (uB x).toArray, .agg (uB y).toArray] W λe w'=>e= .returned (.int .i64 (YN x y))/\∃q b,w'=grow (W.drewN q) b:=by
 have a:=λc=>AnyG.cmp_Compare_int X3 x.hd y.hd c
 change ∀c,aG prog 147 _ _ _ at a
 show aG prog _ _ _ λe w'=>e= .returned (.int .i64 (Lib.compareInt x.hd y.hd))/\_
 generalize Lib.compareInt x.hd y.hd=r at a⊢;simp only[uB];obtain⟨d,f,g⟩:=x;go_enter func189,ntmps189
 go_wp2_with(go_at_call 147;refine(a _).mono ?_;rintro e w' ⟨rfl,rfl⟩)
 go_ret
 exact⟨rfl,0,_,by rw[alloc_eq_grow,alloc_eq_grow,grow_grow];rfl⟩
theorem X0(w:aA):aG prog 260 #[bH,aU,aU, .func (.func 189) #[] #[]] w λe w'=>e= .returned (.tuple #[])/\w=w':=by
 go_enter func260,ntmps260
 go_wp2_with fail
 go_loop [8] (λv8=>v8= .int .i64 1) (λ_=>0)
 case atStart=>exact rfl
 case round=>
  subst hrel;go_wp2_with fail
  refine bodyPost_end (v:= .tuple #[]) ?_ rfl ⟨rfl,rfl⟩;simp[results,results260,go_sem]
theorem Bj(w:aA):aG prog 230 #[bH,aU,aU,aU, .func (.func 189) #[] #[]] w λe w'=>e= .returned (.tuple #[])/\w=w':=by
 go_enter func230,ntmps230
 go_wp2_with fail
 go_loop [1,2,3] (λv1 v2 v3=>v1= .int .i64 0/\v2= .int .i64 0/\v3= .int .i64 0) (λ_ _ _=>0)
 case atStart=>exact⟨rfl,rfl,rfl⟩
 case round=>
  obtain⟨rfl,rfl,rfl⟩:=hrel;go_wp2_with fail
  refine aS (X0 _) ?_;rintro e a ⟨rfl,rfl⟩;go_wp2_with fail
  first
   |(refine bodyPost_ret (v:= .tuple #[]) ?_ rfl ⟨rfl,rfl⟩;simp[results,results230,go_sem])
   |(refine bodyPost_end (v:= .tuple #[]) ?_ rfl ⟨rfl,rfl⟩;simp[results,results230,go_sem])
theorem V0(w:aA):aG prog 188 #[bH, .func (.func 189) #[] #[]] w λe w'=>e= .returned (.tuple #[])/\w=w':=by
 have hl:aG prog 231 #[bC] w λe w'=>e= .returned (.int .i64 0)/\w'=w:=by
  have h:=Any.bits_Len (SlLaysF0.n15.bits (P:=prog) (ρ:=GF) {TR with}) 0 w aQ aQ;exact h
 go_enter func188,ntmps188
 go_wp2_with fail
 with_reducible refine hl.mono ?_
 rintro e a ⟨rfl,rfl⟩;go_wp2_with fail
 refine aS (Bj _) ?_;rintro e a ⟨rfl,rfl⟩;go_wp2_with fail
 go_end0
 exact⟨rfl,rfl⟩
def Zf(base c q:Nat)(L:List Du)(w:aA)(e:aM)(w':aA):Prop:=e= .returned (.tuple #[])/\∃L':List Du,L'.Perm L/\L'.Pairwise (λx y=>x.hd<=y.hd)/\bI uB 3 w' base 274 q c L'/\w.grownBy w' (some q)
theorem VU{base c:Nat}{L:List Du}(h:bI uB 3 w base 274 q c L)(hl:L.length<=1000000):aG prog 188 #[.slice q L.length c, .func (.func 189) #[] #[]] w (Zf base c q L w):=by
 have a:=AnyQ.slices_SortFunc TR 3 (λw=>by kernel_rfl) (λw=>by kernel_rfl) uB rD.len rD.one YN Xw 189 #[] q 0 c L.toArray w (enters_of func189 aV rfl) (λ_ _ _ _ x y=>Ih x y _) (MV rD cC h) (h.lt q rfl).2 (by rw[ac5];omega);refine Calls.mono (f:=188) a ?_;rintro e w' ⟨rfl,d,n,os,hp,hs,rfl⟩;obtain⟨h1,i⟩:=S7 hp;have j:d.size=L.length:=by rw[i,ac5]
 have g:L.toArray.size=d.size:=i.symm;rw[g] at hs;obtain⟨o1,o2⟩:=KG rD cC h d j n os;exact⟨rfl,d.toList,h1,GX hs (λx y b=>by rw[Jk] at b;have:=ad6 b;omega),o1,o2⟩
end
end
section
open Go.RowKit Go.Lib Go.Shelf
variable{w w' wr w9:aA}{n g c9:Nat}{X:(Nat->Prop)->aA->Prop}{F:Nat->Prop}{A A' A2 A9:Option aJ}
section
def zJ(f:Int->Option Du)(x:Int):Du:=(f x).getD ⟨0,0,0⟩
theorem FT{M:Nat}{f:Int->Option Du}(h:iG zL w M f)(x:Int):(Instr.lookup 335 (.map (some M)) (.int .i64 x) false).run prog w= .ok (zL (zJ f x)) w:=by
 rw[wI underlying335 underlying3 (z:= .agg #[aU,aU,aU]) aV h x false];unfold zJ;cases f x <;> rfl
theorem J1{y:Wa}(h:Wf y n)(x:Int):(0<=(zJ y.f x).wh/\(zJ y.f x).wh<4)/\0<=(zJ y.f x).at_/\(zJ y.f x).at_<=2097152:=by
 unfold zJ;cases hf:y.f x with
 |none=>simp
 |some d=>exact h.ok x d hf
theorem Sg:jS prog 270 274 3 24:=fU (z:= .agg #[aU,aU,aU]) underlying270 aV (by simp[Value.cells]) aQ
theorem dN.app(M:dN X)(h:X (cE F A) w)(fl:Ol F w)(hF:∀b,F b->aY A≠some b)(d:w.grownBy w' (aY A))(ha:aY A'=aY A\/aY A'=some w.heap.size)(c:∀q,aY A'=some q->q<w'.heap.size):X (cE F A') w'/\Kp F w w':=by
 have k:Kp F w w':=Kp.grown d λb hb=>⟨fl b hb,λe=>hF b hb e.symm⟩
 refine⟨M (cE F A) (λb=>b<w.heap.size/\aY A≠some b) _ w w' h (Kp.grown d λb hb=>⟨hb.1,λe=>hb.2 e.symm⟩) (λr f a=>⟨f,λe=>a (.inr e)⟩) (λb hb=>?_) (λr f a hc=>?_),k⟩
 .rcases hb with hb|hb
  .exact fl.kp k b hb
  .exact c b hb
 .rcases hc with hc|hc
  .exact a (.inl hc)
  .rcases ha with ha|ha
   .exact a (.inr (ha.symm.trans hc))
   .rw[ha] at hc;injection hc with hc;omega
def WO(F:Nat->Prop)(g n:Nat)(nw:Int)(w:aA)(e:aM)(w':aA):Prop:=∃(A:Option aJ) (c:Nat) (D:List Du),e= .returned (.slice A D.length c)/\D.length<=n/\(∀d∈D,0<=d.wh/\d.wh<4)/\bI uB 3 w' w.heap.size 274 A c D/\(∃y',dG (cE F A) w' g n y'/\y'.nw=nw)/\Kp F w w'
structure N2(F:Nat->Prop)(w wr:aA)(g n:Nat)(nw:Int)(A2:Option aJ)(c2:Nat)(D:List Du)(A:Option aJ)(c:Nat)(xs:List Int)(y:Wa):Prop where
 o:bI uB 3 wr w.heap.size 274 A2 c2 D
 d:∀d∈D,0<=d.wh/\d.wh<4
 m:dG (cE F A2) wr g n y
 r:bI eI 1 wr 0 3 A c xs
 nw:y.nw=nw
 k:Kp F w wr
theorem N2.app{c2 c:Nat}{nw:Int}{D:List Du}{xs:List Int}{y:Wa}(h:N2 F w wr g n nw A2 c2 D A c xs y)(fl:Ol F w)(o:Obj){d:Du}(hd:0<=d.wh/\d.wh<4)(a:bI uB 3 w9 w.heap.size 274 A9 c9 (D++ [d]))(j:(wr.alloc o).grownBy w9 (aY A2))(ha:aY A9=aY A2\/aY A9=some (wr.alloc o).heap.size):N2 F w w9 g n nw A9 c9 (D++ [d]) A c xs y:=by
 obtain⟨h1,_⟩:=h.m.below (aX wr o);have i:Ol F (wr.alloc o):=λb hb=>h1.fl b (.inl hb)
 have l:Kp F w (wr.alloc o):=h.k.trans (Kp.cB (aX wr o) λb hb=>h.m.fl b (.inl hb));obtain⟨p,s⟩:=dN.app (BJ g n y) h1 i (λb hb e=>by have:=(h.o.lt b e).1;have:=fl b hb;omega) j ha (λq hq=>(a.lt q hq).2);refine⟨a,λx f=>?_,p,(h.r.alloc o).kept j (wK (h.r.alloc o) (h.o.alloc o) cC),h.nw,l.trans s⟩;rcases aaO.1 f with f|f
 .exact h.d x f
 .rw[aaK.1 f];exact hd
theorem N2.del{c2 c:Nat}{nw:Int}{D:List Du}{xs:List Int}{y:Wa}(h:N2 F w wr g n nw A2 c2 D A c xs y){x:Int}(hm:iG zL w9 y.M (gC y.f x none))(j:wr.grownBy w9 (some y.M)):N2 F w w9 g n nw A2 c2 D A c xs {y with f:=gC y.f x none}:=by
 obtain⟨h1,l⟩:=h.m.U4 hm j (λz d a=>by
  unfold gC at a;split at a
  .cases a
  .exact h.m.i.ok z d a)
 refine⟨h.o.kp l (λq hq=> .inr hq),h.d,h1,h.r.kept j ?_,h.nw,h.k.trans (l.mono λb hb=> .inl hb)⟩;cases s:aY A with
 |none=>exact .inl rfl
 |some q=>
  refine .inr (λe=>?_);injection e with e;obtain⟨cs,hb⟩:=qM h.r q s;obtain⟨es,cl,p,_⟩:=h.m.mp;rw[e] at hb;have t:wr.heap[y.M]?=some (.cells cs 3):=hb;rw[t] at p;cases p
theorem YZ{y:Wa}(h:dG F w g n y)(hn:n<=1000000)(hw:y.nw+1<=1048576):aG prog 144 #[.pointer g] w (WO F g n (y.nw+1) w):=by
 have c1:=h.c1;have f1:=h.fz 1;have hnw:=h.i.nw;have HN:=aP hn;have HF:=aP h.fl;obtain⟨nw,Y⟩:∃v,v=y.nw+1:=⟨_,rfl⟩
 have hnwb:0<=nw/\nw<=1048576:=aQ;have HQ0:=aP (h.O0 hnwb);have HQ1:aH (∃a,dG F (w.setCell (g,1) nw) g n a/\a.nw=nw/\Kp F w (w.setCell (g,1) nw)):=⟨_,HQ0.o.1,rfl,HQ0.o.2⟩
 rw[<-Y];clear h hn HQ0;go_enter func144,ntmps144
 go_upto_region 2 with(fail)
 rw[<-Y];clear Y hnw hw c1 f1;generalize w.setCell (g,1) nw=w1 at *;go_wp2_with fail
 go_loopw [20] (λv20 wr=>∃i:Int,v20= .int .i64 i/\0<=i/\i<=3/\aH (∃a,dG F wr g n a/\a.nw=nw/\Kp F w wr)) (λv20 _=>3 - (aL v20).toNat)
 case atStart=>exact⟨0,rfl,aQ,aQ,HQ1.o⟩
 case round=>
  clear HQ1;obtain⟨i,rfl,hi0,O,l⟩:=hrel;obtain⟨a,hx⟩:=l.o;have l:=aP hx;clear hx;by_cases hi:i<3
  .obtain rfl|rfl|rfl:i=0\/i=1\/i=2:=aQ
   ·
    by_cases z:bits .and .i64 nw 262143=0
    .have M:(bits .and .i64 nw 262143 !=0)=false:=by simp[z]
     obtain⟨s,hs,U⟩:∃s:Nat,s<=63/\bits .and .i64 (nw /262144) 63=(s:Int):=⟨_,(lL (nw /262144) aQ aQ).1,(lL (nw /262144) aQ aQ).2⟩
     have s0:¬(s:Int)<0:=aQ;have V:(s:Int)<64:=aQ;have hlen:a.R.length=256:=l.o.1.i.len;have hi:3 *64+s<a.R.length:=aQ;have c1:wr.cell? (g,1)=some (.int .i64 nw):=by rw[<-l.o.2.1];exact l.o.1.c1
     have c4:wr.cell? (g,196+s)=some (rT (a.R[3 *64+s]'hi)):=by
      rw[show 196+s=4+(3 *64+s) by omega];exact l.o.1.cr hi
     have f4:wr.frozen? (g,196+s)=false:=l.o.1.fz _;have C:aH (∀nq,dG F (wr.drewN nq) g n a/\Kp F w (wr.drewN nq)):=λnq=>⟨(l.o.1.below (fD (Below.refl _ _) nq)).1,l.o.2.2.trans (l.o.1.below (fD (Below.refl _ _) nq)).2⟩
     have HQ:aH (∀nq,∃p,dG (cE F (a.R[3 *64+s]'hi).A) ((wr.drewN nq).setCell (g,196+s) (.slice none 0 0)) g n p/\p.nw=nw/\iA p.R+(a.R[3 *64+s]'hi).xs.length<=n/\Kp F w ((wr.drewN nq).setCell (g,196+s) (.slice none 0 0))/\bI eI 1 ((wr.drewN nq).setCell (g,196+s) (.slice none 0 0)) 0 3 (a.R[3 *64+s]'hi).A (a.R[3 *64+s]'hi).c (a.R[3 *64+s]'hi).xs):=λnq=>by
      obtain⟨t1,t2,t3⟩:=(C.o nq).1.take hi;rw[show 4+(3 *64+s)=196+s by omega] at t1 t2;exact⟨_,t1,l.o.2.1,aaC (aeO t3) l.o.1.i.sum,(C.o nq).2.trans (t2.mono λb hb=> .inl hb),((C.o nq).1.row hi).kp t2 (λq hq=> .inr hq)⟩
     have Q:(a.R[3 *64+s]'hi).xs.length<=1000000:=by
      have h1:=yB hi;have K:=l.o.1.i.sum;have:=HN.o;omega
     generalize hr:a.R[3 *64+s]'hi=r at *;obtain⟨A,c,xs⟩:=r;simp only[rT] at c4 Q HQ;clear hr;go_upto_region 6 with(fail)
     go_quiet (fail)
     clear l C z M hlen hi;go_wp2_with fail
     go_loopw [60] (λv60 W=>∃k:Nat,v60= .int .i64 k/\k<=xs.length/\aH (∃p,dG (cE F A) W g n p/\p.nw=nw/\iA p.R+(xs.length - k)<=n/\Kp F w W/\bI eI 1 W 0 3 A c xs)) (λv60 _=>xs.length - (aL v60).toNat)
     case atStart=>exact⟨0,rfl,aaH _,HQ.o _⟩
     case round=>
      clear HQ c1 c4 f4 U hs s0 V;obtain⟨k,rfl,hk,H⟩:=hrel;by_cases B:k<xs.length
      .obtain⟨p,I,J,Z,E,u⟩:=H.o;clear H;obtain⟨q,rfl⟩:∃q,A=some ⟨q,0,none⟩:=by
        rcases u.shape with⟨_,K,_⟩|K
        .rw[K] at B;simp at B
        .exact K
       have e0:=bM gK u B (j:=0) (v:= .int .i64 xs[k]) rfl;rw[acD,aaU] at e0;have k0:(0:Int)<=k:=aQ;have k1:(k:Int)<(xs.length:Int):=aQ;have c3:=I.c3;have t:=FT I.mp xs[k];have hd:=J1 I.i xs[k];have HP:=aP (CT (m:=n) I (zJ p.f xs[k]) hd.2 (Zw _) aQ HN.o);have S:=dA u E J;have T:aH (iA p.R+1+(xs.length - (k+1))<=n):=by unfold aH;omega
       generalize zJ p.f xs[k]=d at *;generalize xs[k]=x at *;obtain⟨da,dh,dw⟩:=d;simp only[zL] at t HP;clear I Z E u hd;go_wp2_with fail
       refine aR HP ?_;rintro e w5 ⟨rfl,R,h5,N,X⟩;have G:aH (∃p,dG (cE F (some ⟨q,0,none⟩)) w5 g n p/\p.nw=nw/\iA p.R+(xs.length - (k+1))<=n/\Kp F w w5/\bI eI 1 w5 0 3 (some ⟨q,0,none⟩) c xs):=⟨_,h5,S.o.2.2,by show iA R+_<=n;rw[N];exact T.o,S.o.2.1.trans (X.mono λb hb=> .inl hb),S.o.1.kp X (λq hq=> .inr hq)⟩
       clear h5 N X S T HP t c3 e0;go_wp2_with fail
       go_roundw
       case rel=>exact⟨k+1,by go_num,aQ,G.o⟩
       case measure=>simp[aL];omega
      .obtain rfl:k=xs.length:=aQ;have k1:¬(xs.length:Int)<(xs.length:Int):=aQ;have G:aH (∃a,dG F wr g n a/\a.nw=nw/\Kp F w wr):=by
        obtain⟨p,I,J,_,E,_⟩:=H.o;exact⟨p,I.less (λb hb=> .inl hb),J,E⟩
       clear H;go_wp2_with fail
       go_roundw
       case rel=>exact⟨1,by go_num,aQ,aQ,G.o⟩
       case measure=>simp[aL]
    .have M:(bits .and .i64 nw 262143 !=0)=true:=by simp[z]
     have c1:wr.cell? (g,1)=some (.int .i64 nw):=by rw[<-l.o.2.1];exact l.o.1.c1
     have G:aH (∀nq,∃a,dG F (wr.drewN nq) g n a/\a.nw=nw/\Kp F w (wr.drewN nq)):=λnq=>⟨a,(l.o.1.below (fD (Below.refl _ _) nq)).1,l.o.2.1,l.o.2.2.trans (l.o.1.below (fD (Below.refl _ _) nq)).2⟩
     clear z l;go_upto_region 6 with(fail)
     go_quiet (fail)
     go_wp2_with fail
     go_roundw
     case rel=>exact⟨1,by go_num,aQ,aQ,G.o _⟩
     case measure=>simp[aL]
   ·
    by_cases z:bits .and .i64 nw 4095=0
    .have M:(bits .and .i64 nw 4095 !=0)=false:=by simp[z]
     obtain⟨s,hs,U⟩:∃s:Nat,s<=63/\bits .and .i64 (nw /4096) 63=(s:Int):=⟨_,(lL (nw /4096) aQ aQ).1,(lL (nw /4096) aQ aQ).2⟩
     have s0:¬(s:Int)<0:=aQ;have V:(s:Int)<64:=aQ;have hlen:a.R.length=256:=l.o.1.i.len;have hi:2 *64+s<a.R.length:=aQ;have c1:wr.cell? (g,1)=some (.int .i64 nw):=by rw[<-l.o.2.1];exact l.o.1.c1
     have c4:wr.cell? (g,132+s)=some (rT (a.R[2 *64+s]'hi)):=by
      rw[show 132+s=4+(2 *64+s) by omega];exact l.o.1.cr hi
     have f4:wr.frozen? (g,132+s)=false:=l.o.1.fz _;have C:aH (∀nq,dG F (wr.drewN nq) g n a/\Kp F w (wr.drewN nq)):=λnq=>⟨(l.o.1.below (fD (Below.refl _ _) nq)).1,l.o.2.2.trans (l.o.1.below (fD (Below.refl _ _) nq)).2⟩
     have HQ:aH (∀nq,∃p,dG (cE F (a.R[2 *64+s]'hi).A) ((wr.drewN nq).setCell (g,132+s) (.slice none 0 0)) g n p/\p.nw=nw/\iA p.R+(a.R[2 *64+s]'hi).xs.length<=n/\Kp F w ((wr.drewN nq).setCell (g,132+s) (.slice none 0 0))/\bI eI 1 ((wr.drewN nq).setCell (g,132+s) (.slice none 0 0)) 0 3 (a.R[2 *64+s]'hi).A (a.R[2 *64+s]'hi).c (a.R[2 *64+s]'hi).xs):=λnq=>by
      obtain⟨t1,t2,t3⟩:=(C.o nq).1.take hi;rw[show 4+(2 *64+s)=132+s by omega] at t1 t2;exact⟨_,t1,l.o.2.1,aaC (aeO t3) l.o.1.i.sum,(C.o nq).2.trans (t2.mono λb hb=> .inl hb),((C.o nq).1.row hi).kp t2 (λq hq=> .inr hq)⟩
     have Q:(a.R[2 *64+s]'hi).xs.length<=1000000:=by
      have h1:=yB hi;have K:=l.o.1.i.sum;have:=HN.o;omega
     generalize hr:a.R[2 *64+s]'hi=r at *;obtain⟨A,c,xs⟩:=r;simp only[rT] at c4 Q HQ;clear hr;go_upto_region 6 with(fail)
     go_quiet (fail)
     clear l C z M hlen hi;go_wp2_with fail
     go_loopw [60] (λv60 W=>∃k:Nat,v60= .int .i64 k/\k<=xs.length/\aH (∃p,dG (cE F A) W g n p/\p.nw=nw/\iA p.R+(xs.length - k)<=n/\Kp F w W/\bI eI 1 W 0 3 A c xs)) (λv60 _=>xs.length - (aL v60).toNat)
     case atStart=>exact⟨0,rfl,aaH _,HQ.o _⟩
     case round=>
      clear HQ c1 c4 f4 U hs s0 V;obtain⟨k,rfl,hk,H⟩:=hrel;by_cases B:k<xs.length
      .obtain⟨p,I,J,Z,E,u⟩:=H.o;clear H;obtain⟨q,rfl⟩:∃q,A=some ⟨q,0,none⟩:=by
        rcases u.shape with⟨_,K,_⟩|K
        .rw[K] at B;simp at B
        .exact K
       have e0:=bM gK u B (j:=0) (v:= .int .i64 xs[k]) rfl;rw[acD,aaU] at e0;have k0:(0:Int)<=k:=aQ;have k1:(k:Int)<(xs.length:Int):=aQ;have c3:=I.c3;have t:=FT I.mp xs[k];have hd:=J1 I.i xs[k];have HP:=aP (CT (m:=n) I (zJ p.f xs[k]) hd.2 (Zw _) aQ HN.o);have S:=dA u E J;have T:aH (iA p.R+1+(xs.length - (k+1))<=n):=by unfold aH;omega
       generalize zJ p.f xs[k]=d at *;generalize xs[k]=x at *;obtain⟨da,dh,dw⟩:=d;simp only[zL] at t HP;clear I Z E u hd;go_wp2_with fail
       refine aR HP ?_;rintro e w5 ⟨rfl,R,h5,N,X⟩;have G:aH (∃p,dG (cE F (some ⟨q,0,none⟩)) w5 g n p/\p.nw=nw/\iA p.R+(xs.length - (k+1))<=n/\Kp F w w5/\bI eI 1 w5 0 3 (some ⟨q,0,none⟩) c xs):=⟨_,h5,S.o.2.2,by show iA R+_<=n;rw[N];exact T.o,S.o.2.1.trans (X.mono λb hb=> .inl hb),S.o.1.kp X (λq hq=> .inr hq)⟩
       clear h5 N X S T HP t c3 e0;go_wp2_with fail
       go_roundw
       case rel=>exact⟨k+1,by go_num,aQ,G.o⟩
       case measure=>simp[aL];omega
      .obtain rfl:k=xs.length:=aQ;have k1:¬(xs.length:Int)<(xs.length:Int):=aQ;have G:aH (∃a,dG F wr g n a/\a.nw=nw/\Kp F w wr):=by
        obtain⟨p,I,J,_,E,_⟩:=H.o;exact⟨p,I.less (λb hb=> .inl hb),J,E⟩
       clear H;go_wp2_with fail
       go_roundw
       case rel=>exact⟨2,by go_num,aQ,aQ,G.o⟩
       case measure=>simp[aL]
    .have M:(bits .and .i64 nw 4095 !=0)=true:=by simp[z]
     have c1:wr.cell? (g,1)=some (.int .i64 nw):=by rw[<-l.o.2.1];exact l.o.1.c1
     have G:aH (∀nq,∃a,dG F (wr.drewN nq) g n a/\a.nw=nw/\Kp F w (wr.drewN nq)):=λnq=>⟨a,(l.o.1.below (fD (Below.refl _ _) nq)).1,l.o.2.1,l.o.2.2.trans (l.o.1.below (fD (Below.refl _ _) nq)).2⟩
     clear z l;go_upto_region 6 with(fail)
     go_quiet (fail)
     go_wp2_with fail
     go_roundw
     case rel=>exact⟨2,by go_num,aQ,aQ,G.o _⟩
     case measure=>simp[aL]
   ·
    by_cases z:bits .and .i64 nw 63=0
    .have M:(bits .and .i64 nw 63 !=0)=false:=by simp[z]
     obtain⟨s,hs,U⟩:∃s:Nat,s<=63/\bits .and .i64 (nw /64) 63=(s:Int):=⟨_,(lL (nw /64) aQ aQ).1,(lL (nw /64) aQ aQ).2⟩
     have s0:¬(s:Int)<0:=aQ;have V:(s:Int)<64:=aQ;have hlen:a.R.length=256:=l.o.1.i.len;have hi:1 *64+s<a.R.length:=aQ;have c1:wr.cell? (g,1)=some (.int .i64 nw):=by rw[<-l.o.2.1];exact l.o.1.c1
     have c4:wr.cell? (g,68+s)=some (rT (a.R[1 *64+s]'hi)):=by
      rw[show 68+s=4+(1 *64+s) by omega];exact l.o.1.cr hi
     have f4:wr.frozen? (g,68+s)=false:=l.o.1.fz _;have C:aH (∀nq,dG F (wr.drewN nq) g n a/\Kp F w (wr.drewN nq)):=λnq=>⟨(l.o.1.below (fD (Below.refl _ _) nq)).1,l.o.2.2.trans (l.o.1.below (fD (Below.refl _ _) nq)).2⟩
     have HQ:aH (∀nq,∃p,dG (cE F (a.R[1 *64+s]'hi).A) ((wr.drewN nq).setCell (g,68+s) (.slice none 0 0)) g n p/\p.nw=nw/\iA p.R+(a.R[1 *64+s]'hi).xs.length<=n/\Kp F w ((wr.drewN nq).setCell (g,68+s) (.slice none 0 0))/\bI eI 1 ((wr.drewN nq).setCell (g,68+s) (.slice none 0 0)) 0 3 (a.R[1 *64+s]'hi).A (a.R[1 *64+s]'hi).c (a.R[1 *64+s]'hi).xs):=λnq=>by
      obtain⟨t1,t2,t3⟩:=(C.o nq).1.take hi;rw[show 4+(1 *64+s)=68+s by omega] at t1 t2;exact⟨_,t1,l.o.2.1,aaC (aeO t3) l.o.1.i.sum,(C.o nq).2.trans (t2.mono λb hb=> .inl hb),((C.o nq).1.row hi).kp t2 (λq hq=> .inr hq)⟩
     have Q:(a.R[1 *64+s]'hi).xs.length<=1000000:=by
      have h1:=yB hi;have K:=l.o.1.i.sum;have:=HN.o;omega
     generalize hr:a.R[1 *64+s]'hi=r at *;obtain⟨A,c,xs⟩:=r;simp only[rT] at c4 Q HQ;clear hr;go_upto_region 6 with(fail)
     go_quiet (fail)
     clear l C z M hlen hi;go_wp2_with fail
     go_loopw [60] (λv60 W=>∃k:Nat,v60= .int .i64 k/\k<=xs.length/\aH (∃p,dG (cE F A) W g n p/\p.nw=nw/\iA p.R+(xs.length - k)<=n/\Kp F w W/\bI eI 1 W 0 3 A c xs)) (λv60 _=>xs.length - (aL v60).toNat)
     case atStart=>exact⟨0,rfl,aaH _,HQ.o _⟩
     case round=>
      clear HQ c1 c4 f4 U hs s0 V;obtain⟨k,rfl,hk,H⟩:=hrel;by_cases B:k<xs.length
      .obtain⟨p,I,J,Z,E,u⟩:=H.o;clear H;obtain⟨q,rfl⟩:∃q,A=some ⟨q,0,none⟩:=by
        rcases u.shape with⟨_,K,_⟩|K
        .rw[K] at B;simp at B
        .exact K
       have e0:=bM gK u B (j:=0) (v:= .int .i64 xs[k]) rfl;rw[acD,aaU] at e0;have k0:(0:Int)<=k:=aQ;have k1:(k:Int)<(xs.length:Int):=aQ;have c3:=I.c3;have t:=FT I.mp xs[k];have hd:=J1 I.i xs[k];have HP:=aP (CT (m:=n) I (zJ p.f xs[k]) hd.2 (Zw _) aQ HN.o);have S:=dA u E J;have T:aH (iA p.R+1+(xs.length - (k+1))<=n):=by unfold aH;omega
       generalize zJ p.f xs[k]=d at *;generalize xs[k]=x at *;obtain⟨da,dh,dw⟩:=d;simp only[zL] at t HP;clear I Z E u hd;go_wp2_with fail
       refine aR HP ?_;rintro e w5 ⟨rfl,R,h5,N,X⟩;have G:aH (∃p,dG (cE F (some ⟨q,0,none⟩)) w5 g n p/\p.nw=nw/\iA p.R+(xs.length - (k+1))<=n/\Kp F w w5/\bI eI 1 w5 0 3 (some ⟨q,0,none⟩) c xs):=⟨_,h5,S.o.2.2,by show iA R+_<=n;rw[N];exact T.o,S.o.2.1.trans (X.mono λb hb=> .inl hb),S.o.1.kp X (λq hq=> .inr hq)⟩
       clear h5 N X S T HP t c3 e0;go_wp2_with fail
       go_roundw
       case rel=>exact⟨k+1,by go_num,aQ,G.o⟩
       case measure=>simp[aL];omega
      .obtain rfl:k=xs.length:=aQ;have k1:¬(xs.length:Int)<(xs.length:Int):=aQ;have G:aH (∃a,dG F wr g n a/\a.nw=nw/\Kp F w wr):=by
        obtain⟨p,I,J,_,E,_⟩:=H.o;exact⟨p,I.less (λb hb=> .inl hb),J,E⟩
       clear H;go_wp2_with fail
       go_roundw
       case rel=>exact⟨3,by go_num,aQ,aQ,G.o⟩
       case measure=>simp[aL]
    .have M:(bits .and .i64 nw 63 !=0)=true:=by simp[z]
     have c1:wr.cell? (g,1)=some (.int .i64 nw):=by rw[<-l.o.2.1];exact l.o.1.c1
     have G:aH (∀nq,∃a,dG F (wr.drewN nq) g n a/\a.nw=nw/\Kp F w (wr.drewN nq)):=λnq=>⟨a,(l.o.1.below (fD (Below.refl _ _) nq)).1,l.o.2.1,l.o.2.2.trans (l.o.1.below (fD (Below.refl _ _) nq)).2⟩
     clear z l;go_upto_region 6 with(fail)
     go_quiet (fail)
     go_wp2_with fail
     go_roundw
     case rel=>exact⟨3,by go_num,aQ,aQ,G.o _⟩
     case measure=>simp[aL]
  .obtain rfl:i=3:=aQ;clear hi hi0;have c1:wr.cell? (g,1)=some (.int .i64 nw):=by rw[<-l.o.2.1];exact l.o.1.c1
   obtain⟨s,hs,U⟩:∃s:Nat,s<=63/\bits .and .i64 nw 63=(s:Int):=⟨_,(lL nw aQ aQ).1,(lL nw aQ aQ).2⟩
   have s0:¬(s:Int)<0:=aQ;have V:(s:Int)<64:=aQ;have hlen:a.R.length=256:=l.o.1.i.len;have hi:s<a.R.length:=aQ;have c4:wr.cell? (g,4+s)=some (rT (a.R[s]'hi)):=l.o.1.cr hi;have hxn:(a.R[s]'hi).xs.length<=n:=aaC (yB hi) l.o.1.i.sum;have HXN:=aP hxn;have Q:(a.R[s]'hi).xs.length<=1000000:=aaC hxn HN.o;have HQ:aH (N2 F w wr g n nw none 0 [] (a.R[s]'hi).A (a.R[s]'hi).c (a.R[s]'hi).xs a):=⟨bI.nil _ _ _,λd hd=>(by cases hd),l.o.1.less (λb hb=>by rcases hb with hb|hb;exact hb;cases hb),l.o.1.row hi,l.o.2.1,l.o.2.2⟩
   generalize a.R[s]'hi=r at *;obtain⟨A,c,xs⟩:=r;simp only[rT] at c4 Q HQ HXN;clear l hi hlen O hxn;go_wp2_with fail
   go_loopw [10,87] (λv10 v87 W=>∃(k m:Nat) (A2:Option aJ) (c2:Nat) (D:List Du),v87= .int .i64 k/\v10= .slice A2 m c2/\k<=xs.length/\m<=k/\aH (m=D.length/\∃p,N2 F w W g n nw A2 c2 D A c xs p)) (λ_ v87 _=>xs.length - (aL v87).toNat)
   case atStart=>exact⟨0,0,none,0, [],rfl,rfl,aaH _,Zw _,rfl,a,HQ.o⟩
   case round=>
    clear HQ c1 c4;obtain⟨k,m,A2,c2,D,rfl,rfl,hk,hm,H⟩:=hrel;by_cases B:k<xs.length
    .obtain⟨hmD,p,z⟩:=H.o;clear H;have u:=z.r;obtain⟨q,rfl⟩:∃q,A=some ⟨q,0,none⟩:=by
      rcases u.shape with⟨_,K,_⟩|K
      .rw[K] at B;simp at B
      .exact K
     have e0:=bM gK u B (j:=0) (v:= .int .i64 xs[k]) rfl;rw[acD,aaU] at e0;have k0:(0:Int)<=k:=aQ;have k1:(k:Int)<(xs.length:Int):=aQ;have c3:=z.m.c3;have t:=FT z.m.mp xs[k];have HD:=aP (J1 z.m.i xs[k]).1;have H:=bN hmD z;clear z hmD u;generalize zJ p.f xs[k]=d at *;generalize xs[k]=x at *;obtain⟨da,dh,dw⟩:=d;simp only[zL] at t;have HSZ:aH (w.heap.size<=wr.heap.size):=H.o.2.k.size;go_upto_region 22 with(at_builtin;refine bP _ rfl _ _ rfl Sg rD (H.o.2.o.alloc _) (n:=m) H.o.1.symm rfl (m:=1) rfl (ys:= [⟨da,dh,dw⟩]) rfl (Sl.fI rD wr ⟨da,dh,dw⟩ _ rfl _ aT) dI aQ (aaC HSZ.o aT) _ rfl (m+1) rfl ?_;intro A9 c9 w9 own9 hg9 at9)
     have HZ9:=aP (H.o.2.app HF.o _ HD.o own9 hg9 at9);obtain⟨w10,hrun,hm10,hg10⟩:=AK (P:=prog) underlying335 underlying3 HZ9.o.m.mp x 0;have G:=aP (HZ9.o.del hm10 hg10);have HL:aH (m+1=(D++ [(⟨da,dh,dw⟩:Du)]).length):=by unfold aH;rw[aaM,<-H.o.1];rfl
     have c3:=HZ9.o.m.c3;clear own9 hg9 at9 hm10 hg10 H HZ9 t e0;go_wp2_with fail
     go_roundw
     case rel=>exact⟨k+1,m+1,A9,c9,_,by go_num,rfl,aQ,aQ,HL.o,_,G.o⟩
     case measure=>simp[aL];omega
    .obtain rfl:k=xs.length:=aQ;have k1:¬(xs.length:Int)<(xs.length:Int):=aQ;obtain⟨hmD,p,z⟩:=H.o;clear H;have O:s<p.R.length:=by have:=z.m.i.len;omega
     have c4:wr.cell? (g,4+s)=some (rT (p.R[s]'O)):=z.m.cr O;have f4:=z.m.fz (4+s);obtain⟨t1,t2,_⟩:=z.m.take O;have HM:aH (m<=n):=aaC hm HXN.o;have hml:m<=1000000:=aQ;have G:aH (bI uB 3 (wr.setCell (g,4+s) (.slice none 0 0)) w.heap.size 274 A2 c2 D/\(∀d∈D,0<=d.wh/\d.wh<4)/\(∃y',dG (cE F A2) (wr.setCell (g,4+s) (.slice none 0 0)) g n y'/\y'.nw=nw)/\Kp F w (wr.setCell (g,4+s) (.slice none 0 0))):=⟨z.o.kp t2 (λq hq=> .inl (.inr hq)),z.d,⟨_,t1.less (λb hb=> .inl hb),z.nw⟩,z.k.trans (t2.mono λb hb=> .inl (.inl hb))⟩
     generalize p.R[s]'O=r3 at *;obtain⟨A3,c3,xs3⟩:=r3;simp only[rT] at c4;have HMD:=aP hmD;clear z t1 t2 O hm hmD;go_upto_region 25 with(fail)
     generalize wr.setCell (g,4+s) (.slice none 0 0)=w5 at *;clear c4 f4;have hsh:=G.o.1.shape;rcases hsh with⟨rfl,rfl,rfl⟩|⟨q2,rfl⟩
     .obtain rfl:m=0:=HMD.o;have HR:aH (WO F g n nw w (.returned (.slice none 0 0)) w5):=⟨none,0, [],rfl,aaH _,λd hd=>(by cases hd),bI.nil _ _ _,G.o.2.2.1,G.o.2.2.2⟩
      clear HMD G;go_wp2_with fail
      refine aS (V0 _) ?_;rintro e w6 ⟨rfl,rfl⟩;go_wp2_with fail
      go_ret
      exact HR.o
     .have T:=VU G.o.1 (by rw[<-HMD.o];omega);rw[<-HMD.o] at T;have T:=aP T;go_wp2_with fail
      refine aR T ?_;rintro e w6 ⟨rfl,L,hp,_,own6,hg6⟩;have HR:aH (WO F g n nw w (.returned (.slice q2 m c2)) w6):=by
       obtain⟨o5,d5,⟨y5,h5,n5⟩,X⟩:=G.o;have fl5:Ol F w5:=λb hb=>h5.fl b (.inl hb)
       obtain⟨h6,k6⟩:=dN.app (BJ g n y5) (A:=some ⟨q2,0,none⟩) (A':=some ⟨q2,0,none⟩) h5 fl5 (λb hb e=>by have:=(o5.lt b e).1;have:=HF.o b hb;omega) hg6 (.inl rfl) (λq hq=>(own6.lt q hq).2);have hl:m=L.length:=by rw[HMD.o,hp.length_eq]
       exact⟨some ⟨q2,0,none⟩,c2,L,by rw[hl],by rw[<-hl];exact HM.o,λd hd=>d5 d (hp.mem_iff.1 hd),own6,⟨y5,h6,n5⟩,X.trans k6⟩
      clear own6 hg6 hp G T;go_wp2_with fail
      go_ret
      exact HR.o
end
end
end Go.Proofs.YtacgiflhgdaeaaaGreat
