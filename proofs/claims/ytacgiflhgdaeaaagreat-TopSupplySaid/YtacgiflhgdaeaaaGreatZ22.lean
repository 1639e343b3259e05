/- Texts laid as one. -/
import Derived.Test.YtacgiflhgdaeaaaGreatZ4
import Derived.Test.YtacgiflhgdaeaaaGreatZ13
import Derived.Test.YtacgiflhgdaeaaaGreatZ21
set_option linter.unusedVariables false
set_option linter.unusedSimpArgs false
set_option maxRecDepth 100000
set_option maxHeartbeats 20000000
namespace Go.Proofs.YtacgiflhgdaeaaaGreat
open Go.Proofs.Tryz
open Go renaming World->aA,Calls->aG
open Go.RowKit renaming Below->aD,Hid->aH,intOf->aL
open Go.Obj renaming cells->aI
section
open Go.RowKit Go.Lib Go.Shelf dH Fr Up Nt
variable{F:Nat->Prop}{w:aA}{g i:Nat}{a a':Ka}{k' k1:Kv}
section
theorem K8{k:Kv}(h:bJ F w g a k)(e s:Int):aG prog 215 #[.pointer a.gc,e,s] w λx w'=>
 (uX k.c e s=none/\x= .returned (.tuple #[bA, .int .i64 23])/\bJ F w' g a k/\Kp F w w')\/
 (∃i A c L,uX k.c e s=some i/\x= .returned (.tuple #[.slice A (dF (cN k.c i).nu false L).2.length c,aU])/\AK k L/\bB oP 5 w' w.heap.size 156 A c (dF (cN k.c i).nu false L).2/\bJ (cB F A) w' g a {k with c:=jW k.c (dF (cN k.c i).nu false L).2}/\Kp F w w'):=by
 obtain⟨G,f,back⟩:=h.Ts;have hd:=WI f e s;cases m:uX k.c e s with
 |none=>
  rw[m] at hd;refine hd.mono ?_;rintro x w' ⟨rfl,hc,j⟩;obtain⟨h1,l⟩:=back k.c w' none (λq hq=>by cases hq) (hc.mono (λb d=>by
   rcases d with d|d
   .exact d
   .cases d)) j
  exact .inl ⟨rfl,rfl,h1.less (λb d=> .inl d),l⟩
 |some i=>
  rw[m] at hd;refine hd.mono ?_;rintro x w' ⟨A,c,L,rfl,n,o,ho,hc,j⟩;obtain⟨h1,l⟩:=back _ _ A (λq hq=>(ho.lt q hq).1) (f.LS hc ho) j;exact .inr ⟨i,A,c,L,rfl,rfl,⟨n,o⟩,ho,h1,l⟩
theorem VK{k:Kv}(h:bJ F w g a k)(e s:Int)(b:uX k.c e s=none):aG prog 215 #[.pointer a.gc,e,s] w λx w'=>x= .returned (.tuple #[bA, .int .i64 23])/\bJ F w' g a k/\Kp F w w':=by
 refine(K8 h e s).mono ?_;rintro x w' (⟨_,h1⟩|⟨i,A,c,L,h1,_⟩)
 .exact h1
 .rw[b] at h1;cases h1
theorem SS{k:Kv}(h:bJ F w g a k)(e s:Int)(b:uX k.c e s=some i):aG prog 215 #[.pointer a.gc,e,s] w λx w'=>
 ∃A c L,x= .returned (.tuple #[.slice A (dF (cN k.c i).nu false L).2.length c,aU])/\AK k L/\bB oP 5 w' w.heap.size 156 A c (dF (cN k.c i).nu false L).2/\bJ (cB F A) w' g a {k with c:=jW k.c (dF (cN k.c i).nu false L).2}/\Kp F w w':=by
 refine(K8 h e s).mono ?_;rintro x w' (⟨h1,_⟩|⟨j,A,c,L,h1,d⟩)
 .rw[b] at h1;cases h1
 .rw[b] at h1;injection h1 with h1;subst h1;exact⟨A,c,L,d⟩
theorem Hw{k:Kv}(h:bJ F w g a k)(hw:KW k)(e s:Int)(b:fW k.c e s=none):aG prog 149 #[.pointer a.gc,e,s] w λx w'=>x= .returned (.tuple #[bA, .int .i64 23])/\bJ F w' g a k/\Kp F w w':=by
 refine(I4 h hw e s).mono ?_;rintro x w' (⟨_,h1⟩|⟨i,A,c,L,h1,_⟩)
 .exact h1
 .rw[b] at h1;cases h1
theorem Aq{k:Kv}(h:bJ F w g a k)(hw:KW k)(e s:Int)(b:fW k.c e s=some i):aG prog 149 #[.pointer a.gc,e,s] w λx w'=>
 ∃A c L,x= .returned (.tuple #[.slice A (dF (cN k.c i).nu true L).2.length c,aU])/\AK k L/\bB oP 5 w' w.heap.size 156 A c (dF (cN k.c i).nu true L).2/\bJ (cB F A) w' g a {k with c:=jW k.c (dF (cN k.c i).nu true L).2}/\Kp F w w':=by
 refine(I4 h hw e s).mono ?_;rintro x w' (⟨h1,_⟩|⟨j,A,c,L,h1,d⟩)
 .rw[b] at h1;cases h1
 .rw[b] at h1;injection h1 with h1;subst h1;exact⟨A,c,L,d⟩
def Ve(op A B C D:Int):Array Value:=#[op,A,B,C,D]
structure BxK(F:Nat->Prop)(w w1:aA)(q1 g:Nat)(a:Ka)(k:Kv)(op A B C D:Int):Prop where
 m:bJ (Fb F q1) w1 g a k
 k:Kp F w w1
 b:bC w1 q1 281 (Ve op A B C D)
theorem BxK.new{k:Kv}(h:bJ F w g a k)(op A B C D:Int):BxK F w (w.alloc (aI #[op,A,B,C,D] 281)) w g a k op A B C D:=
 ⟨(bJ.bX g a k).box h h.fl _,h.fl.below (aX w _),bC.new w _ _⟩
section
variable{F:Nat->Prop}{w w1 w2:aA}{q1 g:Nat}{a:Ka}{k:Kv}{op A B C D:Int}
theorem BxK.xs(h:BxK F w w1 q1 g a k op A B C D):w1.cell? (q1,0)=some (.int .i64 op)/\w1.cell? (q1,1)=some (.int .i64 A)/\w1.cell? (q1,2)=some (.int .i64 B)/\w1.cell? (q1,3)=some (.int .i64 C)/\w1.cell? (q1,4)=some (.int .i64 D):=
 ⟨h.b.cell 0 _ rfl,h.b.cell 1 _ rfl,h.b.cell 2 _ rfl,h.b.cell 3 _ rfl,h.b.cell 4 _ rfl⟩
theorem BxK.below(h:BxK F w w1 q1 g a k op A B C D)(c:aD w1 w1 w2):BxK F w w2 q1 g a k op A B C D:=⟨(h.m.below c).1,h.k.trans (h.m.below c).2.unbox,h.b.keep c⟩
theorem BxK.ret(h:BxK F w w1 q1 g a k op A B C D)(hm:bJ (Fb F q1) w2 g a' k')(kp:Kp (Fb F q1) w1 w2):BxK F w w2 q1 g a' k' op A B C D:=⟨hm,h.k.trans kp.unbox,kp.aZ h.b (.inr rfl)⟩
theorem BxK.o(h:BxK F w w1 q1 g a k op A B C D):KM F w1 g k/\Kp F w w1:=⟨⟨a,h.m.less (λb c=> .inl c)⟩,h.k⟩
end
theorem RW{k:Kv}(h:bJ F w g a k)(hw:KW k)(e A B C D:Int):aG prog 169 #[.pointer g,e, .agg #[.int .i64 7,A,B,C,D]] w λr w'=>∃E k',iL k e 7 A B C D E k'/\gD F g k' (.int .i64 E) w r w':=by
 have H1:=aP (BxK.new h 7 A B C D);have s:iL k e 7 A B C D (iC k.c e A e B C 0).1 {k with c:=(iC k.c e A e B C 0).2}:=by unfold iL;rw[aaK rfl]
 have l:=aP s;have t:=aP hw;clear h hw s;go_enter func169,ntmps169
 go_upto_region 1 with(fail)
 generalize w.alloc (aI #[.int .i64 7,A,B,C,D] 281)=w1 at *;generalize w.heap.size=q1 at *;obtain⟨O,u,y,z,P⟩:=H1.o.xs;go_upto_region 3 with(fail)
 have pc:=H1.o.m.pc;unfold pA at pc;have b:=bF pc;have f:=bF u;have i:=bF y;have j:=bF z;refine bS (bV _) (λ_=>bV) [] (λ_ _ _=>True) [11,12] [] 120 (cM _) (λ_ _ _ h H=>bZ h H) (λ_ d hd _ v w w' _ h H=>by cases hd) aV aV bK ?_;repeat refine fQ ?_
 refine eL ?_;intro γ w5 hb5 hT;clear b f i j;simp only[dG,Act.put,aaI,aaP,aaN];refine eT ?_;have q:=H1.o.below hb5;obtain⟨G,hc,back⟩:=q.m.cp;have HD:=aP (X9 hc ⟨t.o.cn.1,by have:=t.o.cn.2;omega⟩ e A B C);have I:=aP back;have J:=aP q;clear hc back q hb5 hT H1 O u y z P pc;generalize iC k.c e A e B C 0=r at *;refine wpList_plain rfl (λK hK=>?_);go_wp2_with fail
 refine aR HD ?_;rintro x Q ⟨rfl,n,p⟩;obtain⟨L,M⟩:=I.o _ _ n p;have N:=aP (J.o.ret L M).o;clear n p L M I HD J;refine hK _ _ ?_;clear hK K;refine wpList_plain rfl (λK hK=>?_);go_simp
 refine hK _ _ ?_;clear hK K;refine cP ?_;try refine dB ?_
 go_wp2_with fail
 go_ret
 exact⟨_,_,l.o,rfl,N.o.1,N.o.2⟩
theorem W0{k:Kv}(h:bJ F w g a k)(hw:KW k)(e A B C D:Int):aG prog 169 #[.pointer g,e, .agg #[.int .i64 8,A,B,C,D]] w λr w'=>∃E k',iL k e 8 A B C D E k'/\gD F g k' (.int .i64 E) w r w':=by
 have H1:=aP (BxK.new h 8 A B C D);have L:oZ B=true->iL k e 8 A B C D (iC k.c e A B C D 4).1 {k with c:=(iC k.c e A B C D 4).2}:=λf=>by unfold iL;rw[aaL aQ,aaK rfl,aaK f]
 have s:oZ B=false->iL k e 8 A B C D 1 k:=λf=>by unfold iL;rw[aaL aQ,aaK rfl,aaL (by simp[f])];exact⟨rfl,rfl⟩
 have b:=bH L s;have M:=aP hw;have i:=fK H1.o.m B;clear h hw L s;cases f:oZ B with
 |false=>
  rw[f] at i;have i:=aP i;have b:=aP (b.o.2 f);clear f;go_enter func169,ntmps169
  go_upto_region 1 with(fail)
  generalize w.alloc (aI #[.int .i64 8,A,B,C,D] 281)=w1 at *;generalize w.heap.size=q1 at *;obtain⟨N,y,z,H,I⟩:=H1.o.xs;go_wp2_with fail
  refine aR i ?_;rintro x O ⟨rfl,rfl⟩;go_wp2_with fail
  go_ret
  exact⟨_,_,b.o,rfl,H1.o.o.1,H1.o.o.2⟩
 |true=>
  rw[f] at i;have i:=aP i;have b:=aP (b.o.1 f);clear f;go_enter func169,ntmps169
  go_upto_region 1 with(fail)
  generalize w.alloc (aI #[.int .i64 8,A,B,C,D] 281)=w1 at *;generalize w.heap.size=q1 at *;obtain⟨N,y,z,H,I⟩:=H1.o.xs;go_wp2_with fail
  refine aR i ?_;rintro x O ⟨rfl,rfl⟩;have pc:=H1.o.m.pc;unfold pA at pc;go_upto_region 7 with(fail)
  have j:=bF pc;have l:=bF y;have n:=bF z;have p:=bF H;have q:=bF I;refine bS (bV _) (λ_=>bV) [] (λ_ _ _=>True) [13,14] [] 120 (cM _) (λ_ _ _ h P=>bZ h P) (λ_ d hd _ v w w' _ h P=>by cases hd) aV aV bK ?_;repeat refine fQ ?_
  refine eL ?_;intro γ w5 hb5 hT;clear j l n p q;simp only[dG,Act.put,aaI,aaP,aaN];refine eT ?_;have J:=H1.o.below hb5;obtain⟨G,hc,back⟩:=J.m.cp;have HD:=aP (Hz hc ⟨M.o.cn.1,by have:=M.o.cn.2;omega⟩ e A B C D);have Q:=aP back;have R:=aP J;clear hc back J hb5 hT H1 N y z H I pc i;generalize iC k.c e A B C D 4=r at *;refine wpList_plain rfl (λK hK=>?_);go_wp2_with fail
  refine aR HD ?_;rintro x O ⟨rfl,t,u⟩;obtain⟨S,T⟩:=Q.o _ _ t u;have U:=aP (R.o.ret S T).o;clear t u S T Q HD R;refine hK _ _ ?_;clear hK K;refine wpList_plain rfl (λK hK=>?_);go_simp
  refine hK _ _ ?_;clear hK K;refine cP ?_;try refine dB ?_
  go_wp2_with fail
  go_ret
  exact⟨_,_,b.o,rfl,U.o.1,U.o.2⟩
theorem R7{k:Kv}(h:bJ F w g a k)(hw:KW k)(e A B C D:Int):aG prog 169 #[.pointer g,e, .agg #[.int .i64 9,A,B,C,D]] w λr w'=>∃E k',iL k e 9 A B C D E k'/\gD F g k' (.int .i64 E) w r w':=by
 have H1:=aP (BxK.new h 9 A B C D);have d:aH (∀(E:Int) (k':Kv),yI k e A E k'->iL k e 9 A B C D E k'):=λE k' M=>by unfold iL;rw[aaL aQ,aaL aQ,aaK rfl];exact M
 have N:=aP hw;clear h hw;go_enter func169,ntmps169
 go_upto_region 1 with(fail)
 generalize w.alloc (aI #[.int .i64 9,A,B,C,D] 281)=w1 at *;generalize w.heap.size=q1 at *;obtain⟨T,z,U,V,X⟩:=H1.o.xs;have pc:=H1.o.m.pc;unfold pA at pc;cases v:uX k.c e A with
 |none=>
  have l:aH (iL k e 9 A B C D 23 k):=d.o 23 k (by unfold yI;rw[v];exact⟨rfl,rfl⟩);have HD:=aP (VK (H1.o.below (Below.refl w1 w1).drew).m e A v);clear v d;go_upto_region 9 with(fail)
  go_region_held3 (λW=>W.cell? (g,2)=some (.pointer a.gc)/\W.cell? (q1,1)=some (.int .i64 A)) (first|exact⟨pc,z⟩|exact⟨‹_›,‹_›⟩) ((go_at_call 215;(refine aR HD ?_);rintro x O ⟨rfl,n,s⟩;(have u:=n.pc);(unfold pA at u);(have P:=s.cell z (.inr rfl));(have j:=aP ((H1.o.below (Below.refl w1 w1).drew).ret n s).o);clear n s))
  go_wp2_with fail
  go_ret
  exact⟨_,_,l.o,rfl,j.o.1,j.o.2⟩
 |some i=>
  have l:aH (∀L,AK k L->iL k e 9 A B C D 0 (vK k (cN k.c i).nu false L)):=λL Q=>d.o 0 _ (by unfold yI;rw[v];exact⟨rfl,L,Q,rfl⟩)
  have HD:=aP (SS (H1.o.below (Below.refl w1 w1).drew).m e A v);clear v d;go_upto_region 9 with(fail)
  go_region_held3 (λW=>W.cell? (g,2)=some (.pointer a.gc)/\W.cell? (q1,1)=some (.int .i64 A)) (first|exact⟨pc,z⟩|exact⟨‹_›,‹_›⟩) ((go_at_call 215;(refine aR HD ?_);rintro x O ⟨Y,c3,L,rfl,H,y,n,s⟩;(have u:=n.pc);(unfold pA at u);(have P:=s.cell z (.inr rfl));(have j:=cZ H y (And.intro n s));clear H y n s))
  have f:=FL (cN k.c i).nu false L;have hlen:(dF (cN k.c i).nu false L).2.length<=128:=aaR f.1 (by rw[j.o.1.1.length_eq];exact C0 _);have I:=aP (zS j.o.2.2.1 N.o.t j.o.2.1 (λq hq=> .inr hq) aQ (λp hp=>KY (j.o.1.1.mem_iff.1 (f.2 p hp))));clear f;generalize hm:(dF (cN k.c i).nu false L).2.length=m at *;clear hm;go_wp2_with fail
  refine aR I ?_;rintro x R ⟨rfl,J,K⟩;have S:aH (∃E k',iL k e 9 A B C D E k'/\gD F g k' (.int .i64 E) w (.returned (.int .i64 0)) R):=⟨0,_,l.o L j.o.1,rfl,J.less (λb G=> .inl (.inl G)),(H1.o.below (Below.refl w1 w1).drew).k.trans ((j.o.2.2.2.unbox).trans (K.mono (λb G=> .inl (.inl G))))⟩
  clear J K j I;go_wp2_with fail
  go_ret
  exact S.o
theorem iF.Z5{l:List dK}{k:Kv}(r:iF l k k'){p:dK}(h:¬(p.h.kd=1/\mJ k' p.h.ob=false/\gI k'.f p.h.ob=true)):iF (l++ [p]) k k':=by
 induction r with
 |nil k=>exact .skip h (.nil k)
 |skip b r c=>first|exact .skip b (c h)|exact .skip b c
 |rH b r1 r c=>first|exact .rH b r1 (c h)|exact .rH b r1 c
theorem iF.snoc{l:List dK}{k:Kv}(r:iF l k k1){p:dK}(h:p.h.kd=1/\mJ k1 p.h.ob=false/\gI k1.f p.h.ob=true)(r1:pE k1 p.h.ob k'):iF (l++ [p]) k k':=by
 induction r with
 |nil k=>exact .rH h r1 (.nil _)
 |skip b r c=>first|exact .skip b (c h r1)|exact .skip b c
 |rH b d r c=>first|exact .rH b d (c h r1)|exact .rH b d c
theorem iF.kw{l:List dK}{k:Kv}(r:iF l k k')(w:KW k):KW k':=by
 induction r with
 |nil k=>exact w
 |skip h r b=>exact b w
 |rH h r1 r b=>exact b (r1.kw w)
theorem YQ{k:Kv}(h:bJ F w g a k)(hw:KW k)(e A B C D:Int):aG prog 169 #[.pointer g,e, .agg #[.int .i64 10,A, .int .i64 B,C,D]] w λr w'=>∃E k',iL k e 10 A B C D E k'/\gD F g k' (.int .i64 E) w r w':=by
 have H1:=aP (BxK.new h 10 A B C D);have P:aH (∀(E:Int) (k':Kv),GQ k e A E k'->iL k e 10 A B C D E k'):=λE k' hr=>by unfold iL;rw[aaL aQ,aaL aQ,aaL aQ];exact hr
 have HW:=aP hw;clear h hw;go_enter func169,ntmps169
 go_upto_region 1 with(fail)
 generalize w.alloc (aI #[.int .i64 10,A, .int .i64 B,C,D] 281)=w1 at *;generalize w.heap.size=q1 at *;obtain⟨x0,x1,x2,x3,x4⟩:=H1.o.xs;have pc:=H1.o.m.pc;unfold pA at pc;cases hf:fW k.c e A with
 |none=>
  have HR2:aH (iL k e 10 A B C D 23 k):=P.o 23 k (by unfold GQ;rw[hf];exact⟨rfl,rfl⟩);have HD:=aP (Hw (H1.o.below (Below.refl w1 w1).drew).m HW.o e A hf);clear hf P;go_upto_region 14 with(fail)
  go_region_held3 (λW=>W.cell? (g,2)=some (.pointer a.gc)/\W.cell? (q1,1)=some (.int .i64 A)) (first|exact⟨pc,x1⟩|exact⟨‹_›,‹_›⟩) ((go_at_call 149;(refine aR HD ?_);rintro x w3 ⟨rfl,h3,k3⟩;(have pc3:=h3.pc);(unfold pA at pc3);(have y1:=k3.cell x1 (.inr rfl));(have Y:=aP ((H1.o.below (Below.refl w1 w1).drew).ret h3 k3).o);clear h3 k3))
  go_wp2_with fail
  go_ret
  exact⟨_,_,HR2.o,rfl,Y.o.1,Y.o.2⟩
 |some i=>
  have HR2:aH (∀L k',AK k L->iF (dF (cN k.c i).nu true L).2 (vK k (cN k.c i).nu true L) k'->iL k e 10 A B C D 0 k'):=λL k' hL hl=>P.o 0 _ (by unfold GQ;rw[hf];exact⟨rfl,L,hL,hl⟩)
  have HD:=aP (Aq (H1.o.below (Below.refl w1 w1).drew).m HW.o e A hf);clear hf P;go_upto_region 14 with(fail)
  go_region_held3 (λW=>W.cell? (g,2)=some (.pointer a.gc)/\W.cell? (q1,1)=some (.int .i64 A)) (first|exact⟨pc,x1⟩|exact⟨‹_›,‹_›⟩) ((go_at_call 149;(refine aR HD ?_);rintro x w3 ⟨A3,c3,L,rfl,U,ho3,h3,k3⟩;(have pc3:=h3.pc);(unfold pA at pc3);(have y1:=k3.cell x1 (.inr rfl));(have Y:=cZ U ho3 (And.intro h3 k3));clear U ho3 h3 k3))
  have Z:=FL (cN k.c i).nu true L;have hlen:(dF (cN k.c i).nu true L).2.length<=128:=aaR Z.1 (by rw[Y.o.1.1.length_eq];exact C0 _);have hge:∀p∈(dF (cN k.c i).nu true L).2,0<=p.e:=λp hp=>KY (Y.o.1.1.mem_iff.1 (Z.2 p hp))
  have HG:=aP (zS Y.o.2.2.1 HW.o.t Y.o.2.1 (λq hq=> .inr hq) aQ hge);have HR3:=aP (λk' hl=>HR2.o L k' Y.o.1 hl);have HKW:aH (KW (vK k (cN k.c i).nu true L)):=HW.o.Fh _ _ _;have HKD:aH ({{k with c:=jW k.c (dF (cN k.c i).nu true L).2} with t:=jO k.t (dF (cN k.c i).nu true L).2}=vK k (cN k.c i).nu true L):=rfl;clear Z hge;generalize vK k (cN k.c i).nu true L=kf at *;generalize (dF (cN k.c i).nu true L).2=S at *;obtain⟨m,hm⟩:∃m,m=S.length:=⟨_,rfl⟩
  have HMm:=aP hm;rw[<-hm] at HG hlen;rw[<-hm];have H3o:=bH Y.o.2.1 Y.o.2.2.2;clear hm Y HR2 HD;go_wp2_with fail
  refine aR HG ?_;rintro x w4 ⟨rfl,h4,k4⟩;rw[HKD.o] at h4;have H4:aH (KM (cB (Fb F q1) A3) w4 g kf/\Kp F w w4/\∃B,bB oP 5 w4 B 156 A3 c3 S):=⟨h4,(H1.o.below (Below.refl w1 w1).drew).k.trans ((H3o.o.2.unbox).trans (k4.mono (λb Q=> .inl (.inl Q)))),_,H3o.o.1.kp k4 (λq hq=> .inr hq)⟩
  clear h4 k4 HG HKD H3o pc3 y1;go_wp2_with fail
  go_loopw [88] (λv88 wr=>∃j:Nat,v88= .int .i64 j/\j<=m/\aH (∃k',iF (S.take j) kf k'/\KM (cB (Fb F q1) A3) wr g k'/\Kp F w wr/\∃B,bB oP 5 wr B 156 A3 c3 S)) (λv88 _=>m - (aL v88).toNat)
  case atStart=>exact⟨0,rfl,aaQ _,kf, .nil kf,H4.o⟩
  case round=>
   clear H4;obtain⟨j,rfl,hj,HX⟩:=hrel;obtain⟨I,hL,⟨a1,h1⟩,hK,B1,U⟩:=HX.o;by_cases hjm:j<m
   .have N:j<S.length:=by rw[<-HMm.o];exact hjm
    obtain⟨q,rfl⟩:∃q,A3=some ⟨q,0,none⟩:=by
     rcases U.shape with⟨_,h2,_⟩|h2
     .rw[h2] at N;simp at N
     .exact h2
    have e0:=bG fR U N (j:=0) (v:= .int .i64 S[j].e) rfl;have e1:=bG fR U N (j:=1) (v:= .int .i64 S[j].s) rfl;have e2:=bG fR U N (j:=2) (v:= .int .i64 S[j].h.kd) rfl;have e3:=bG fR U N (j:=3) (v:= .int .i64 S[j].h.ob) rfl;have e4:=bG fR U N (j:=4) (v:= .int .i64 S[j].h.rt) rfl;rw[aa3] at e0;have k0:(0:Int)<=j:=aQ;have k2:(j:Int)<(m:Int):=aQ;have htk:aH (S.take (j+1)=S.take j++ [S[j]]):=by unfold aH;rw[abN,aaG N];rfl
    have HLS:aH (¬(S[j].h.kd=1/\mJ I S[j].h.ob=false/\gI I.f S[j].h.ob=true)->iF (S.take j++ [S[j]]) kf I):=λhp=>hL.Z5 hp
    have HLL:aH (∀k',(S[j].h.kd=1/\mJ I S[j].h.ob=false/\gI I.f S[j].h.ob=true)->pE I S[j].h.ob k'->iF (S.take j++ [S[j]]) kf k'):=λk' hp r=>hL.snoc hp r
    have HKW1:=aP (hL.kw HKW.o);generalize S[j]=y at *;obtain⟨y1,y2,V,J,y5,y6,y7⟩:=y;simp only at e0 e1 e2 e3 e4 HLS HLL;have hb3:=aX wr (aI #[y1,y2,V,J,y5] 156);have yb:=bC.new wr 156 #[y1,y2,V,J,y5];have M:aH (bJ (cB (Fb F q1) (some ⟨q,0,none⟩)) (wr.alloc (aI #[y1,y2,V,J,y5] 156)) g a1 I/\Kp F w (wr.alloc (aI #[y1,y2,V,J,y5] 156))/\bB oP 5 (wr.alloc (aI #[y1,y2,V,J,y5] 156)) B1 156 (some ⟨q,0,none⟩) c3 S):=⟨(h1.below hb3).1,hK.trans ((h1.below hb3).2.mono (λb Q=> .inl (.inl Q))),U.keep hb3⟩
    clear hb3 h1 hK U hL HX;go_upto_region 21 with(fail)
    clear e0 e1 e2 e3 e4;generalize wr.alloc (aI #[y1,y2,V,J,y5] 156)=w5 at *;generalize wr.heap.size=q5 at *;have a6:=yb.cell 2 V rfl;have R:=yb.cell 3 J rfl;have pf:=M.o.1.pf;unfold pA at pf;obtain⟨G,hfr,_⟩:=M.o.1.fr;have O:aH (∀W,aD w5 w5 W->aG prog 151 #[.pointer g,J] W λe w'=>e= .returned (.bool (mJ I J))/\aD W.heap.size W w'):=λW hW=>RO (M.o.1.below hW).1 J
    have o8:aH (∀W,aD w5 w5 W->aG prog 14 #[.pointer a1.gf,J] W λe w'=>e= .returned (.bool (gI I.f J))/\W=w'):=λW hW=>F2 I.f a1.gf J W (hfr.keep hW).1.m
    clear hfr;by_cases hc:V=1/\mJ I J=false/\gI I.f J=true
    .obtain⟨H,K,T⟩:=hc;have HLL2:=aP (λk' r=>HLL.o k' ⟨H,K,T⟩ r);have hc1':(V==1)=true:=by simp[H]
     rw[K] at O;rw[T] at o8;clear H K T HLS HLL;(have n:=bR.cell pf;have d:=bR.cell a6;have l:=bR.cell R;refine dA aV aV ?_;(repeat (go_big_quiet_step ((first|(go_at_call 151;with_reducible exact gR (O.o _ (bR.ok _)))|(go_at_call 14;with_reducible exact pR (o8.o _ (bR.ok _)))))));refine wpQuiet_nil ?_;clear n d l;intro X z;have u:=bR.below z;clear z)
     have z3:=bD u R;have H6:=aP (M.o.1.below u);have HO6:=aP (M.o.2.2.keep u);have HLo:=aP (FB H6.o.1 HKW1.o J);clear u O o8 a6 R pf yb;go_wp2_with fail
     refine aR HLo ?_;rintro x w7 ⟨k7,hL7,rfl,h7,kp7⟩;have H7:aH (∃k',iF (S.take (j+1)) kf k'/\KM (cB (Fb F q1) (some ⟨q,0,none⟩)) w7 g k'/\Kp F w w7/\∃B,bB oP 5 w7 B 156 (some ⟨q,0,none⟩) c3 S):=⟨k7,by rw[htk.o];exact HLL2.o k7 hL7,h7,M.o.2.1.trans ((H6.o.2.trans kp7).mono (λb Q=> .inl (.inl Q))),B1,HO6.o.kp kp7 (λr hr=> .inr hr)⟩
     clear hL7 h7 kp7 z3;go_wp2_with fail
     go_roundw
     case rel=>exact⟨j+1,by go_num,aQ,H7.o⟩
     case measure=>simp[aL];omega
    .have a7:=aP (HLS.o hc);clear HLS HLL;by_cases H:V=1
     .have hc1':(V==1)=true:=by simp[H]
      cases K:mJ I J with
      |true=>
       rw[K] at O;clear hc H K;(have n:=bR.cell pf;have d:=bR.cell a6;have l:=bR.cell R;refine dA aV aV ?_;(repeat (go_big_quiet_step ((first|(go_at_call 151;with_reducible exact gR (O.o _ (bR.ok _)))|(go_at_call 14;with_reducible exact pR (o8.o _ (bR.ok _)))))));refine wpQuiet_nil ?_;clear n d l;intro X z;have u:=bR.below z;clear z)
       have H7:aH (∃k',iF (S.take (j+1)) kf k'/\KM (cB (Fb F q1) (some ⟨q,0,none⟩)) X g k'/\Kp F w X/\∃B,bB oP 5 X B 156 (some ⟨q,0,none⟩) c3 S):=⟨I,by rw[htk.o];exact a7.o,⟨a1,(M.o.1.below u).1⟩,M.o.2.1.trans ((M.o.1.below u).2.mono (λb Q=> .inl (.inl Q))),B1,M.o.2.2.keep u⟩
       clear u;go_wp2_with fail
       go_roundw
       case rel=>exact⟨j+1,by go_num,aQ,H7.o⟩
       case measure=>simp[aL];omega
      |false=>
       have T:gI I.f J=false:=by
        cases ht:gI I.f J with
        |false=>rfl
        |true=>exact absurd ⟨H,K,ht⟩ hc
       rw[K] at O;rw[T] at o8;clear hc H K T;(have n:=bR.cell pf;have d:=bR.cell a6;have l:=bR.cell R;refine dA aV aV ?_;(repeat (go_big_quiet_step ((first|(go_at_call 151;with_reducible exact gR (O.o _ (bR.ok _)))|(go_at_call 14;with_reducible exact pR (o8.o _ (bR.ok _)))))));refine wpQuiet_nil ?_;clear n d l;intro X z;have u:=bR.below z;clear z)
       have H7:aH (∃k',iF (S.take (j+1)) kf k'/\KM (cB (Fb F q1) (some ⟨q,0,none⟩)) X g k'/\Kp F w X/\∃B,bB oP 5 X B 156 (some ⟨q,0,none⟩) c3 S):=⟨I,by rw[htk.o];exact a7.o,⟨a1,(M.o.1.below u).1⟩,M.o.2.1.trans ((M.o.1.below u).2.mono (λb Q=> .inl (.inl Q))),B1,M.o.2.2.keep u⟩
       clear u;go_wp2_with fail
       go_roundw
       case rel=>exact⟨j+1,by go_num,aQ,H7.o⟩
       case measure=>simp[aL];omega
     .have hc1':(V==1)=false:=by simp[H]
      clear hc H;(have n:=bR.cell pf;have d:=bR.cell a6;have l:=bR.cell R;refine dA aV aV ?_;(repeat (go_big_quiet_step ((first|(go_at_call 151;with_reducible exact gR (O.o _ (bR.ok _)))|(go_at_call 14;with_reducible exact pR (o8.o _ (bR.ok _)))))));refine wpQuiet_nil ?_;clear n d l;intro X z;have u:=bR.below z;clear z)
      have H7:aH (∃k',iF (S.take (j+1)) kf k'/\KM (cB (Fb F q1) (some ⟨q,0,none⟩)) X g k'/\Kp F w X/\∃B,bB oP 5 X B 156 (some ⟨q,0,none⟩) c3 S):=⟨I,by rw[htk.o];exact a7.o,⟨a1,(M.o.1.below u).1⟩,M.o.2.1.trans ((M.o.1.below u).2.mono (λb Q=> .inl (.inl Q))),B1,M.o.2.2.keep u⟩
      clear u;go_wp2_with fail
      go_roundw
      case rel=>exact⟨j+1,by go_num,aQ,H7.o⟩
      case measure=>simp[aL];omega
   .obtain rfl:j=m:=aQ;have k2:¬(j:Int)<(j:Int):=aQ;have hST:S.take j=S:=aa7 (by rw[<-HMm.o];exact aaH _);rw[hST] at hL;have HE:aH (∃E k',iL k e 10 A B C D E k'/\gD F g k' (.int .i64 E) w (.returned (.int .i64 0)) wr):=⟨0,I,HR3.o I hL,rfl,⟨a1,h1.less (λb Q=> .inl (.inl Q))⟩,hK⟩
    clear hST hL h1 hK U HX;go_wp2_with fail
    go_ret
    exact HE.o
end
section
theorem Bi{a:Ka}{k:Kv}(h:bJ F w g a k)(hw:KW k)(e A B C D:Int):aG prog 174 #[.pointer g,e, .agg #[.int .i64 15,A,B,C,D]] w λr w'=>∃E k',qM k e 15 C D E k'/\gD F g k' (.int .i64 E) w r w':=by
 have H1:=aP (BxK.new h 15 A B C D);have i:aH (qM k e 15 C D (sP k.s e C D) {k with s:=kK k.s e C D}):=by unfold aH qM;rw[aaK rfl];exact⟨rfl,rfl⟩
 have J:=aP hw;clear h hw;go_enter func174,ntmps174
 go_upto_region 1 with(fail)
 generalize w.alloc (aI #[.int .i64 15,A,B,C,D] 281)=w1 at *;generalize w.heap.size=q1 at *;obtain⟨L,M,N,p,q⟩:=H1.o.xs;have ps:=H1.o.m.ps;unfold pA at ps;go_upto_region 3 with(fail)
 have b:=bF ps;have c:=bF p;have f:=bF q;refine bS (bV _) (λ_=>bV) [] (λ_ _ _=>True) [10,11] [[10,9,6], [10,9,8]] 50 (cM _) (λ_ _ _ h t=>bZ h t) (λ_ d hd _ v w w' _ h t=>by cases hd) aV aV bK ?_;repeat refine fQ ?_
 refine eL ?_;intro γ w5 hb5 hT;clear b c f;simp only[dG,Act.put,aaI,aaP,aaN];refine eT ?_;have n:=H1.o.below hb5;obtain⟨G,hc,back⟩:=n.m.sd;have HD:=aP (IM hc J.o.sd e C D);have u:=aP back;have y:=aP n;clear hc back n hb5 hT H1 L M N p q ps;generalize sP k.s e C D=rE at *;generalize kK k.s e C D=rV at *;refine wpList_plain rfl (λK hK=>?_);go_wp2_with fail
 refine aR HD ?_;rintro x O ⟨rfl,j,l⟩;obtain⟨z,H⟩:=u.o _ _ j l;have I:=aP (y.o.ret z H).o;clear j l z H u HD y;refine hK _ _ ?_;clear hK K;refine wpList_plain rfl (λK hK=>?_);go_simp
 refine hK _ _ ?_;clear hK K;refine cP ?_;try refine dB ?_
 go_wp2_with fail
 go_ret
 exact⟨_,_,i.o,rfl,I.o.1,I.o.2⟩
theorem Y8{a:Ka}{k:Kv}(h:bJ F w g a k)(hw:KW k)(e A B C D:Int):aG prog 174 #[.pointer g,e, .agg #[.int .i64 16,A,B,C,D]] w λr w'=>∃E k',qM k e 16 C D E k'/\gD F g k' (.int .i64 E) w r w':=by
 have H1:=aP (BxK.new h 16 A B C D);have b:aH (qM k e 16 C D (uB k.s e) {k with s:=lU k.s e}):=by unfold aH qM;rw[aaL aQ,aaK rfl];exact⟨rfl,rfl⟩
 have n:=aP hw;clear h hw;go_enter func174,ntmps174
 go_upto_region 1 with(fail)
 generalize w.alloc (aI #[.int .i64 16,A,B,C,D] 281)=w1 at *;generalize w.heap.size=q1 at *;obtain⟨p,q,t,u,v⟩:=H1.o.xs;have ps:=H1.o.m.ps;unfold pA at ps;obtain⟨G,hc,back⟩:=H1.o.m.sd;have HD:=aP (IC hc n.o.sd e);have f:=aP back;clear hc back;go_wp2_with fail
 refine aR HD ?_;rintro x y ⟨rfl,c,d⟩;obtain⟨i,j⟩:=f.o _ _ c d;have l:=aP (H1.o.ret i j).o;clear c d i j f HD H1;go_wp2_with fail
 go_ret
 exact⟨_,_,b.o,rfl,l.o.1,l.o.2⟩
end
section
theorem Nb{a:Ka}{k:Kv}(h:bJ F w g a k)(e:Int)(he:0<=e/\e<8):aG prog 220 #[.pointer a.gr,e] w λx w'=>∃(O:Option Addr) (m d:Nat) (u:Int),x= .returned (.tuple #[(O,m,d),u])/\bJ F w' g a k/\Kp F w w':=by
 obtain⟨G,⟨C,⟨R,h1,f,i⟩,h8,hl⟩,back⟩:=h.rw;obtain⟨n,rfl⟩:=aaO he.1;have b:n<R.length:=by rw[h1.len];omega
 have hC:(vA R[n]).L.length<=8:=hl _ (by rw[<-f];exact adS (aaM b));refine(Nc a.gr n aQ R w h1 b hC).mono ?_;rintro x w' ⟨O,d,rfl,_,c⟩;exact⟨O,_,d,_,rfl,(h.below c).1,(h.below c).2⟩
theorem C5{a:Ka}{k:Kv}(h:bJ F w g a k)(hw:KW k)(e:Int)(b:Bool):aG prog 43 #[.pointer a.gs,e,b] w λx w'=>x= .returned (.int .i64 (J5 k.s e))/\bJ F w' g a {k with s:=gS k.s e b}/\Kp F w w':=by
 obtain⟨G,hs,back⟩:=h.sd;refine(F7 hs hw.p8 e b).mono ?_;rintro x w' ⟨rfl,c,d⟩;exact⟨rfl,(back _ _ c d).1,(back _ _ c d).2⟩
theorem ZL{a:Ka}{k:Kv}(h:bJ F w g a k)(hw:KW k)(e:Int)(he:0<=e/\e<8)(A B C D:Int):aG prog 174 #[.pointer g,e, .agg #[.int .i64 19,A,B,C,D]] w λr w'=>∃E k',qM k e 19 C D E k'/\gD F g k' (.int .i64 E) w r w':=by
 have H1:=aP (BxK.new h 19 A B C D);have b:aH (∀(E:Int) (k':Kv),(k'=k\/k'={k with s:=gS k.s e false})->qM k e 19 C D E k'):=λE k' z=>by unfold qM;rw[aaL aQ,aaL aQ];exact z
 have G:=aP hw;have i:=aP he;clear h hw he;go_enter func174,ntmps174
 go_upto_region 1 with(fail)
 generalize w.alloc (aI #[.int .i64 19,A,B,C,D] 281)=w1 at *;generalize w.heap.size=q1 at *;obtain⟨J,K,L,M,N⟩:=H1.o.xs;have pr:=H1.o.m.pr;unfold pA at pr;have l:=aP (Nb H1.o.m e i.o);go_wp2_with fail
 refine aR l ?_;rintro x H ⟨O,m,d,u,rfl,n,p⟩;have f:=aP (H1.o.ret n p);clear n p l H1 pr;have ps:=f.o.m.ps;unfold pA at ps;have q:=aP (C5 f.o.m G.o e false);by_cases hm:0<m
 .have j:(0:Int)<(m:Int):=aQ;have I:aH (∃E k',qM k e 19 C D E k'/\gD F g k' (.int .i64 E) w (.returned (.int .i64 25)) H):=⟨25,k,b.o _ _ (.inl rfl),rfl,f.o.o.1,f.o.o.2⟩
  go_wp2_with fail
  go_ret
  exact I.o
 .have j:¬(0:Int)<(m:Int):=aQ;generalize J5 k.s e=rE at *;have c:=aP (b.o rE _ (.inr rfl));clear b;go_wp2_with fail
  refine aR q ?_;rintro x P ⟨rfl,t,v⟩;have y:=aP (f.o.ret t v).o;clear t v q f ps;go_wp2_with fail
  go_ret
  exact⟨_,_,c.o,rfl,y.o.1,y.o.2⟩
theorem ZS{a:Ka}{k:Kv}(h:bJ F w g a k)(hw:KW k)(e s v:Int):aG prog 172 #[.pointer g,e,s,v] w λr w'=>∃E k',(k'=k\/∃o,k'=fI k o)/\gD F g k' (.int .i64 E) w r w':=by
 obtain⟨G,i,_⟩:=h.cp;have f:=oK i e s 3 2;have pc:=h.pc;unfold pA at pc;have m:=aP h;have A:=aP hw;clear h i hw;cases hq:jY k.c e s 3 2 with
 |none=>
  rw[hq] at f;have f:=aP f;clear hq;go_enter func172,ntmps172
  go_wp2_with fail
  refine aR f ?_;rintro r n ⟨rfl,b⟩;simp only[mC,acF];have p:aH (∃E k',(k'=k\/∃o,k'=fI k o)/\gD F g k' (.int .i64 E) w (.returned (.int .i64 23)) (n.alloc (aI #[aU,aU,aU] 154))):=by
   have d:=b.alloc b.size (aI #[aU,aU,aU] 154);exact⟨23,k, .inl rfl,rfl,⟨a,(m.o.below d).1⟩,(m.o.below d).2⟩
  clear b;go_wp2_with fail
  go_ret
  exact p.o
 |some x=>
  rw[hq] at f;have f:=aP f;clear hq;obtain⟨q,j,t,H,I⟩:=x;go_enter func172,ntmps172
  go_wp2_with fail
  refine aR f ?_;rintro r n ⟨rfl,b⟩;simp only[mC,acE];have d:=b.alloc b.size (aI #[q,j,t] 154);have yb:=bC.new n 154 #[q,j,t];have y:=aP (m.o.below d);have B:=yb.cell 1 j rfl;clear b d pc yb;have C:=aP (wY y.o.1 A.o.p8 j 7 e (IntKind.u64.wrap v) aQ);go_wp2_with fail
  refine aR C ?_;rintro r D ⟨u,rfl,z,l⟩;have p:aH (∃E k',(k'=k\/∃o,k'=fI k o)/\gD F g k' (.int .i64 E) w (.returned (.int .i64 u)) D):=⟨u,_, .inr ⟨j,rfl⟩,rfl,⟨a,z⟩,y.o.2.trans l⟩
  clear z l B;go_wp2_with fail
  go_ret
  exact p.o
end
section
theorem NV{a:Ka}{k:Kv}(h:bJ F w g a k)(i:Int)(m:Bool):aG prog 195 #[.pointer a.gi,i,m] w λx w'=>∃v:Int,x= .returned (.int .i64 v)/\KM F w' g k/\Kp F w w':=by
 obtain⟨G,hi,back⟩:=h.ir;refine(P7 hi i m).mono ?_;rintro x w' ⟨v,L,rfl,b,c,d⟩;exact⟨v,rfl,⟨_,(back L _ b c d).1⟩,(back L _ b c d).2⟩
theorem Io{a:Ka}{k:Kv}(h:bJ F w g a k)(i:Int):aG prog 196 #[.pointer a.gi,i] w λx w'=>∃v:Int,x= .returned (.int .i64 v)/\KM F w' g k/\Kp F w w':=by
 obtain⟨G,hi,back⟩:=h.ir;refine(UQ hi i).mono ?_;rintro x w' ⟨v,L,rfl,b,c,d⟩;exact⟨v,rfl,⟨_,(back L _ b c d).1⟩,(back L _ b c d).2⟩
theorem EZ{a:Ka}{k:Kv}(h:bJ F w g a k)(e op A B C D:Int)(hop:11<=op/\op<=13):aG prog 170 #[.pointer g,e, .agg #[op,A,B,C,D]] w λr w'=>∃E:Int,gD F g k (.int .i64 E) w r w':=by
 have H1:=aP (BxK.new h op A B C D);have Z:=aP hop;clear h hop;go_enter func170,ntmps170
 go_upto_region 1 with(fail)
 generalize w.alloc (aI #[op,A,B,C,D] 281)=w1 at *;generalize w.heap.size=q1 at *;obtain⟨x0,x1,x2,x3,x4⟩:=H1.o.xs;have pc:=H1.o.m.pc;unfold pA at pc;have s:∀W,aD w1 w1 W->aG prog 207 #[.pointer a.gc,e,A, .int .i64 2, .int .i64 2] W λx w'=>x= .returned (.tuple #[mC (jY k.c e A 2 2), .bool (jY k.c e A 2 2).isSome])/\aD W.heap.size W w':=λW hW=>by
  obtain⟨G,hcp,_⟩:=(H1.o.m.below hW).1.cp;exact oK hcp e A 2 2
 cases hq:jY k.c e A 2 2 with
 |none=>
  rw[hq] at s;have HH:=aP s;clear hq s;simp only[mC,acF] at HH;have i:=bF pc;have j:=bF x1;refine bS (bV _) (λ_=>bV) [7] (λ_ v w=>lS (lF pc) 154 #[aU,aU,aU] v w) [12] [] 66 (cM _) (λ_ _ _ h p=>bZ h p) (λ_ d hd _ v w w' _ h p=>h.keep p) aV aV bK ?_;repeat (first|(refine ZD bK ?_;(try refine dB ?_))|(refine UY bK bK bK bK bK (λK hK=>?_);go_big_quiet_op;refine hK _ ?_;clear hK K)|(refine Pu bK bK bK bK bK bK (λK hK=>?_);go_big_quiet_op;refine hK _ ?_;clear hK K)|(refine Lr bK bK bK ?_;(try refine dB ?_))|(refine VC bK bK bK bK bK (λK hK=>?_);go_simp;(try simp only[SH,afT]);first|(apply Exists.intro;refine⟨λn=>?_,hK _ ?_⟩;(with_reducible exact aaC (HH.o _ (aaF n)));clear hK K;(try refine dB ?_))|(apply Exists.intro;refine⟨λn=>rfl,hK _ ?_⟩;clear hK K;(try refine dB ?_)))|(refine JT 7 [] bK bK bK bK (λγ w hC t=>?_) ?_;(simp only[dG];go_simp;exact DD (aX w _) ⟨_,rfl,Below.size hC,bC.new w _ _⟩);(try refine dB ?_)))
  refine eL ?_;intro γ w_ hb_ t;clear i j;simp only[dG,Act.put,aaI,aaP,aaN];refine eT ?_;obtain⟨g7,e_,z,H⟩:=t 7 aT;simp only[e_];clear t e_;refine aaB z hb_ H rfl 154 _ _ rfl #[aU,aU,aU] rfl rfl rfl aV aV ?_;clear z hb_ H;intro w5 u I;refine cP ?_;simp only[Act.put];have HE:=aP (H1.o.below u).o;clear u;go_wp2_with fail
  go_ret
  exact⟨23,rfl,HE.o.1,HE.o.2⟩
 |some x=>
  rw[hq] at s;have HH:=aP s;clear hq s;obtain⟨r1,S,r3,r4,r5⟩:=x;simp only[mC,acE] at HH;have i:=bF pc;have j:=bF x1;refine bS (bV _) (λ_=>bV) [7] (λ_ v w=>lS (lF pc) 154 #[aU,aU,aU] v w) [12] [] 66 (cM _) (λ_ _ _ h p=>bZ h p) (λ_ d hd _ v w w' _ h p=>h.keep p) aV aV bK ?_;repeat (first|(refine ZD bK ?_;(try refine dB ?_))|(refine UY bK bK bK bK bK (λK hK=>?_);go_big_quiet_op;refine hK _ ?_;clear hK K)|(refine Pu bK bK bK bK bK bK (λK hK=>?_);go_big_quiet_op;refine hK _ ?_;clear hK K)|(refine Lr bK bK bK ?_;(try refine dB ?_))|(refine VC bK bK bK bK bK (λK hK=>?_);go_simp;(try simp only[SH,afT]);first|(apply Exists.intro;refine⟨λn=>?_,hK _ ?_⟩;(with_reducible exact aaC (HH.o _ (aaF n)));clear hK K;(try refine dB ?_))|(apply Exists.intro;refine⟨λn=>rfl,hK _ ?_⟩;clear hK K;(try refine dB ?_)))|(refine JT 7 [] bK bK bK bK (λγ w hC t=>?_) ?_;(simp only[dG];go_simp;exact DD (aX w _) ⟨_,rfl,Below.size hC,bC.new w _ _⟩);(try refine dB ?_)))
  refine eL ?_;intro γ w_ hb_ t;clear i j;simp only[dG,Act.put,aaI,aaP,aaN];refine eT ?_;obtain⟨g7,e_,z,H⟩:=t 7 aT;simp only[e_];clear t e_;refine aaB z hb_ H rfl 154 _ _ rfl #[r1,S,r3] rfl rfl rfl aV aV ?_;clear z hb_ H;intro w5 u I;refine cP ?_;simp only[Act.put];have y1:=I.2.cell 1 S rfl;have J:aH (bJ (cB (Fb F q1) g7) w5 g a k/\BxK F w w5 q1 g a k op A B C D):=⟨(bJ.bX g a k).row H1.o.m H1.o.m.fl u (λq hq=>by
   injection hq with hq;subst hq;exact⟨I.1,I.2.lt⟩),H1.o.below u⟩
  have T:aH (∀N,KM (cB (Fb F q1) g7) N g k->Kp (cB (Fb F q1) g7) w5 N->KM F N g k/\Kp F w N):=λN hm kp=>⟨hm.less (λb hb=> .inl (.inl hb)),J.o.2.k.trans (kp.mono (λb hb=> .inl (.inl hb)))⟩
  obtain⟨x0,x1,x2,x3,x4⟩:=J.o.2.xs;clear u I HH H1 pc;by_cases O:op=11
  .subst O;have HB:=aP (OC J.o.1 S e);clear Z;go_wp2_with fail
   refine aR HB ?_;rintro x N ⟨rfl,⟨a6,h6⟩,k6⟩;have y16:=k6.cell y1 (.inr rfl);have pi:=h6.pi;unfold pA at pi;have H6:=bH h6 k6;clear h6 k6 HB y1 x0 x1 x2 x3 x4;go_upto_region 6 with(fail)
   have f:=bF pi;have L:=bF y16;refine bS (bV _) (λ_=>bV) [] (λ_ _ _=>True) [6] [] 66 (cM _) (λ_ _ _ h p=>bZ h p) (λ_ d hd _ v w w' _ h p=>by cases hd) aV aV bK ?_;repeat refine fQ ?_
   refine eL ?_;intro γ w7 hb7 t;clear f L;simp only[dG,Act.put,aaI,aaP,aaN];refine eT ?_;have M:=H6.o.1.below hb7;have HD:=aP (NV M.1 S false);have U:=aP (H6.o.2.trans M.2);clear M hb7 t H6 pi y16;refine wpList_plain rfl (λK hK=>?_);go_wp2_with fail
   refine aR HD ?_;rintro x w8 ⟨v,rfl,V,X⟩;have Y:=aP (T.o _ V (U.o.trans X));clear V X U HD T;refine hK _ _ ?_;clear hK K;refine cP ?_;try refine dB ?_
   go_wp2_with fail
   go_ret
   exact⟨0,rfl,Y.o.1,Y.o.2⟩
  .have h11':(op==11)=false:=by simp[O]
   have y:=aP (CM J.o.1 S);have HQ:=aP (T.o _ ⟨a,J.o.1⟩ (Kp.refl _ _));generalize EP a S=bv at *;by_cases P:bv=e
   .have hbv':(bv !=e)=false:=by simp[P]
    clear P HQ;have pi:=J.o.1.pi;unfold pA at pi;by_cases Q:op=12
    .have h12':(op==12)=true:=by simp[Q]
     clear Q O Z;go_wp2_with fail
     refine aR y ?_;rintro x N ⟨rfl,rfl⟩;clear y;go_upto_region 11 with(fail)
     have f:=bF pi;have l:=bF y1;refine bS (bV _) (λ_=>bV) [] (λ_ _ _=>True) [6,7] [] 66 (cM _) (λ_ _ _ h p=>bZ h p) (λ_ d hd _ v w w' _ h p=>by cases hd) aV aV bK ?_;repeat refine fQ ?_
     refine eL ?_;intro γ w7 hb7 t;clear f l;simp only[dG,Act.put,aaI,aaP,aaN];refine eT ?_;have M:=J.o.1.below hb7;have HD:=aP (Io M.1 S);have U:=aP M.2;clear M hb7 t J pi y1 x0 x1 x2 x3 x4;refine wpList_plain rfl (λK hK=>?_);go_wp2_with fail
     refine aR HD ?_;rintro x w8 ⟨v,rfl,V,X⟩;have Y:=aP (T.o _ V (U.o.trans X));clear V X U HD T;refine hK _ _ ?_;clear hK K;refine wpList_plain rfl (λK hK=>?_);go_simp
     refine hK _ _ ?_;clear hK K;refine cP ?_;try refine dB ?_
     go_wp2_with fail
     go_ret
     exact⟨v,rfl,Y.o.1,Y.o.2⟩
    .have h12':(op==12)=false:=by simp[Q]
     clear Q O Z;by_cases hB1:1<B
     .have HQ:=aP (T.o _ ⟨a,J.o.1⟩ (Kp.refl _ _));go_wp2_with fail
      refine aR y ?_;rintro x N ⟨rfl,rfl⟩;go_wp2_with fail
      go_ret
      exact⟨1,rfl,HQ.o.1,HQ.o.2⟩
     .go_wp2_with fail
      refine aR y ?_;rintro x N ⟨rfl,rfl⟩;clear y;go_upto_region 14 with(fail)
      have f:=bF pi;have l:=bF y1;have R:=bF x2;refine bS (bV _) (λ_=>bV) [] (λ_ _ _=>True) [9,10] [[9,8,7]] 66 (cM _) (λ_ _ _ h p=>bZ h p) (λ_ d hd _ v w w' _ h p=>by cases hd) aV aV bK ?_;repeat refine fQ ?_
      refine eL ?_;intro γ w7 hb7 t;clear f l R;simp only[dG,Act.put,aaI,aaP,aaN];refine eT ?_;have M:=J.o.1.below hb7;have HD:=aP (NV M.1 S (B==1));have U:=aP M.2;clear M hb7 t J pi y1 x0 x1 x2 x3 x4;refine wpList_plain rfl (λK hK=>?_);go_wp2_with fail
      refine aR HD ?_;rintro x w8 ⟨v,rfl,V,X⟩;have Y:=aP (T.o _ V (U.o.trans X));clear V X U HD T;refine hK _ _ ?_;clear hK K;refine wpList_plain rfl (λK hK=>?_);go_simp
      refine hK _ _ ?_;clear hK K;refine cP ?_;try refine dB ?_
      go_wp2_with fail
      go_ret
      exact⟨v,rfl,Y.o.1,Y.o.2⟩
   .have hbv':(bv !=e)=true:=by simp[P]
    clear P;go_wp2_with fail
    refine aR y ?_;rintro x N ⟨rfl,rfl⟩;go_wp2_with fail
    go_ret
    exact⟨25,rfl,HQ.o.1,HQ.o.2⟩
end
variable{e:Int}
section
theorem YP{a:Ka}{k:Kv}(h:bJ F w g a k)(hw:KW k)(e o nw gr:Int):aG prog 105 #[.pointer a.gb,e,o,nw,gr] w λx w'=>x= .returned (.int .i64 (gP k.b e o nw gr).1)/\bJ F w' g a {k with b:=(gP k.b e o nw gr).2}/\Kp F w w':=by
 obtain⟨G,i,back⟩:=h.bo;unfold gP;by_cases c:zM e o nw gr
 .rw[aaK c];refine(Ho e o nw gr i (by have:=hw.b;omega) c).mono ?_;rintro x w' ⟨rfl,d,f⟩;by_cases hp:0<=rA k.b e o
  .rw[aaK hp] at d⊢;rw[aaK hp];exact⟨rfl,(back _ _ _ d f).1,(back _ _ _ d f).2⟩
  .rw[aaL hp] at d⊢;rw[aaL hp];exact⟨rfl,(back _ _ _ d f).1,(back _ _ _ d f).2⟩
 .rw[aaL c];refine(Gb e o nw gr w c).mono ?_;rintro x w' ⟨rfl,rfl⟩;exact⟨rfl,h,Kp.refl _ _⟩
theorem FU{k:Kv}{o gr:Int}(h:oZ e=false\/o<0\/6<=o):jQ k e o gr=(1,k):=by
 unfold jQ;rw[aaK (by simpa using h)]
theorem YH{k:Kv}{o gr:Int}(h1:oZ e=true)(a:¬o<0)(c:¬6<=o):jQ k e o gr=if fG k e o= [] then(23,k) else
 if(gP k.b e o k.s.nw gr).1≠0 then((gP k.b e o k.s.nw gr).1,k) else(0,fI {k with b:=(gP k.b e o k.s.nw gr).2} e):=by
 unfold jQ;rw[aaL (by simp[h1];omega)]
theorem VY{L:List Nt}{o nw gr:Int}(h:(gP L e o nw gr).1≠0):(gP L e o nw gr).2=L:=by
 unfold gP at h⊢;split
 .rename_i h1;rw[aaK h1] at h;split
  .rfl
  .rename_i a;rw[aaL a] at h;exact absurd rfl h
 .rfl
theorem VT{a:Ka}{k:Kv}(h:bJ F w g a k)(e o:Int):aG prog 104 #[.pointer g,e,o] w λx w'=>∃A c,x= .returned (.slice A (fG k e o).length c)/\aD w w w':=by
 refine(C8 h e o).mono ?_;rintro x w' ⟨A,c,rfl,_,b⟩;exact⟨A,c,rfl,b⟩
theorem Dz{a:Ka}{k:Kv}(h:bJ F w g a k)(hw:KW k)(e o gr:Int):aG prog 75 #[.pointer g,e,o,gr] w λr w'=>gD F g (jQ k e o gr).2 (.int .i64 (jQ k e o gr).1) w r w':=by
 obtain⟨c7,_,_⟩:=h.LX;have ps:=h.ps;have pb:=h.pb;unfold pA at ps pb;have j:=aP (fK h e);have y:=aP h;have K:=aP hw;have z:=aP (VT h e o);clear h hw;cases l:oZ e with
 |false=>
  have d:aH (jQ k e o gr=(1,k)):=FU (.inl l);rw[l] at j;clear l;generalize jQ k e o gr=rk at *;go_enter func75,ntmps75
  go_wp2_with fail
  refine aR j ?_;rintro x E ⟨rfl,rfl⟩;go_wp2_with fail
  go_ret
  rw[d.o];exact⟨rfl,⟨a,y.o⟩,Kp.refl _ _⟩
 |true=>
  rw[l] at j;by_cases h1:o<0
  .have d:aH (jQ k e o gr=(1,k)):=FU (.inr (.inl h1));clear l;generalize jQ k e o gr=rk at *;go_enter func75,ntmps75
   go_wp2_with fail
   refine aR j ?_;rintro x E ⟨rfl,rfl⟩;go_wp2_with fail
   go_ret
   rw[d.o];exact⟨rfl,⟨a,y.o⟩,Kp.refl _ _⟩
  by_cases L:6<=o
  .have d:aH (jQ k e o gr=(1,k)):=FU (.inr (.inr L));clear l;generalize jQ k e o gr=rk at *;go_enter func75,ntmps75
   go_wp2_with fail
   refine aR j ?_;rintro x E ⟨rfl,rfl⟩;go_wp2_with fail
   go_ret
   rw[d.o];exact⟨rfl,⟨a,y.o⟩,Kp.refl _ _⟩
  have f:=aP (YH (k:=k) (gr:=gr) l h1 L);generalize jQ k e o gr=rk at *;clear l;by_cases hs:fG k e o= []
  .have d:aH (rk=(23,k)):=by unfold aH;rw[f.o,aaK hs]
   rw[hs] at z;clear hs f;simp only[ab5] at z;go_enter func75,ntmps75
   go_wp2_with fail
   refine aR j ?_;rintro x E ⟨rfl,rfl⟩;go_wp2_with fail
   refine aR z ?_;rintro x R ⟨A,c,rfl,p⟩;have n:=aP (y.o.below p);clear p;go_wp2_with fail
   go_ret
   rw[d.o];exact⟨rfl,⟨a,n.o.1⟩,n.o.2⟩
  .have i:aH (rk=if(gP k.b e o k.s.nw gr).1≠0 then((gP k.b e o k.s.nw gr).1,k) else(0,fI {k with b:=(gP k.b e o k.s.nw gr).2} e)):=by unfold aH;rw[f.o,aaL hs]
   have M:¬((fG k e o).length:Int)=0:=by
    intro V;exact hs (ad6.1 aQ)
   have S:(((fG k e o).length:Int)==0)=false:=by rw[ae1];exact M
   clear hs f M;generalize (fG k e o).length=m at *;go_enter func75,ntmps75
   go_wp2_with fail
   refine aR j ?_;rintro x E ⟨rfl,rfl⟩;go_wp2_with fail
   refine aR z ?_;rintro x R ⟨A,c,rfl,p⟩;have H:=bD p ps;have I:=bD p pb;have t:=aP (y.o.below p);clear p ps pb c7 z j;obtain⟨G,B,_⟩:=t.o.1.sd;have J:=aP (wK B);clear B;go_wp2_with fail
   refine aR J ?_;rintro x W ⟨rfl,rfl⟩;have u:=aP (YP t.o.1 K.o e o k.s.nw gr);by_cases q:(gP k.b e o k.s.nw gr).1=0
   .have d:aH (rk=(0,fI {k with b:=(gP k.b e o k.s.nw gr).2} e)):=by unfold aH;rw[i.o,aaL (by simpa using q)]
    rw[q] at u;clear q i;generalize (gP k.b e o k.s.nw gr).2=L2 at *;go_wp2_with fail
    refine aR u ?_;rintro x T ⟨rfl,C,D⟩;have N:=aP (wY C K.o.p8 e 5 o (IntKind.u64.wrap (wrap64 (k.s.nw+gr))) aQ);have O:=aP (t.o.2.trans D);clear C D u J t H I;go_wp2_with fail
    refine aR N ?_;rintro x X ⟨v,rfl,P,Q⟩;have n:=bH P (O.o.trans Q);clear P Q N O;go_wp2_with fail
    go_ret
    rw[d.o];exact⟨rfl,⟨a,n.o.1⟩,n.o.2⟩
   .have d:aH (rk=((gP k.b e o k.s.nw gr).1,k)):=by unfold aH;rw[i.o,aaK q]
    rw[VY q] at u;have U:((gP k.b e o k.s.nw gr).1 !=0)=true:=by simp[q]
    clear q i;generalize (gP k.b e o k.s.nw gr).1=v2 at *;go_wp2_with fail
    refine aR u ?_;rintro x T ⟨rfl,C,D⟩;have n:=bH C (t.o.2.trans D);clear C D u J t;go_wp2_with fail
    go_ret
    rw[d.o];exact⟨rfl,⟨a,n.o.1⟩,n.o.2⟩
end
end
end Go.Proofs.YtacgiflhgdaeaaaGreat
