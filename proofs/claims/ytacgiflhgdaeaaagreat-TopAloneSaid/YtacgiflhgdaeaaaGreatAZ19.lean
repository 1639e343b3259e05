/- Texts laid as one. -/
import Derived.Laws.BitsLemmas
import Derived.Shelf.Abstract
import Derived.Test.YtacgiflhgdaeaaaGreatAZ2
import Derived.Test.YtacgiflhgdaeaaaGreatAZ3
import Derived.Test.YtacgiflhgdaeaaaGreatAZ8
import Derived.Test.YtacgiflhgdaeaaaGreatAZ13
import Derived.Test.YtacgiflhgdaeaaaGreatAZ15
import Derived.Test.YtacgiflhgdaeaaaGreatAZ18
set_option linter.unusedVariables false
set_option linter.unusedSimpArgs false
set_option maxRecDepth 100000
set_option maxHeartbeats 20000000
namespace Go.Proofs.YtacgiflhgdaeaaaGreat
open Go.Proofs.Tryz
open Go renaming World->aA,Addr->aJ,Calls->aG
open Go.RowKit renaming Below->aD,Hid->aH
open Go.Obj renaming cells->aI
section
open Go.RowKit Go.Lib Go.Shelf dF Fr Up Nt
variable{F:Nat->Prop}{w:aA}{g:Nat}{k:Kv}
section
theorem YH{a:Ka}(h:bQ F w g a k)(hw:KW k)(e A B C D:Int):aG prog 174 #[.pointer g,e, .agg #[.int .i64 15,A,B,C,D]] w λr w'=>∃E k',mR k e 15 C D E k'/\gJ F g k' (.int .i64 E) w r w':=by
 have H1:=aP (BxK.new h 15 A B C D);have i:aH (mR k e 15 C D (yS k.s e C D) {k with s:=qN k.s e C D}):=by unfold aH mR;rw[Zz rfl];exact⟨rfl,rfl⟩
 have J:=aP hw;clear h hw;go_enter func174,ntmps174
 go_upto_region 1 with(fail)
 generalize w.alloc (aI #[.int .i64 15,A,B,C,D] 281)=w1 at *;generalize w.heap.size=q1 at *;obtain⟨L,M,N,p,q⟩:=H1.o.xs;have ps:=H1.o.m.ps;unfold pA at ps;go_upto_region 3 with(fail)
 have b:=bD ps;have c:=bD p;have f:=bD q;refine bO (bS _) (λ_=>bS) [] (λ_ _ _=>True) [10,11] [[10,9,6], [10,9,8]] 50 (bY _) (λ_ _ _ h t=>bU h t) (λ_ d hd _ v w w' _ h t=>by cases hd) aV aV bL ?_;repeat refine eA ?_
 refine dC ?_;intro γ w5 hb5 hT;clear b c f;simp only[cO,Act.put,Zx,aaE,aaD];refine dP ?_;have n:=H1.o.below hb5;obtain⟨G,hc,back⟩:=n.m.sd;have HD:=aP (GY hc J.o.sd e C D);have u:=aP back;have y:=aP n;clear hc back n hb5 hT H1 L M N p q ps;generalize yS k.s e C D=rE at *;generalize qN k.s e C D=rV at *;refine wpList_plain rfl (λK hK=>?_);go_wp2_with fail
 refine aR HD ?_;rintro x O ⟨rfl,j,l⟩;obtain⟨z,H⟩:=u.o _ _ j l;have I:=aP (y.o.ret z H).o;clear j l z H u HD y;refine hK _ _ ?_;clear hK K;refine wpList_plain rfl (λK hK=>?_);go_simp
 refine hK _ _ ?_;clear hK K;refine cI ?_;try refine dE ?_
 go_wp2_with fail
 go_ret
 exact⟨_,_,i.o,rfl,I.o.1,I.o.2⟩
theorem YI{a:Ka}(h:bQ F w g a k)(hw:KW k)(e A B C D:Int):aG prog 174 #[.pointer g,e, .agg #[.int .i64 16,A,B,C,D]] w λr w'=>∃E k',mR k e 16 C D E k'/\gJ F g k' (.int .i64 E) w r w':=by
 have H1:=aP (BxK.new h 16 A B C D);have b:aH (mR k e 16 C D (yX k.s e) {k with s:=r6 k.s e}):=by unfold aH mR;rw[aaA aQ,Zz rfl];exact⟨rfl,rfl⟩
 have n:=aP hw;clear h hw;go_enter func174,ntmps174
 go_upto_region 1 with(fail)
 generalize w.alloc (aI #[.int .i64 16,A,B,C,D] 281)=w1 at *;generalize w.heap.size=q1 at *;obtain⟨p,q,t,u,v⟩:=H1.o.xs;have ps:=H1.o.m.ps;unfold pA at ps;obtain⟨G,hc,back⟩:=H1.o.m.sd;have HD:=aP (GQ hc n.o.sd e);have f:=aP back;clear hc back;go_wp2_with fail
 refine aR HD ?_;rintro x y ⟨rfl,c,d⟩;obtain⟨i,j⟩:=f.o _ _ c d;have l:=aP (H1.o.ret i j).o;clear c d i j f HD H1;go_wp2_with fail
 go_ret
 exact⟨_,_,b.o,rfl,l.o.1,l.o.2⟩
end
section
theorem Od{a:Ka}(h:bQ F w g a k)(e:Int)(he:0<=e/\e<8):aG prog 220 #[.pointer a.gr,e] w λx w'=>∃(O:Option aJ) (m d:Nat) (u:Int),x= .returned (.tuple #[(O,m,d),u])/\bQ F w' g a k/\Kp F w w':=by
 obtain⟨G,⟨C,⟨R,h1,c,f⟩,h8,hl⟩,back⟩:=h.rw;obtain⟨n,rfl⟩:=aaB he.1;have b:n<R.length:=by rw[h1.len];omega
 have hC:(uX R[n]).L.length<=8:=hl _ (by rw[<-c];exact aeM (aaF b));refine(Of a.gr n aQ R w h1 b hC).mono ?_;rintro x w' ⟨O,d,rfl,_,hb⟩;exact⟨O,_,d,_,rfl,(h.below hb).1,(h.below hb).2⟩
theorem CQ{a:Ka}(h:bQ F w g a k)(hw:KW k)(e:Int)(b:Bool):aG prog 43 #[.pointer a.gs,e,b] w λx w'=>x= .returned (.int .i64 (xL k.s e))/\bQ F w' g a {k with s:=jY k.s e b}/\Kp F w w':=by
 obtain⟨G,hs,back⟩:=h.sd;refine(wP hs hw.p8 e b).mono ?_;rintro x w' ⟨rfl,c,d⟩;exact⟨rfl,(back _ _ c d).1,(back _ _ c d).2⟩
theorem X1{a:Ka}(h:bQ F w g a k)(hw:KW k)(e:Int)(he:0<=e/\e<8)(A B C D:Int):aG prog 174 #[.pointer g,e, .agg #[.int .i64 19,A,B,C,D]] w λr w'=>∃E k',mR k e 19 C D E k'/\gJ F g k' (.int .i64 E) w r w':=by
 have H1:=aP (BxK.new h 19 A B C D);have b:aH (∀(E:Int) (k':Kv),(k'=k\/k'={k with s:=jY k.s e false})->mR k e 19 C D E k'):=λE k' z=>by unfold mR;rw[aaA aQ,aaA aQ];exact z
 have G:=aP hw;have i:=aP he;clear h hw he;go_enter func174,ntmps174
 go_upto_region 1 with(fail)
 generalize w.alloc (aI #[.int .i64 19,A,B,C,D] 281)=w1 at *;generalize w.heap.size=q1 at *;obtain⟨J,K,L,M,N⟩:=H1.o.xs;have pr:=H1.o.m.pr;unfold pA at pr;have l:=aP (Od H1.o.m e i.o);go_wp2_with fail
 refine aR l ?_;rintro x H ⟨O,m,d,u,rfl,n,p⟩;have f:=aP (H1.o.ret n p);clear n p l H1 pr;have ps:=f.o.m.ps;unfold pA at ps;have q:=aP (CQ f.o.m G.o e false);by_cases hm:0<m
 .have j:(0:Int)<(m:Int):=aQ;have I:aH (∃E k',mR k e 19 C D E k'/\gJ F g k' (.int .i64 E) w (.returned (.int .i64 25)) H):=⟨25,k,b.o _ _ (.inl rfl),rfl,f.o.o.1,f.o.o.2⟩
  go_wp2_with fail
  go_ret
  exact I.o
 .have j:¬(0:Int)<(m:Int):=aQ;generalize xL k.s e=rE at *;have c:=aP (b.o rE _ (.inr rfl));clear b;go_wp2_with fail
  refine aR q ?_;rintro x P ⟨rfl,t,v⟩;have y:=aP (f.o.ret t v).o;clear t v q f ps;go_wp2_with fail
  go_ret
  exact⟨_,_,c.o,rfl,y.o.1,y.o.2⟩
theorem Z2{a:Ka}(h:bQ F w g a k)(hw:KW k)(e s v:Int):aG prog 172 #[.pointer g,e,s,v] w λr w'=>∃E k',(k'=k\/∃o,k'=dL k o)/\gJ F g k' (.int .i64 E) w r w':=by
 obtain⟨G,i,_⟩:=h.cp;have f:=lU i e s 3 2;have pc:=h.pc;unfold pA at pc;have m:=aP h;have A:=aP hw;clear h i hw;cases hq:jI k.c e s 3 2 with
 |none=>
  rw[hq] at f;have f:=aP f;clear hq;go_enter func172,ntmps172
  go_wp2_with fail
  refine aR f ?_;rintro r n ⟨rfl,b⟩;simp only[mA,ab5];have p:aH (∃E k',(k'=k\/∃o,k'=dL k o)/\gJ F g k' (.int .i64 E) w (.returned (.int .i64 23)) (n.alloc (aI #[aU,aU,aU] 154))):=by
   have d:=b.alloc b.size (aI #[aU,aU,aU] 154);exact⟨23,k, .inl rfl,rfl,⟨a,(m.o.below d).1⟩,(m.o.below d).2⟩
  clear b;go_wp2_with fail
  go_ret
  exact p.o
 |some x=>
  rw[hq] at f;have f:=aP f;clear hq;obtain⟨q,j,t,H,I⟩:=x;go_enter func172,ntmps172
  go_wp2_with fail
  refine aR f ?_;rintro r n ⟨rfl,b⟩;simp only[mA,ab4];have d:=b.alloc b.size (aI #[q,j,t] 154);have yb:=bF.new n 154 #[q,j,t];have y:=aP (m.o.below d);have B:=yb.cell 1 j rfl;clear b d pc yb;have C:=aP (tO y.o.1 A.o.p8 j 7 e (IntKind.u64.wrap v) aQ);go_wp2_with fail
  refine aR C ?_;rintro r D ⟨u,rfl,z,l⟩;have p:aH (∃E k',(k'=k\/∃o,k'=dL k o)/\gJ F g k' (.int .i64 E) w (.returned (.int .i64 u)) D):=⟨u,_, .inr ⟨j,rfl⟩,rfl,⟨a,z⟩,y.o.2.trans l⟩
  clear z l B;go_wp2_with fail
  go_ret
  exact p.o
end
section
theorem NX{a:Ka}(h:bQ F w g a k)(i:Int)(m:Bool):aG prog 195 #[.pointer a.gi,i,m] w λx w'=>∃v:Int,x= .returned (.int .i64 v)/\KM F w' g k/\Kp F w w':=by
 obtain⟨G,hi,back⟩:=h.ir;refine(PI hi i m).mono ?_;rintro x w' ⟨v,L,rfl,hl,b,c⟩;exact⟨v,rfl,⟨_,(back L _ hl b c).1⟩,(back L _ hl b c).2⟩
theorem Gv{a:Ka}(h:bQ F w g a k)(i:Int):aG prog 196 #[.pointer a.gi,i] w λx w'=>∃v:Int,x= .returned (.int .i64 v)/\KM F w' g k/\Kp F w w':=by
 obtain⟨G,hi,back⟩:=h.ir;refine(S8 hi i).mono ?_;rintro x w' ⟨v,L,rfl,hl,b,c⟩;exact⟨v,rfl,⟨_,(back L _ hl b c).1⟩,(back L _ hl b c).2⟩
theorem DM{a:Ka}(h:bQ F w g a k)(e op A B C D:Int)(hop:11<=op/\op<=13):aG prog 170 #[.pointer g,e, .agg #[op,A,B,C,D]] w λr w'=>∃E:Int,gJ F g k (.int .i64 E) w r w':=by
 have H1:=aP (BxK.new h op A B C D);have Z:=aP hop;clear h hop;go_enter func170,ntmps170
 go_upto_region 1 with(fail)
 generalize w.alloc (aI #[op,A,B,C,D] 281)=w1 at *;generalize w.heap.size=q1 at *;obtain⟨x0,x1,x2,x3,x4⟩:=H1.o.xs;have pc:=H1.o.m.pc;unfold pA at pc;have s:∀W,aD w1 w1 W->aG prog 207 #[.pointer a.gc,e,A, .int .i64 2, .int .i64 2] W λx w'=>x= .returned (.tuple #[mA (jI k.c e A 2 2), .bool (jI k.c e A 2 2).isSome])/\aD W.heap.size W w':=λW hW=>by
  obtain⟨G,hcp,_⟩:=(H1.o.m.below hW).1.cp;exact lU hcp e A 2 2
 cases hq:jI k.c e A 2 2 with
 |none=>
  rw[hq] at s;have HH:=aP s;clear hq s;simp only[mA,ab5] at HH;have i:=bD pc;have j:=bD x1;refine bO (bS _) (λ_=>bS) [7] (λ_ v w=>EO (jA pc) 154 #[aU,aU,aU] v w) [12] [] 66 (bY _) (λ_ _ _ h p=>bU h p) (λ_ d hd _ v w w' _ h p=>h.keep p) aV aV bL ?_;repeat (first|(refine K9 bL ?_;(try refine dE ?_))|(refine FY bL bL bL bL bL (λK hK=>?_);go_big_quiet_op;refine hK _ ?_;clear hK K)|(refine VP bL bL bL bL bL bL (λK hK=>?_);go_big_quiet_op;refine hK _ ?_;clear hK K)|(refine OU bL bL bL ?_;(try refine dE ?_))|(refine FX bL bL bL bL bL (λK hK=>?_);go_simp;(try simp only[KZ,ab7]);first|(apply Exists.intro;refine⟨λn=>?_,hK _ ?_⟩;(with_reducible exact JK (HH.o _ (Q8 n)));clear hK K;(try refine dE ?_))|(apply Exists.intro;refine⟨λn=>rfl,hK _ ?_⟩;clear hK K;(try refine dE ?_)))|(refine uG 7 [] bL bL bL bL (λγ w hC t=>?_) ?_;(simp only[cO];go_simp;exact p5 (aX w _) ⟨_,rfl,Below.size hC,bF.new w _ _⟩);(try refine dE ?_)))
  refine dC ?_;intro γ w_ hb_ t;clear i j;simp only[cO,Act.put,Zx,aaE,aaD];refine dP ?_;obtain⟨g7,e_,z,H⟩:=t 7 aT;simp only[e_];clear t e_;refine iP z hb_ H rfl 154 _ _ rfl #[aU,aU,aU] rfl rfl rfl aV aV ?_;clear z hb_ H;intro w5 u I;refine cI ?_;simp only[Act.put];have HE:=aP (H1.o.below u).o;clear u;go_wp2_with fail
  go_ret
  exact⟨23,rfl,HE.o.1,HE.o.2⟩
 |some x=>
  rw[hq] at s;have HH:=aP s;clear hq s;obtain⟨r1,S,r3,r4,r5⟩:=x;simp only[mA,ab4] at HH;have i:=bD pc;have j:=bD x1;refine bO (bS _) (λ_=>bS) [7] (λ_ v w=>EO (jA pc) 154 #[aU,aU,aU] v w) [12] [] 66 (bY _) (λ_ _ _ h p=>bU h p) (λ_ d hd _ v w w' _ h p=>h.keep p) aV aV bL ?_;repeat (first|(refine K9 bL ?_;(try refine dE ?_))|(refine FY bL bL bL bL bL (λK hK=>?_);go_big_quiet_op;refine hK _ ?_;clear hK K)|(refine VP bL bL bL bL bL bL (λK hK=>?_);go_big_quiet_op;refine hK _ ?_;clear hK K)|(refine OU bL bL bL ?_;(try refine dE ?_))|(refine FX bL bL bL bL bL (λK hK=>?_);go_simp;(try simp only[KZ,ab7]);first|(apply Exists.intro;refine⟨λn=>?_,hK _ ?_⟩;(with_reducible exact JK (HH.o _ (Q8 n)));clear hK K;(try refine dE ?_))|(apply Exists.intro;refine⟨λn=>rfl,hK _ ?_⟩;clear hK K;(try refine dE ?_)))|(refine uG 7 [] bL bL bL bL (λγ w hC t=>?_) ?_;(simp only[cO];go_simp;exact p5 (aX w _) ⟨_,rfl,Below.size hC,bF.new w _ _⟩);(try refine dE ?_)))
  refine dC ?_;intro γ w_ hb_ t;clear i j;simp only[cO,Act.put,Zx,aaE,aaD];refine dP ?_;obtain⟨g7,e_,z,H⟩:=t 7 aT;simp only[e_];clear t e_;refine iP z hb_ H rfl 154 _ _ rfl #[r1,S,r3] rfl rfl rfl aV aV ?_;clear z hb_ H;intro w5 u I;refine cI ?_;simp only[Act.put];have y1:=I.2.cell 1 S rfl;have J:aH (bQ (cE (Fb F q1) g7) w5 g a k/\BxK F w w5 q1 g a k op A B C D):=⟨(bQ.cD g a k).row H1.o.m H1.o.m.fl u (λq hq=>by
   injection hq with hq;subst hq;exact⟨I.1,I.2.lt⟩),H1.o.below u⟩
  have T:aH (∀N,KM (cE (Fb F q1) g7) N g k->Kp (cE (Fb F q1) g7) w5 N->KM F N g k/\Kp F w N):=λN hm kp=>⟨hm.less (λb hb=> .inl (.inl hb)),J.o.2.k.trans (kp.mono (λb hb=> .inl (.inl hb)))⟩
  obtain⟨x0,x1,x2,x3,x4⟩:=J.o.2.xs;clear u I HH H1 pc;by_cases O:op=11
  .subst O;have HB:=aP (MR J.o.1 S e);clear Z;go_wp2_with fail
   refine aR HB ?_;rintro x N ⟨rfl,⟨a6,h6⟩,k6⟩;have y16:=k6.cell y1 (.inr rfl);have pi:=h6.pi;unfold pA at pi;have H6:=bN h6 k6;clear h6 k6 HB y1 x0 x1 x2 x3 x4;go_upto_region 6 with(fail)
   have f:=bD pi;have L:=bD y16;refine bO (bS _) (λ_=>bS) [] (λ_ _ _=>True) [6] [] 66 (bY _) (λ_ _ _ h p=>bU h p) (λ_ d hd _ v w w' _ h p=>by cases hd) aV aV bL ?_;repeat refine eA ?_
   refine dC ?_;intro γ w7 hb7 t;clear f L;simp only[cO,Act.put,Zx,aaE,aaD];refine dP ?_;have M:=H6.o.1.below hb7;have HD:=aP (NX M.1 S false);have U:=aP (H6.o.2.trans M.2);clear M hb7 t H6 pi y16;refine wpList_plain rfl (λK hK=>?_);go_wp2_with fail
   refine aR HD ?_;rintro x w8 ⟨v,rfl,V,X⟩;have Y:=aP (T.o _ V (U.o.trans X));clear V X U HD T;refine hK _ _ ?_;clear hK K;refine cI ?_;try refine dE ?_
   go_wp2_with fail
   go_ret
   exact⟨0,rfl,Y.o.1,Y.o.2⟩
  .have h11':(op==11)=false:=by simp[O]
   have y:=aP (B8 J.o.1 S);have HQ:=aP (T.o _ ⟨a,J.o.1⟩ (Kp.refl _ _));generalize EX a S=bv at *;by_cases P:bv=e
   .have hbv':(bv !=e)=false:=by simp[P]
    clear P HQ;have pi:=J.o.1.pi;unfold pA at pi;by_cases Q:op=12
    .have h12':(op==12)=true:=by simp[Q]
     clear Q O Z;go_wp2_with fail
     refine aR y ?_;rintro x N ⟨rfl,rfl⟩;clear y;go_upto_region 11 with(fail)
     have f:=bD pi;have l:=bD y1;refine bO (bS _) (λ_=>bS) [] (λ_ _ _=>True) [6,7] [] 66 (bY _) (λ_ _ _ h p=>bU h p) (λ_ d hd _ v w w' _ h p=>by cases hd) aV aV bL ?_;repeat refine eA ?_
     refine dC ?_;intro γ w7 hb7 t;clear f l;simp only[cO,Act.put,Zx,aaE,aaD];refine dP ?_;have M:=J.o.1.below hb7;have HD:=aP (Gv M.1 S);have U:=aP M.2;clear M hb7 t J pi y1 x0 x1 x2 x3 x4;refine wpList_plain rfl (λK hK=>?_);go_wp2_with fail
     refine aR HD ?_;rintro x w8 ⟨v,rfl,V,X⟩;have Y:=aP (T.o _ V (U.o.trans X));clear V X U HD T;refine hK _ _ ?_;clear hK K;refine wpList_plain rfl (λK hK=>?_);go_simp
     refine hK _ _ ?_;clear hK K;refine cI ?_;try refine dE ?_
     go_wp2_with fail
     go_ret
     exact⟨v,rfl,Y.o.1,Y.o.2⟩
    .have h12':(op==12)=false:=by simp[Q]
     clear Q O Z;by_cases hB1:1<B
     .have HQ:=aP (T.o _ ⟨a,J.o.1⟩ (Kp.refl _ _));go_wp2_with fail
      refine aR y ?_;rintro x N ⟨rfl,rfl⟩;go_wp2_with fail
      go_ret
      exact⟨1,rfl,HQ.o.1,HQ.o.2⟩
     .go_wp2_with fail
      refine aR y ?_;rintro x N ⟨rfl,rfl⟩;clear y;go_upto_region 14 with(fail)
      have f:=bD pi;have l:=bD y1;have R:=bD x2;refine bO (bS _) (λ_=>bS) [] (λ_ _ _=>True) [9,10] [[9,8,7]] 66 (bY _) (λ_ _ _ h p=>bU h p) (λ_ d hd _ v w w' _ h p=>by cases hd) aV aV bL ?_;repeat refine eA ?_
      refine dC ?_;intro γ w7 hb7 t;clear f l R;simp only[cO,Act.put,Zx,aaE,aaD];refine dP ?_;have M:=J.o.1.below hb7;have HD:=aP (NX M.1 S (B==1));have U:=aP M.2;clear M hb7 t J pi y1 x0 x1 x2 x3 x4;refine wpList_plain rfl (λK hK=>?_);go_wp2_with fail
      refine aR HD ?_;rintro x w8 ⟨v,rfl,V,X⟩;have Y:=aP (T.o _ V (U.o.trans X));clear V X U HD T;refine hK _ _ ?_;clear hK K;refine wpList_plain rfl (λK hK=>?_);go_simp
      refine hK _ _ ?_;clear hK K;refine cI ?_;try refine dE ?_
      go_wp2_with fail
      go_ret
      exact⟨v,rfl,Y.o.1,Y.o.2⟩
   .have hbv':(bv !=e)=true:=by simp[P]
    clear P;go_wp2_with fail
    refine aR y ?_;rintro x N ⟨rfl,rfl⟩;go_wp2_with fail
    go_ret
    exact⟨25,rfl,HQ.o.1,HQ.o.2⟩
end
section
theorem VX{a:Ka}(h:bQ F w g a k)(hw:KW k)(e o nw gr:Int):aG prog 105 #[.pointer a.gb,e,o,nw,gr] w λx w'=>x= .returned (.int .i64 (gT k.b e o nw gr).1)/\bQ F w' g a {k with b:=(gT k.b e o nw gr).2}/\Kp F w w':=by
 obtain⟨G,hb,back⟩:=h.bo;unfold gT;by_cases c:wM e o nw gr
 .rw[Zz c];refine(Hb e o nw gr hb (by have:=hw.b;omega) c).mono ?_;rintro x w' ⟨rfl,d,f⟩;by_cases hp:0<=qR k.b e o
  .rw[Zz hp] at d⊢;rw[Zz hp];exact⟨rfl,(back _ _ _ d f).1,(back _ _ _ d f).2⟩
  .rw[aaA hp] at d⊢;rw[aaA hp];exact⟨rfl,(back _ _ _ d f).1,(back _ _ _ d f).2⟩
 .rw[aaA c];refine(Ee e o nw gr w c).mono ?_;rintro x w' ⟨rfl,rfl⟩;exact⟨rfl,h,Kp.refl _ _⟩
theorem DO{e o gr:Int}(h:nY e=false\/o<0\/6<=o):gX k e o gr=(1,k):=by
 unfold gX;rw[Zz (by simpa using h)]
theorem UL{e o gr:Int}(h1:nY e=true)(a:¬o<0)(c:¬6<=o):gX k e o gr=if eK k e o= [] then(23,k) else
 if(gT k.b e o k.s.nw gr).1≠0 then((gT k.b e o k.s.nw gr).1,k) else(0,dL {k with b:=(gT k.b e o k.s.nw gr).2} e):=by
 unfold gX;rw[aaA (by simp[h1];omega)]
theorem V1{L:List Nt}{e o nw gr:Int}(h:(gT L e o nw gr).1≠0):(gT L e o nw gr).2=L:=by
 unfold gT at h⊢;split
 .rename_i h1;rw[Zz h1] at h;split
  .rfl
  .rename_i a;rw[aaA a] at h;exact absurd rfl h
 .rfl
theorem WV{a:Ka}(h:bQ F w g a k)(e o:Int):aG prog 104 #[.pointer g,e,o] w λx w'=>∃A c,x= .returned (.slice A (eK k e o).length c)/\aD w w w':=by
 refine(B7 h e o).mono ?_;rintro x w' ⟨A,c,rfl,_,hb⟩;exact⟨A,c,rfl,hb⟩
theorem Ad{a:Ka}(h:bQ F w g a k)(hw:KW k)(e o gr:Int):aG prog 75 #[.pointer g,e,o,gr] w λr w'=>gJ F g (gX k e o gr).2 (.int .i64 (gX k e o gr).1) w r w':=by
 obtain⟨c7,_,_⟩:=h.LO;have ps:=h.ps;have pb:=h.pb;unfold pA at ps pb;have j:=aP (BO h e);have u:=aP h;have J:=aP hw;have y:=aP (WV h e o);clear h hw;cases l:nY e with
 |false=>
  have d:aH (gX k e o gr=(1,k)):=DO (.inl l);rw[l] at j;clear l;generalize gX k e o gr=rk at *;go_enter func75,ntmps75
  go_wp2_with fail
  refine aR j ?_;rintro x D ⟨rfl,rfl⟩;go_wp2_with fail
  go_ret
  rw[d.o];exact⟨rfl,⟨a,u.o⟩,Kp.refl _ _⟩
 |true=>
  rw[l] at j;by_cases h1:o<0
  .have d:aH (gX k e o gr=(1,k)):=DO (.inr (.inl h1));clear l;generalize gX k e o gr=rk at *;go_enter func75,ntmps75
   go_wp2_with fail
   refine aR j ?_;rintro x D ⟨rfl,rfl⟩;go_wp2_with fail
   go_ret
   rw[d.o];exact⟨rfl,⟨a,u.o⟩,Kp.refl _ _⟩
  by_cases K:6<=o
  .have d:aH (gX k e o gr=(1,k)):=DO (.inr (.inr K));clear l;generalize gX k e o gr=rk at *;go_enter func75,ntmps75
   go_wp2_with fail
   refine aR j ?_;rintro x D ⟨rfl,rfl⟩;go_wp2_with fail
   go_ret
   rw[d.o];exact⟨rfl,⟨a,u.o⟩,Kp.refl _ _⟩
  have f:=aP (UL (k:=k) (gr:=gr) l h1 K);generalize gX k e o gr=rk at *;clear l;by_cases hs:eK k e o= []
  .have d:aH (rk=(23,k)):=by unfold aH;rw[f.o,Zz hs]
   rw[hs] at y;clear hs f;simp only[abM] at y;go_enter func75,ntmps75
   go_wp2_with fail
   refine aR j ?_;rintro x D ⟨rfl,rfl⟩;go_wp2_with fail
   refine aR y ?_;rintro x P ⟨A,c,rfl,hb⟩;have n:=aP (u.o.below hb);clear hb;go_wp2_with fail
   go_ret
   rw[d.o];exact⟨rfl,⟨a,n.o.1⟩,n.o.2⟩
  .have i:aH (rk=if(gT k.b e o k.s.nw gr).1≠0 then((gT k.b e o k.s.nw gr).1,k) else(0,dL {k with b:=(gT k.b e o k.s.nw gr).2} e)):=by unfold aH;rw[f.o,aaA hs]
   have hl:¬((eK k e o).length:Int)=0:=by
    intro S;exact hs (List.length_eq_zero_iff.1 aQ)
   have Q:(((eK k e o).length:Int)==0)=false:=by rw[aeN];exact hl
   clear hs f hl;generalize (eK k e o).length=m at *;go_enter func75,ntmps75
   go_wp2_with fail
   refine aR j ?_;rintro x D ⟨rfl,rfl⟩;go_wp2_with fail
   refine aR y ?_;rintro x P ⟨A,c,rfl,hb⟩;have E:=bG hb ps;have H:=bG hb pb;have q:=aP (u.o.below hb);clear hb ps pb c7 y j;obtain⟨G,z,_⟩:=q.o.1.sd;have I:=aP (vR z);clear z;go_wp2_with fail
   refine aR I ?_;rintro x T ⟨rfl,rfl⟩;have t:=aP (VX q.o.1 J.o e o k.s.nw gr);by_cases p:(gT k.b e o k.s.nw gr).1=0
   .have d:aH (rk=(0,dL {k with b:=(gT k.b e o k.s.nw gr).2} e)):=by unfold aH;rw[i.o,aaA (by simpa using p)]
    rw[p] at t;clear p i;generalize (gT k.b e o k.s.nw gr).2=L2 at *;go_wp2_with fail
    refine aR t ?_;rintro x w5 ⟨rfl,B,C⟩;have L:=aP (tO B J.o.p8 e 5 o (IntKind.u64.wrap (wrap64 (k.s.nw+gr))) aQ);have M:=aP (q.o.2.trans C);clear B C t I q E H;go_wp2_with fail
    refine aR L ?_;rintro x U ⟨v,rfl,N,O⟩;have n:=bN N (M.o.trans O);clear N O L M;go_wp2_with fail
    go_ret
    rw[d.o];exact⟨rfl,⟨a,n.o.1⟩,n.o.2⟩
   .have d:aH (rk=((gT k.b e o k.s.nw gr).1,k)):=by unfold aH;rw[i.o,Zz p]
    rw[V1 p] at t;have R:((gT k.b e o k.s.nw gr).1 !=0)=true:=by simp[p]
    clear p i;generalize (gT k.b e o k.s.nw gr).1=v2 at *;go_wp2_with fail
    refine aR t ?_;rintro x w5 ⟨rfl,B,C⟩;have n:=bN B (q.o.2.trans C);clear B C t I q;go_wp2_with fail
    go_ret
    rw[d.o];exact⟨rfl,⟨a,n.o.1⟩,n.o.2⟩
end
end
section
open Go.RowKit Go.Lib Go.Shelf
variable{F:Nat->Prop}{w:aA}{g n:Nat}
section
theorem Hc{y:Wa}(h:dG F w g n y):aG prog 218 #[.pointer g] w λe w'=>e= .returned (.int .i64 y.nw)/\w=w':=by
 have c0:=h.c0;have c1:=h.c1;clear h;go_enter func218,ntmps218
 go_wp2_with fail
 go_ret
 exact⟨rfl,rfl⟩
theorem V9(n:Int)(a:0<=n)(h₁:n<2 ^ 63):IntKind.i64.wrap n=n:=by rw[IntKind.wrap_i64];omega
theorem Uo(x:Int)(a:0<=x)(h1:x<9223372036854775808):bits .and .i64 x 63=x%64:=by
 simpa using bits_mask .i64 63 cC V9 6 cC x a (by simpa using h1)
theorem lL(x:Int)(a:0<=x)(h1:x<9223372036854775808):(x%64).toNat<=63/\bits .and .i64 x 63=(((x%64).toNat:Nat):Int):=by
 rw[Uo x a h1];omega
theorem J3{y:Wa}(h:dG F w g n y)(at_:Int)(a:0<=at_/\at_<=2097152):aG prog 229 #[.pointer g,at_] w λe w'=>(∃l s:Nat,l<=3/\s<=63/\e= .returned (.tuple #[l,s]))/\aD w w w':=by
 have c1:=h.c1;generalize y.nw=nw at *;clear h;go_enter func229,ntmps229
 go_wp2_with fail
 refine wp_loop_rounds 4 ?_;rw[rounds_succ];go_upto_region 1 with(fail)
 go_quiet (fail)
 go_wp2_with fail
 rotate_left
 .go_quiet (fail)
  go_wp2_with fail
  go_ret2
  exact⟨⟨0,(at_%64).toNat,aQ,(lL at_ aQ aQ).1,by first|rfl|simp[(lL at_ aQ aQ).2]⟩,by repeat first|exact Below.refl _ _|refine fD ?_ _⟩
 rw[rounds_succ];go_upto_region 1 with(fail)
 go_quiet (fail)
 go_wp2_with fail
 rotate_left
 .go_quiet (fail)
  go_wp2_with fail
  go_ret2
  exact⟨⟨1,((at_ /64)%64).toNat,aQ,(lL (at_ /64) aQ aQ).1,by first|rfl|simp[(lL (at_ /64) aQ aQ).2]⟩,by repeat first|exact Below.refl _ _|refine fD ?_ _⟩
 rw[rounds_succ];go_upto_region 1 with(fail)
 go_quiet (fail)
 go_wp2_with fail
 rotate_left
 .go_quiet (fail)
  go_wp2_with fail
  go_ret2
  exact⟨⟨2,((at_ /4096)%64).toNat,aQ,(lL (at_ /4096) aQ aQ).1,by first|rfl|simp[(lL (at_ /4096) aQ aQ).2]⟩,by repeat first|exact Below.refl _ _|refine fD ?_ _⟩
 rw[rounds_succ];go_upto_region 1 with(fail)
 go_quiet (fail)
 go_wp2_with fail
 go_quiet (fail)
 go_wp2_with fail
 go_ret2
 exact⟨⟨3,((at_ /262144)%64).toNat,aQ,(lL (at_ /262144) aQ aQ).1,by first|rfl|simp[(lL (at_ /262144) aQ aQ).2]⟩,by repeat first|exact Below.refl _ _|refine fD ?_ _⟩
end
variable{w':aA}{i m:Nat}{A:Option aJ}
section
theorem dG.rowAt{y:Wa}(h:dG F w g n y)(hi:i<y.R.length){c:Nat}{xs:List Int}(ho:bI eI 1 w' 0 3 A c xs)(e:w.grownBy w' (aY y.R[i].A))(ha:aY A=aY y.R[i].A\/aY A=some w.heap.size):
 w'.cell? (g,4+i)=some (rT y.R[i])/\w'.frozen? (g,4+i)=false:=by
 obtain⟨G,f,back⟩:=Ob.use h.o (2+i) _ (FQ hi);have a:gP eI 1 3 y.R[i].A y.R[i].c y.R[i].xs G w:=f;obtain⟨t1,t2⟩:=a.eQ ho e ha;obtain⟨b1,b2⟩:=back (PY ⟨A,c,xs⟩) w' t1 t2;rw[LG] at b1;obtain⟨j,d,_⟩:=Ob.use b1 0 _ rfl;have hb:oF g 339 (vB y).toArray j w':=d;refine⟨hb.b.cell (4+i) _ ?_,hb.b.frozen _⟩;rw[aaR,vB,aaJ aT];simp[hi]
theorem CT{y:Wa}(h:dG F w g n y)(d:Du)(hd:0<=d.at_/\d.at_<=2097152)(hm:n<=m)(hs:iA y.R+1<=m)(x:m<=1000000):
 aG prog 187 #[.pointer g, .agg #[d.at_,d.hd,d.wh]] w λe w'=>e= .returned (.tuple #[])/\∃R,dG F w' g m {y with R:=R}/\iA R=iA y.R+1/\Kp F w w':=by
 obtain⟨z,j,H⟩:=d;have u:=aX w (aI #[z,j,H] 274);have I:=bF.new w 274 #[z,j,H];have H1:=aP (h.below u);have P:=aP (J3 (h.below u).1 z hd);have E:=dA hm hs x;clear h hm hs x u;go_enter func187,ntmps187
 go_upto_region 1 with(fail)
 generalize w.alloc (aI #[z,j,H] 274)=w1 at *;generalize w.heap.size=q1 at *;have T:=I.cell 0 z rfl;go_wp2_with fail
 refine aR P ?_;rintro e b ⟨⟨l,s,hl,hs,rfl⟩,v⟩;have k:=H1.o.1.below v;have hlen:y.R.length=256:=k.1.i.len;have hi:l *64+s<y.R.length:=aQ;have U:=aP (I.keep v);have l0:¬(l:Int)<0:=aQ;have Z:(l:Int)<4:=aQ;have s0:¬(s:Int)<0:=aQ;have V:(s:Int)<64:=aQ;have G:aH (∀W,aD b b W->W.cell? (g,4+l *64+s)=some (rT (y.R[l *64+s]'hi))/\W.frozen? (g,4+l *64+s)=false/\bI eI 1 W 0 3 (y.R[l *64+s]'hi).A (y.R[l *64+s]'hi).c (y.R[l *64+s]'hi).xs):=λW t=>⟨by rw[show 4+l *64+s=4+(l *64+s) by omega];exact(k.1.below t).1.cr hi,(k.1.below t).1.fz _,(k.1.below t).1.row hi⟩
 have B:=aX b.drew (aI #[j] 3);have f:aH (aD b b (b.drew.alloc (aI #[j] 3))):=fK (Below.refl _ _).drew (Zw _) B;have c0:=(G.o _ (Below.refl _ _)).1;have J:=(G.o _ f.o).1;have K:=(G.o _ (aX b (aI #[j] 3))).1;have y1:=U.o.cell 1 j rfl;have L:(y.R[l *64+s]'hi).xs.length<=1000000:=by
  have:=yB hi;have:=E.o.2.1;have:=E.o.2.2;omega
 have C:aH (∀(W w':aA) (A:Option aJ) (c:Nat) (xs:List Int),aD b b W->bI eI 1 w' 0 3 A c xs->W.grownBy w' (aY (y.R[l *64+s]'hi).A)->(aY A=aY (y.R[l *64+s]'hi).A\/aY A=some W.heap.size)->w'.cell? (g,4+l *64+s)=some (rT (y.R[l *64+s]'hi))/\w'.frozen? (g,4+l *64+s)=false):=λW w' A c xs t ho M ha=>by
  rw[show 4+l *64+s=4+(l *64+s) by omega];exact(k.1.below t).1.rowAt hi ho M ha
 have N:aH (∀(W w':aA) (A:Option aJ) (c:Nat) (xs:List Int),aD b b W->bI eI 1 w' 0 3 A c xs->W.grownBy w' (aY (y.R[l *64+s]'hi).A)->(aY A=aY (y.R[l *64+s]'hi).A\/aY A=some W.heap.size)->xs.length=(y.R[l *64+s]'hi).xs.length+1->∃R,dG F (w'.setCell (g,4+l *64+s) (.slice A xs.length c)) g m {y with R:=R}/\iA R=iA y.R+1/\Kp F w (w'.setCell (g,4+l *64+s) (.slice A xs.length c))):=λW w' A c xs t ho M ha hx=>by
  rw[show 4+l *64+s=4+(l *64+s) by omega];have O:=CS hi ⟨A,c,xs⟩;simp only at O;obtain⟨r1,X⟩:=(k.1.below t).1.setRow hi ho M ha E.o.1 (by have:=E.o.2.1;omega);exact⟨_,r1,aQ,(H1.o.2.trans k.2).trans ((k.1.below t).2.trans X)⟩
 generalize Q:y.R[l *64+s]'hi=r at *;have Hr:=aP Q;obtain⟨A,c,xs⟩:=r;simp only[rT] at c0 J K L;clear Q k B T I v hlen P H1;go_upto_region 2 with(fail)
 go_wp2_with fail
 go_region_law (refine kS _ rfl (.tmp 23) (.tmp 26) rfl Tg gK (base:=0) (xs:=xs) (G.o _ f.o).2.2 (n:=xs.length) rfl rfl (m:=1) rfl (ys:= [j]) rfl (Sl.fI gK b.drew j _ rfl _ rfl) dI aQ aQ _ rfl (xs.length+1) rfl ?_;intro A5 c5 w5 a p q;(have Y:w5.cell? (g,4+l *64+s)=some (.slice A xs.length c):=(C.o _ _ _ _ _ f.o a p q).1);(have f5:w5.frozen? (g,4+l *64+s)=false:=(C.o _ _ _ _ _ f.o a p q).2))
 all_goals
  have S:=aP (N.o _ _ _ _ _ f.o a p q aT);have D:(xs++ [j]).length=xs.length+1:=aT;rw[D] at S;clear a p q Y f5 D;first|go_end0|(go_wp2_with fail;go_end0)
  exact⟨rfl,S.o⟩
end
section
theorem dG.mono{y:Wa}(h:dG F w g n y)(hm:n<=m):dG F w g m y:=
 ⟨h.o,⟨h.i.nw,⟨h.i.hs.1,by have:=h.i.hs.2;omega⟩,h.i.len,by have:=h.i.sum;omega,h.i.ok⟩⟩
theorem BJ(g n:Nat)(y:Wa):dN (λF w=>dG F w g n y):=λF G H w w' h k a fl hH=>⟨Ob.cD _ F G H w w' h.o k a fl hH,h.i⟩
def Ot(F:Nat->Prop)(g n:Nat)(w:aA)(e:Ending)(w':aA):Prop:=∃H E:Int,e= .returned (.tuple #[H,E])/\BM F w' g (n+1)/\Kp F w w'
theorem Iy{y:Wa}(h:dG F w g n y)(H:n+1<=1000000)(at_ c:Int)(f:0<=c/\c<4):aG prog 217 #[.pointer g,at_,c] w (Ot F g n w):=by
 have c0:=h.c0;have c1:=h.c1;have c2:=h.c2;have f2:=h.fz 2;have Z:=h.i.nw;have N:=h.i.hs;have z:aH (BM F w g (n+1)/\Kp F w w):=⟨⟨y,h.mono aQ⟩,Kp.refl _ _⟩
 by_cases h1:at_<=y.nw
 .generalize y.nw=nw at *;clear h f H;go_enter func217,ntmps217
  go_wp2_with fail
  go_ret2
  exact⟨0,1,rfl,z.o.1,z.o.2⟩
 by_cases h2:2097152<at_
 .generalize y.nw=nw at *;clear h f H;go_enter func217,ntmps217
  go_wp2_with fail
  go_ret2
  exact⟨0,1,rfl,z.o.1,z.o.2⟩
 have Q:=aP (show(0<=c/\c<4)/\0<=at_/\at_<=2097152 by omega);have H1:=aP (h.Vd (m:=n+1) (v:=y.hs+1) aQ aQ);have HN:=aP H;clear z;obtain⟨a,s⟩:∃v,v=y.hs+1:=⟨_,rfl⟩
 have hv:0<=a/\a<=1000000:=aQ;rw[<-s] at H1;have r:=h.i.sum;have A:aH (iA y.R<=n):=r;clear h r f;go_enter func217,ntmps217
 go_upto_region 6 with(fail)
 rw[<-s];clear s c2 f2 N H c0 c1;generalize w.setCell (g,2) a=I at *;have c2:=H1.o.1.c2;simp only at c2;go_upto_region 7 with(fail)
 have B:=aX I (aI #[at_,a,c] 274);have C:=bF.new I 274 #[at_,a,c];have J:=aP (And.intro ((BJ g (n+1) {y with hs:=a}).box H1.o.1 H1.o.1.fl (aI #[at_,a,c] 274)) (H1.o.2.trans (H1.o.1.below B).2));clear B H1 c2;generalize I.alloc (aI #[at_,a,c] 274)=w2 at *;generalize I.heap.size=q2 at *;have d0:=C.cell 0 at_ rfl;have d1:=C.cell 1 a rfl;have d2:=C.cell 2 c rfl;have c3:=J.o.1.c3;simp only at c3;have j:=bD c3;have k:=bD d0;have l:=bD d1;have p:=bD d2;refine bO (bS _) (λ_=>bS) [] (λ_ _ _=>True) [7] [] 54 (bY _) (λ_ _ _ h S=>bU h S) (λ_ d hd _ v w w' _ h S=>by cases hd) aV aV bL ?_;repeat refine eA ?_
 refine dC ?_;intro γ w5 t hT;clear j k l p;simp only[cO,Act.put,Zx,aaE,aaD];refine dP ?_;obtain⟨O,T⟩:=J.o.1.below t;have U:=aP (C.keep t);have V:=aP O.mp;have K:=bN O (J.o.2.trans T.unbox);clear O T t hT J C d0 d1 d2 c3;refine GA zL w5 rfl (.tmp 45) (.tmp 47) (.tmp 48) 335 3 274 rfl underlying335 underlying3 y.M a ⟨at_,a,c⟩ rfl rfl rfl V.o ?_;intro w6 D E;have L:=aP (K.o.1.U4 D E (λx d u=>by
  unfold gC at u;split at u
  .injection u with u;subst u;exact Q.o
  .exact K.o.1.i.ok x d u))
 have q:=aP (L.o.2.aY U.o (.inr rfl));have G:=aP (K.o.2.trans L.o.2.unbox);have W:=aP (CT (m:=n+1) L.o.1 ⟨at_,a,c⟩ Q.o.2 (Zw _) (by have:=A.o;show iA y.R+1<=n+1;omega) HN.o);have d0:=q.o.cell 0 at_ rfl;have d1:=q.o.cell 1 a rfl;have d2:=q.o.cell 2 c rfl;clear D E V K U;refine cI ?_;try refine dE ?_
 go_wp2_with fail
 refine aR W ?_;rintro e w7 ⟨rfl,R,X,_,P⟩;have d17:=P.cell d1 (.inr rfl);have Y:=bN X (G.o.trans P.unbox);clear X P W L q G d0 d1 d2;go_wp2_with fail
 go_ret2
 exact⟨a,0,rfl,⟨_,Y.o.1.less (λb hb=> .inl hb)⟩,Y.o.2⟩
end
section
namespace DI
theorem Cr:(prog.info? 3).map (λi=>(i.zero,i.size,i.bytes))=some (some (.int .i64 0),1,8):=aV
theorem kX:∀w,(zeroValue 3).run prog w= .ok (.int .i64 0) w:=λw=>by kernel_rfl
theorem fH{c:Nat}(h:n=m):Ending.returned (.slice A n c)= .returned (.slice A m c):=by rw[h]
theorem lX(g c i k base:Nat)(L:List Int)(w:aA)(own:bI eI 1 w base 3 g c L)(s:L.length=i+1+k)(hl:L.length<=4000000):
 aG prog 250 #[.slice g L.length c,i, .int .i64 ((i:Int)+1)] w λe w'=>e= .returned (.slice g (L.eraseIdx i).length c)/\bI eI 1 w' base 3 g c (L.eraseIdx i)/\w.grownBy w' (some g):=by
 obtain⟨i0,n,G,p,H⟩:=info_parts Cr;have v:(L.eraseIdx i).length=i+k:=by rw[ab2,Zz aQ];omega
 obtain⟨_,_,_,x,y,_,_⟩:=eV own;simp only[maxLen] at y;obtain⟨news,b⟩:∃news,news=(L.drop (i+1)).flatMap eI:=⟨_,rfl⟩
 have s1:aH (news.length=k):=by unfold aH;rw[b,eZ gK.len,acM];omega
 have s2:aH (∀u∈news,u.oneCell'=true):=λu hu=>qX gK _ u (by rw[<-b];exact hu)
 have C:aH (∀t,t<news.length->(w.drew.cell? ⟨g,0+i+t,none⟩).isSome=true/\w.drew.frozen? ⟨g,0+i+t,none⟩=false):=λt D=>by
  rw[s1.o] at D;exact cZ own _ aQ
 have I:aH (∀t u,news[t]?=some u->w.drew.cell? ((⟨g,i+1,none⟩:aJ).add t)=some u):=λt u hu=>by
  have D:t<k:=by rw[<-s1.o];exact(aaN.1 hu).1
  have hF:=oE gK.len L (i+1);rw[b,hF,abY] at hu;rw[Addr.add_lit];obtain⟨cur,_,J,_,_,_,K⟩:=eV own;show w.cell? _=_;rw[cell_of_row w g _ cur _ (0,0) J,<-hu,<-K,aa7,Zz aQ,aaX,acD]
 obtain⟨m,h⟩:∃m,m=w.drew.setCells g (0+i) news:=⟨_,rfl⟩
 have E:=aP h;have q:=tG (w:=w.drew) gK.len own.drew i k s [.int .i64 0] rfl;simp only[acD] at q;rw[<-b,show w.drew.setCells g i news=m by rw[h,aa8]] at q;have a:=aP q;have d:∀j,j<c->(m.cell? ⟨g,j,none⟩).isSome=true/\m.frozen? ⟨g,j,none⟩=false:=λj F=>by
  rw[h];have:=cZ own j aQ;exact⟨Go.World.isSome_setCells g _ _ _ _ this.1,by rw[World.frozen?_setCells];exact this.2⟩
 have l:∀ty r z,r=1->(Builtin.clear_ #[35] ty #[.slice (some ⟨g,i+k,none⟩) r z]).run prog m= .ok (.tuple #[]) (m.setCells g (i+k) [.int .i64 0]):=λty r z A=>
  lE m _ 3 ty _ underlying35 kX [.int .i64 0] aV cC g (i+k) r z A (λj F=>d _ (by simp at F;omega))
 clear h q d b;rw[s];rw[s] at x;have M:i<=c:=aQ;have N:i+1<=c:=aQ;have O:(0:Int)<=i+1:=aQ;have P:(i:Int)+1<=(i:Int)+1+(k:Int):=aQ;by_cases hce:c=i+1
 .obtain rfl:k=0:=aQ;obtain rfl:news= []:=aa5 (by rw[s1.o]);have B:aH (∀t u,([]:List Value)[t]?=some u->w.drew.cell? ((⟨g,0,none⟩:aJ).add t)=some u):=λt u hu=>by simp at hu
  subst hce;have f:=λty=>l ty (i+1 - i) (i+1 - i) aQ
  simp only[aaU] at f v⊢;have Q:(i:Int)<=(i:Int)+1:=aQ;have R:i+1 - i=1:=aQ;rw[R] at f;clear l;go_enter func250,ntmps250
  go_wp2_with fail
  go_region_law (refine step_append_room rfl (.tmp 22) (.tmp 25) 35 rfl 3 i0 1 underlying35 n p g 0 i (i+1) (by simp[Act.eval,Act.put]) ⟨g,0,none⟩ 0 0 [] (by simp[Act.eval,Act.put]) (by rw[acD];exact s1.o) B.o s2.o aQ (by rw[acD];exact C.o) ?_;(try simp only[acD]);rw[<-E.o])
  go_wp2
  go_ret
  exact⟨fH aQ,a.o.1,⟨a.o.2.os,a.o.2.tape,a.o.2.output,a.o.2.size,a.o.2.block⟩⟩
 .have f:=λty=>l ty (i+1+k - (i+k)) (c - (i+k)) aQ
  clear l;go_enter func250,ntmps250
  go_wp2_with fail
  go_region_law (refine step_append_room rfl (.tmp 22) (.tmp 25) 35 rfl 3 i0 1 underlying35 n p g 0 i c (by simp[Act.eval,Act.put]) ⟨g,i+1,none⟩ k (c - (i+1)) news (by simp[Act.eval,Act.put]) (by rw[acD];exact s1.o) I.o s2.o aQ (by rw[acD];exact C.o) ?_;(try simp only[acD]);rw[<-E.o])
  go_wp2
  go_ret
  exact⟨fH aQ,a.o.1,⟨a.o.2.os,a.o.2.tape,a.o.2.output,a.o.2.size,a.o.2.block⟩⟩
end DI
end
section
theorem Lx(L:List Int)(v:Int):uC L v= -1\/∃k:Nat,k<L.length/\uC L v=k:=by
 unfold uC;cases h:L.findIdx? (λx=>decide (x=v)) with
 |none=>exact .inl rfl
 |some i=>exact .inr ⟨i,(aaT.1 h).1,rfl⟩
def RP(F:Nat->Prop)(g n:Nat)(w:aA)(e:Ending)(w':aA):Prop:=∃b,e= .returned (.bool b)/\BM F w' g n/\Kp F w w'
theorem SC{y:Wa}(h:dG F w g n y)(hn:n<=1000000)(x:Int):aG prog 216 #[.pointer g,x] w (RP F g n w):=by
 have c0:=h.c0;have c3:=h.c3;have a:=wI underlying335 underlying3 (z:= .agg #[aU,aU,aU]) (P:=prog) (w:=w) aV h.mp x true;have HN:=aP hn;clear hn;cases hf:y.f x with
 |none=>
  rw[hf] at a;simp only[abT,Option.getD_none,ab5,abI] at a;have D:aH (RP F g n w (.returned (.bool false)) (w.alloc (aI #[aU,aU,aU] 274))):=⟨false,rfl,⟨y,(h.below (aX w _)).1⟩,(h.below (aX w _)).2⟩
  clear h hf;go_enter func216,ntmps216
  go_wp2_with fail
  go_ret
  exact D.o
 |some d=>
  have I:=h.i.ok x d hf;rw[hf] at a;obtain⟨E,Z,dw⟩:=d;simp only[aa4,aeH,ab4,abI,zL] at a;have HD:=aP I.2;have J:=aX w (aI #[E,Z,dw] 274);have xb:=bF.new w 274 #[E,Z,dw];have H1:=aP (And.intro ((BJ g n y).box h h.fl (aI #[E,Z,dw] 274)) (h.below J).2);clear h hf I J;go_enter func216,ntmps216
  go_upto_region 6 with(fail)
  clear c0 c3 a;generalize w.alloc (aI #[E,Z,dw] 274)=w1 at *;generalize w.heap.size=q1 at *;have c3:=H1.o.1.c3;obtain⟨w2,L,M,N⟩:=AK (P:=prog) underlying335 underlying3 H1.o.1.mp x 0;have O:=aP (H1.o.1.U4 M N (λz d u=>by
   unfold gC at u;split at u
   .cases u
   .exact H1.o.1.i.ok z d u))
  have Q:=aP (O.o.2.aY xb (.inr rfl));have B:=aP (H1.o.2.trans O.o.2.unbox);clear M N;have d0:=Q.o.cell 0 E rfl;have HP:=aP (J3 O.o.1 E HD.o);go_wp2_with fail
  refine aR HP ?_;rintro e S ⟨⟨l,s,hl,hs,rfl⟩,hb3⟩;have j:=O.o.1.below hb3;have hlen:y.R.length=256:=j.1.i.len;have hi:l *64+s<y.R.length:=aQ;have c4:S.cell? (g,4+l *64+s)=some (rT (y.R[l *64+s]'hi)):=by
   rw[show 4+l *64+s=4+(l *64+s) by omega];exact j.1.cr hi
  have T:aH (bI eI 1 S 0 3 (y.R[l *64+s]'hi).A (y.R[l *64+s]'hi).c (y.R[l *64+s]'hi).xs):=j.1.row hi;have hlX:(y.R[l *64+s]'hi).xs.length<=1000000:=by
   have h1:=yB hi;have h2:iA y.R<=n:=j.1.i.sum;have:=HN.o;omega
  have G:=aP (KV (c:=(y.R[l *64+s]'hi).c) (T.o.sl gK) (by show(y.R[l *64+s]'hi).xs.length<=_;omega) x);have H3:=bN j.1 (B.o.trans (j.2).unbox);have l0:¬(l:Int)<0:=aQ;have l4:(l:Int)<4:=aQ;have s0:¬(s:Int)<0:=aQ;have s64:(s:Int)<64:=aQ;have U:aH (∀(W w':aA) (A:Option aJ) (c:Nat) (xs:List Int),aD S S W->bI eI 1 w' 0 3 A c xs->W.grownBy w' (aY (y.R[l *64+s]'hi).A)->aY A=aY (y.R[l *64+s]'hi).A->xs.length<=(y.R[l *64+s]'hi).xs.length->
   (w'.cell? (g,4+l *64+s)=some (rT (y.R[l *64+s]'hi))/\w'.frozen? (g,4+l *64+s)=false)/\BM F (w'.setCell (g,4+l *64+s) (.slice A xs.length c)) g n/\Kp F w (w'.setCell (g,4+l *64+s) (.slice A xs.length c))):=λW w' A c xs hW ho hg ha H=>by
   rw[show 4+l *64+s=4+(l *64+s) by omega];have hsm:=CS hi ⟨A,c,xs⟩;simp only at hsm;have hsum:iA y.R<=n:=j.1.i.sum;obtain⟨V,hW2⟩:=j.1.below hW;obtain⟨r1,r2⟩:=V.setRow hi ho hg (.inl ha) (Zw n) (by show iA (y.R.set (l *64+s) ⟨A,c,xs⟩)<=n;omega);exact⟨V.rowAt hi ho hg (.inl ha),⟨_,r1.less (λb hb=> .inl hb)⟩,(B.o.trans (j.2).unbox).trans ((hW2.trans r2).unbox)⟩
  generalize hr:y.R[l *64+s]'hi=r at *;have Hr:=aP hr;obtain⟨A,c,xs⟩:=r;simp only[rT] at c4 hlX G T;clear hr j hb3 hlen HP O Q B H1 c3 L d0;rcases Lx xs x with H|⟨k,hk,H⟩
  .rw[H] at G;clear H;go_wp2_with fail
   refine aR G ?_;rintro e w4 ⟨rfl,rfl⟩;have D:aH (RP F g n w (.returned (.bool true)) S):=⟨true,rfl,⟨_,H3.o.1.less (λb hb=> .inl hb)⟩,H3.o.2⟩
   go_wp2_with fail
   go_ret
   exact D.o
  .rw[H] at G;clear H;obtain⟨q,rfl⟩:∃q,A=some ⟨q,0,none⟩:=by
    rcases T.o.shape with⟨_,h2,_⟩|h2
    .rw[h2] at hk;simp at hk
    .exact h2
   have HK:=aP hk;have k0:(0:Int)<=k:=aQ;go_wp2_with fail
   refine aR G ?_;rintro e w4 ⟨rfl,rfl⟩;clear G;go_upto_region 10 with(fail)
   have p:=bD c4;refine bO (bS _) (λ_=>bS) [] (λ_ _ _=>True) [14,19] [] 73 (bY _) (λ_ _ _ h u=>bU h u) (λ_ d hd _ v w w' _ h u=>by cases hd) aV aV bL ?_;repeat refine eA ?_
   refine dC ?_;intro γ w5 C hT;clear p;simp only[cO,Act.put,Zx,aaE,aaD];refine dP ?_;have X:=aP (DI.lX q c k (xs.length - (k+1)) 0 xs w5 (T.o.keep C) (by have:=HK.o;omega) aQ);have HL:aH ((xs.eraseIdx k).length<=xs.length):=ac3 _ _;have HB5:=aP C;clear C hT c4 T H3;refine wpList_plain rfl (λK hK=>?_);go_wp2_with fail
   refine aR X ?_;rintro e w6 ⟨rfl,t,Y⟩;have HR:=aP (U.o w5 w6 _ _ _ HB5.o t Y rfl HL.o);have c6:=HR.o.1.1;have f6:=HR.o.1.2;simp only[rT] at c6;have D:=aP HR.o.2;clear t Y X U HR HL;generalize (xs.eraseIdx k).length=m at *;refine hK _ _ ?_;clear hK K;refine wpList_plain rfl (λK hK=>?_);go_simp
   refine hK _ _ ?_;clear hK K;refine cI ?_;try refine dE ?_
   go_wp2_with fail
   go_ret
   exact⟨true,rfl,D.o.1,D.o.2⟩
end
end
section
open Go.RowKit Go.Lib Go.Shelf dF Fr Up Nt
variable{F:Nat->Prop}{w:aA}{g:Nat}{k:Kv}
section
theorem GM{a:Ka}(h:bQ F w g a k)(f:k.n<=1000000)(x:Int):aG prog 216 #[.pointer a.gw,x] w λe w'=>∃b,e= .returned (.bool b)/\bQ F w' g a k/\Kp F w w':=by
 obtain⟨G,⟨y,i⟩,back⟩:=h.wh;refine(SC i f x).mono ?_;rintro e w' ⟨b,rfl,c,d⟩;exact⟨b,rfl,(back k.n _ c d).1,(back k.n _ c d).2⟩
theorem NK{a:Ka}(h:bQ F w g a k):∃v:Int,(0<=v/\v<=1048576)/\∀W,aD w w W->aG prog 218 #[.pointer a.gw] W λe w'=>e= .returned (.int .i64 v)/\W=w':=by
 obtain⟨G,⟨y,b⟩,_⟩:=h.wh;exact⟨y.nw,b.i.nw,λW c=>Hc (b.below c).1⟩
theorem RQ{a:Ka}(h:bQ F w g a k)(i:k.n+1<=1000000)(at_ b:Int)(c:0<=b/\b<4):aG prog 217 #[.pointer a.gw,at_,b] w λe w'=>∃H E:Int,e= .returned (.tuple #[H,E])/\bQ F w' g a {k with n:=k.n+1}/\Kp F w w':=by
 obtain⟨G,⟨y,j⟩,back⟩:=h.wh;refine(Iy j i at_ b c).mono ?_;rintro e w' ⟨H,E,rfl,d,f⟩;exact⟨H,E,rfl,(back (k.n+1) _ d f).1,(back (k.n+1) _ d f).2⟩
end
section
def FC(F:Nat->Prop)(g:Nat)(k:Kv)(w:aA)(r:Ending)(w':aA):Prop:=∃(E:Int) (m:Nat),(k.n<=m/\m<=k.n+1)/\gJ F g {k with n:=m} (.int .i64 E) w r w'
theorem R9{a:Ka}(h:bQ F w g a k)(e:Nat)(he:e<4)(c:w.cell? (g,11+e)=some (.int .i64 0)):aG prog 171 #[.pointer g,e,aU] w (FC F g k w):=by
 have b:aH (FC F g k w (.returned (.int .i64 0)) w):=⟨0,k.n,⟨Zw _,abP _⟩,rfl,⟨a,h⟩,Kp.refl _ _⟩
 have d:(e:Int)<8:=aQ;clear h;go_enter func171,ntmps171
 go_wp2_with fail
 go_ret
 exact b.o
theorem XI{a:Ka}(h:bQ F w g a k)(C:k.n+1<=1000000)(e:Nat)(he:e<4)(v:Int)(D:v≠0)(y:w.cell? (g,11+e)=some (.int .i64 0)):aG prog 171 #[.pointer g,e,v] w (FC F g k w):=by
 have L:¬(e:Int)<0:=aQ;have M:(e:Int)<8:=aQ;have I:(v==0)=false:=by simp[D]
 have pw:=h.pw;have ps:=h.ps;unfold pA at pw ps;obtain⟨u,_,c⟩:=NK h;have j:=aP c;obtain⟨G,hs,_⟩:=h.sd;have l:aH (∀W,aD w w W->aG prog 21 #[.pointer a.gs] W λe w'=>e= .returned (.int .i64 k.s.nw)/\W=w'):=λW J=>vR (h.below J).1.sd.choose_spec.1
 have m:aH (∀x,aG prog 217 #[.pointer a.gw, .int .i64 x,e] w.drew λr w'=>∃H E:Int,r= .returned (.tuple #[H,E])/\bQ F w' g a {k with n:=k.n+1}/\Kp F w.drew w'):=λx=>RQ (h.below (Below.refl w w).drew).1 C x e aQ
 have K:aH (Kp F w w.drew):=(h.below (Below.refl w w).drew).2;clear h hs c;go_enter func171,ntmps171
 go_upto_region 6 with(fail)
 go_region_held3 (λW=>W.cell? (g,10)=some (.pointer a.gw)/\W.cell? (g,6)=some (.pointer a.gs)) (first|exact⟨pw,ps⟩|exact⟨‹_›,‹_›⟩) ((first|(go_at_call 21;(refine aS (l.o _ (Below.refl _ _).drew) ?_);rintro r z ⟨rfl,rfl⟩)|(go_at_call 218;(refine aS (j.o _ (Below.refl _ _).drew) ?_);rintro r z ⟨rfl,rfl⟩)|(go_at_call 217;(refine aS (m.o _) ?_);rintro r z ⟨H,E,rfl,d,A⟩;(have p:=d.pw);(have q:=d.ps);(unfold pA at p q);(have b:=bN d (K.o.trans A));clear d A)))
 all_goals
  by_cases f:E=0
  .have t:(E !=0)=false:=by simp[f]
   have B:=aP (b.o.1.store (11+e) aQ H);have fz:=b.o.1.fz (11+e);obtain⟨v0,hc⟩:=b.o.1.p7 (i:=e) aQ;clear f y;go_wp2_with fail
   go_ret
   exact⟨0,k.n+1,⟨aQ,aQ⟩,rfl,B.o.1,b.o.2.trans B.o.2⟩
  .have t:(E !=0)=true:=by simp[f]
   clear f y;go_wp2_with fail
   go_ret
   exact⟨E,k.n+1,⟨aQ,aQ⟩,rfl,⟨a,b.o.1⟩,b.o.2⟩
end
section
theorem Q7{a:Ka}(h:bQ F w g a k)(q:k.n+1<=1000000)(e:Nat)(he:e<4)(x:Int)(s:x≠0)(j:w.cell? (g,11+e)=some (.int .i64 x)):aG prog 171 #[.pointer g,e,aU] w (FC F g k w):=by
 have C:¬(e:Int)<0:=aQ;have D:(e:Int)<8:=aQ;have A:(x !=0)=true:=by simp[s]
 have pw:=h.pw;unfold pA at pw;have t:=aP h;have B:=aP q;clear h q s;go_enter func171,ntmps171
 go_upto_region 2 with(fail)
 have c:=bD pw;have f:=bD j;refine bO (bS _) (λ_=>bS) [] (λ_ _ _=>True) [10] [] 65 (bY _) (λ_ _ _ h j=>bU h j) (λ_ d hd _ v w w' _ h j=>by cases hd) aV aV bL ?_;repeat refine eA ?_
 refine dC ?_;intro γ w5 hb5 hT;clear c f;simp only[cO,Act.put,Zx,aaE,aaD];refine dP ?_;have m:=t.o.below hb5;have HD:=aP (GM m.1 (by have:=B.o;omega) x);have u:=aP m.2;clear m hb5 hT t pw j;refine wpList_plain rfl (λK hK=>?_);go_wp2_with fail
 refine aR HD ?_;rintro r E ⟨b,rfl,l,y⟩;have f6:=l.fz (11+e);obtain⟨v6,c6⟩:=l.p7 (i:=e) aQ;have z:=aP (l.store (11+e) aQ 0);have p:=aP (u.o.trans y);clear l y HD u;refine hK _ _ ?_;clear hK K;refine cI ?_;try refine dE ?_
 go_wp2_with fail
 go_ret
 exact⟨0,k.n,⟨Zw _,abP _⟩,rfl,z.o.1,p.o.trans z.o.2⟩
end
end
end Go.Proofs.YtacgiflhgdaeaaaGreat
