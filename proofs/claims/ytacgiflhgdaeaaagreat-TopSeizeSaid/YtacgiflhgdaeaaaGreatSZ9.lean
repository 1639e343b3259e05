/- Texts laid as one. -/
import Derived.Laws.BitsLemmas
import Derived.Shelf.Abstract
import Derived.Test.YtacgiflhgdaeaaaGreatSZ1
import Derived.Test.YtacgiflhgdaeaaaGreatSZ2
import Derived.Test.YtacgiflhgdaeaaaGreatSZ4
import Derived.Test.YtacgiflhgdaeaaaGreatSZ6
import Derived.Test.YtacgiflhgdaeaaaGreatSZ7
import Derived.Test.YtacgiflhgdaeaaaGreatSZ8
set_option linter.unusedVariables false
set_option linter.unusedSimpArgs false
set_option maxRecDepth 100000
set_option maxHeartbeats 20000000
namespace Go.Proofs.YtacgiflhgdaeaaaGreat
open Go.Proofs.Tryz
open Go renaming World->aA,Value->aC,Addr->aJ,Ending->aM,Calls->aG
open Go.RowKit renaming Below->aD,Hid->aH,intOf->aL
open Go.Obj renaming cells->aI
section
open Go.RowKit Go.Lib Go.Shelf dL Fr Up Nt
variable{F:Nat->Prop}{w:aA}{g:Nat}{k:Kv}
section
theorem Bl{a:Ka}(h:bT F w g a k)(hw:KW k)(e s:Int):aG prog 164 #[.pointer g,e,s] w λr w'=>∃E k',rM k e s E k'/\gK F g k' (.int .i64 E) w r w':=by
 obtain⟨G,j,_⟩:=h.cp;have f:=lB j e s 1 8;have pc:=h.pc;unfold pA at pc;have p:=aP h;have B:=aP hw;have i:aH (∀(E:Int) (k':Kv),(match jK k.c e s 1 8 with|none=>E=23/\k'=k|some h=>E=0/\kD k h.ob k')->rM k e s E k'):=λE k' h=>h
 clear h j hw;cases hq:jK k.c e s 1 8 with
 |none=>
  rw[hq] at f i;have f:=aP f;have i:=aP (i.o 23 k ⟨rfl,rfl⟩);clear hq;go_enter func164,ntmps164
  go_wp2_with fail
  refine aR f ?_;rintro r q ⟨rfl,b⟩;simp only[mB,adO];have t:aH (∃E k',rM k e s E k'/\gK F g k' (.int .i64 E) w (.returned (.int .i64 23)) (q.alloc (aI #[aU,aU,aU] 154))):=by
   have d:=b.alloc b.size (aI #[aU,aU,aU] 154);exact⟨23,k,i.o,rfl,⟨a,(p.o.below d).1⟩,(p.o.below d).2⟩
  clear b;go_wp2_with fail
  go_ret
  exact t.o
 |some x=>
  rw[hq] at f i;have f:=aP f;have i:=aP (λk' h=>i.o 0 k' ⟨rfl,h⟩);clear hq;obtain⟨u,n,v,I,J⟩:=x;go_enter func164,ntmps164
  go_wp2_with fail
  refine aR f ?_;rintro r q ⟨rfl,b⟩;simp only[mB,adN];have d:=b.alloc b.size (aI #[u,n,v] 154);have yb:=bE.new q 154 #[u,n,v];have y:=aP (p.o.below d);have C:=yb.cell 1 n rfl;clear b d pc yb;have D:=aP (FD y.o.1 B.o n);go_wp2_with fail
  refine aR D ?_;rintro r H ⟨z,l,rfl,A,m⟩;have t:aH (∃E k',rM k e s E k'/\gK F g k' (.int .i64 E) w (.returned (.int .i64 0)) H):=⟨0,z,i.o z l,rfl,A,y.o.2.trans m⟩
  clear l A m C;go_wp2_with fail
  go_ret
  exact t.o
theorem YY{a:Ka}(h:bT F w g a k)(e s at_:Int):aG prog 165 #[.pointer g,e,s,at_] w (gK F g k (.tuple #[.int .u64 (C8 k e s at_).1, .int .i64 (C8 k e s at_).2]) w):=by
 obtain⟨G,z,_⟩:=h.cp;have p:=lB z e s 1 1;have pc:=h.pc;unfold pA at pc;have I:=aP h;have q:aH (C8 k e s at_=match jK k.c e s 1 1 with|none=>(0,23)|some h=>(if fQ k.f h.ob at_≠0 then 0 else IntKind.u64.wrap (rR k.f h.ob at_),fQ k.f h.ob at_)):=rfl;clear h z;generalize C8 k e s at_=rk at *;cases hq:jK k.c e s 1 1 with
 |none=>
  rw[hq] at p q;have p:=aP p;clear hq;go_enter func165,ntmps165
  go_wp2_with fail
  refine aR p ?_;rintro r C ⟨rfl,j⟩;simp only[mB,adO];have t:=aP (I.o.below (j.alloc j.size (aI #[aU,aU,aU] 154)));clear j;go_wp2_with fail
  go_ret2
  rw[q.o];exact⟨rfl,⟨a,t.o.1⟩,t.o.2⟩
 |some x=>
  rw[hq] at p q;have p:=aP p;clear hq;obtain⟨D,n,E,L,M⟩:=x;simp only at q;go_enter func165,ntmps165
  go_wp2_with fail
  refine aR p ?_;rintro r C ⟨rfl,j⟩;simp only[mB,adN];have A:=j.alloc j.size (aI #[D,n,E] 154);have yb:=bE.new C 154 #[D,n,E];have v:=aP (I.o.below A);clear j A pc;go_upto_region 4 with(fail)
  generalize C.alloc (aI #[D,n,E] 154)=w3 at *;generalize C.heap.size=q3 at *;have J:=yb.cell 1 n rfl;have pf:=v.o.1.pf;unfold pA at pf;obtain⟨N,hf,_⟩:=v.o.1.fr;have B:aH (∀W,aD w3 w3 W->aG prog 208 #[.pointer a.gf,n,at_] W λe w'=>e= .returned (.tuple #[.int .u8 (rR k.f n at_), .int .i64 (fQ k.f n at_)])/\W=w'):=λW K=>zZ k.f a.gf n at_ W (hf.keep K).1.m
  clear hf yb;generalize rR k.f n at_=bv at *;generalize fQ k.f n at_=be at *;by_cases y:be=0
  .have u:aH (rk=(IntKind.u64.wrap bv,0)):=by unfold aH;rw[q.o,y];rfl
   have H:(be !=0)=false:=by simp[y]
   clear y q;(have b:=cC.cell pf;have d:=cC.cell J;refine dG aV aV ?_;(repeat (go_big_quiet_step ((go_at_call 208;with_reducible exact pI (B.o _ (cC.ok _))))));refine wpQuiet_nil ?_;clear b d;intro w5 i;have l:=cC.below i;clear i)
   have t:=aP (v.o.1.below l);clear l;go_wp2_with fail
   go_ret2
   rw[u.o];exact⟨rfl,⟨a,t.o.1⟩,v.o.2.trans t.o.2⟩
  .have u:aH (rk=(0,be)):=by unfold aH;rw[q.o,abP y]
   have H:(be !=0)=true:=by simp[y]
   clear y q;(have b:=cC.cell pf;have d:=cC.cell J;refine dG aV aV ?_;(repeat (go_big_quiet_step ((go_at_call 208;with_reducible exact pI (B.o _ (cC.ok _))))));refine wpQuiet_nil ?_;clear b d;intro w5 i;have l:=cC.below i;clear i)
   have t:=aP (v.o.1.below l);clear l;go_wp2_with fail
   go_ret2
   rw[u.o];exact⟨rfl,⟨a,t.o.1⟩,v.o.2.trans t.o.2⟩
theorem V1{a:Ka}(h:bT F w g a k)(e s at_ v:Int):aG prog 166 #[.pointer g,e,s,at_,v] w (gK F g (oD k e s at_ v).2 (.int .i64 (oD k e s at_ v).1) w):=by
 obtain⟨G,u,_⟩:=h.cp;have l:=lB u e s 1 2;have pc:=h.pc;unfold pA at pc;have H:=aP h;have n:aH (oD k e s at_ v=match jK k.c e s 1 2 with|none=>(23,k)|some h=>if 255<v then(1,k) else(fQ k.f h.ob at_,{k with f:=iV k.f h.ob at_ (v%256)})):=rfl;clear h u;generalize oD k e s at_ v=rk at *;cases hq:jK k.c e s 1 2 with
 |none=>
  rw[hq] at l n;have l:=aP l;clear hq;go_enter func166,ntmps166
  go_wp2_with fail
  refine aR l ?_;rintro r C ⟨rfl,b⟩;simp only[mB,adO];have I:=aP (H.o.below (b.alloc b.size (aI #[aU,aU,aU] 154)));clear b;go_wp2_with fail
  go_ret
  rw[n.o];exact⟨rfl,⟨a,I.o.1⟩,I.o.2⟩
 |some x=>
  rw[hq] at l n;have l:=aP l;clear hq;obtain⟨D,p,E,U,V⟩:=x;simp only at n;go_enter func166,ntmps166
  go_wp2_with fail
  refine aR l ?_;rintro r C ⟨rfl,b⟩;simp only[mB,adN];have y:=b.alloc b.size (aI #[D,p,E] 154);have yb:=bE.new C 154 #[D,p,E];have t:=aP (H.o.below y);clear b y pc;by_cases J:255<v
  .have q:aH (rk=(1,k)):=by unfold aH;rw[n.o,abP J]
   clear yb n;go_wp2_with fail
   go_ret
   rw[q.o];exact⟨rfl,⟨a,t.o.1⟩,t.o.2⟩
  .have q:aH (rk=(fQ k.f p at_,{k with f:=iV k.f p at_ (v%256)})):=by unfold aH;rw[n.o,abQ J]
   clear n;go_upto_region 6 with(fail)
   generalize C.alloc (aI #[D,p,E] 154)=w3 at *;generalize C.heap.size=q3 at *;have T:=yb.cell 1 p rfl;have pf:=t.o.1.pf;unfold pA at pf;clear yb;have i:=bD pf;have j:=bD T;refine bM (bQ _) (λ_=>bQ) [] (λ_ _ _=>True) [9,10] [] 37 (bZ _) (λ_ _ _ h L=>bV h L) (λ_ d hd _ v w w' _ h L=>by cases hd) aV aV bF ?_;repeat refine eK ?_
   refine dI ?_;intro γ w5 hb5 hT;clear i j;simp only[cY,Act.put,abN,abU,abS];refine dS ?_;obtain⟨M,N⟩:=t.o.1.below hb5;obtain⟨W,hf,back⟩:=M.fr;have z:=aP (xL k.f a.gf p at_ (v%256) w5 hf.m);have A:=aP hf;have O:=aP back;have P:=aP (t.o.2.trans N);clear hf back M N hb5 hT t;generalize fQ k.f p at_=be at *;refine wpList_plain rfl (λK hK=>?_);go_wp2_with fail
   refine aR z ?_;rintro r X ⟨rfl,B,g6⟩;obtain⟨t1,t2⟩:=A.o.eY B g6;obtain⟨Q,R⟩:=O.o _ _ t1 t2;have S:=bP Q (P.o.trans R);clear B g6 t1 t2 Q R O A z P;refine hK _ _ ?_;clear hK K;refine wpList_plain rfl (λK hK=>?_);go_simp
   refine hK _ _ ?_;clear hK K;refine cN ?_;try refine dE ?_
   go_wp2_with fail
   go_ret
   rw[q.o];exact⟨rfl,⟨a,S.o.1⟩,S.o.2⟩
theorem W3{a:Ka}(h:bT F w g a k)(hw:KW k)(e s:Int):aG prog 163 #[.pointer g,e,s] w (gK F g (lJ k e s).2.2 (.tuple #[.int .u64 (lJ k e s).1, .int .i64 (lJ k e s).2.1]) w):=by
 have P:=aP h;have S:=aP hw;have M:aH (lJ k e s=if 16<=s then(0,1,k) else if(mH k.c e s).isSome then(0,7,k) else match jH k.f with
  |none=>(0,20,{k with f:=fV k.f})
  |some i=>if(dB k.c e s 1 i 15 0).1≠0 then(0,(dB k.c e s 1 i 15 0).1,{k with f:=fV k.f,c:=(dB k.c e s 1 i 15 0).2}) else((i:Int),0,{k with f:=fV k.f,c:=(dB k.c e s 1 i 15 0).2})):=rfl
 generalize lJ k e s=rk at *;by_cases B:16<=s
 .have b:aH (rk=(0,1,k)):=by unfold aH;rw[M.o,abP B]
  clear h hw M;go_enter func163,ntmps163
  go_wp2_with fail
  go_ret2
  rw[b.o];exact⟨rfl,⟨a,P.o⟩,Kp.refl _ _⟩
 .have b:aH (rk=if(mH k.c e s).isSome then(0,7,k) else match jH k.f with
   |none=>(0,20,{k with f:=fV k.f})
   |some i=>if(dB k.c e s 1 i 15 0).1≠0 then(0,(dB k.c e s 1 i 15 0).1,{k with f:=fV k.f,c:=(dB k.c e s 1 i 15 0).2}) else((i:Int),0,{k with f:=fV k.f,c:=(dB k.c e s 1 i 15 0).2})):=by unfold aH;rw[M.o,abQ B]
  clear M;obtain⟨G,C,_⟩:=h.cp;have y:=LS C e s;have pc:=h.pc;unfold pA at pc;clear h C hw;cases hq:mH k.c e s with
  |some x=>
   rw[hq] at y b;have y:=aP y;clear hq;obtain⟨X,Y,Z,x4,x5⟩:=x;go_enter func163,ntmps163
   go_wp2_with fail
   refine aR y ?_;rintro r w2 ⟨rfl,j⟩;simp only[mB,adN];have T:=aP (P.o.below (j.alloc j.size (aI #[X,Y,Z] 154)));clear j;go_wp2_with fail
   go_ret2
   rw[b.o];exact⟨rfl,⟨a,T.o.1⟩,T.o.2⟩
  |none=>
   rw[hq] at y b;have y:=aP y;clear hq;go_enter func163,ntmps163
   go_wp2_with fail
   refine aR y ?_;rintro r w2 ⟨rfl,j⟩;simp only[mB,adO];have N:=aP (P.o.below (j.alloc j.size (aI #[aU,aU,aU] 154)));have pf:=N.o.1.pf;unfold pA at pf;obtain⟨G2,hf,back⟩:=N.o.1.fr;have p:=Jf k.f a.gf _ hf.m;have q:=aP hf;have O:=aP back;clear hf back j pc;cases d:jH k.f with
   |none=>
    have l:aH (rk=(0,20,{k with f:=fV k.f})):=by unfold aH;rw[b.o,d];rfl
    unfold SN at p;rw[d] at p;have p:=aP p;clear d b;go_wp2_with fail
    refine aR p ?_;rintro r w4 ⟨rfl,u,g4⟩;obtain⟨t1,t2⟩:=q.o.eY u g4;obtain⟨z,D⟩:=O.o _ _ t1 t2;have E:=bP z (N.o.2.trans D);clear u g4 t1 t2 z D O q p pf;go_wp2_with fail
    go_ret2
    rw[l.o];exact⟨rfl,⟨a,E.o.1⟩,E.o.2⟩
   |some i=>
    have l:aH (rk=if(dB k.c e s 1 i 15 0).1≠0 then(0,(dB k.c e s 1 i 15 0).1,{k with f:=fV k.f,c:=(dB k.c e s 1 i 15 0).2}) else((i:Int),0,{k with f:=fV k.f,c:=(dB k.c e s 1 i 15 0).2})):=by unfold aH;rw[b.o,d];rfl
    unfold SN at p;rw[d] at p;have p:=aP p;have U:i<32:=by
     unfold jH at d;have h1:=(ab9.1 d).1;have h2:=q.o.m.t;rw[acQ] at h1;omega
    clear d b;go_wp2_with fail
    refine aR p ?_;rintro r w4 ⟨rfl,u,g4⟩;obtain⟨t1,t2⟩:=q.o.eY u g4;obtain⟨z,D⟩:=O.o _ _ t1 t2;obtain⟨G4,H,v⟩:=z.cp;have Q:=aP (PZ H ⟨S.o.cn.1,by have:=S.o.cn.2;show k.c.n<=_;omega⟩ e s 1 i 15);have I:=aP v;have pc:=z.pc;unfold pA at pc;have E:=bP z (N.o.2.trans D);clear u g4 t1 t2 z D O q p pf H v;simp only at Q;generalize dB k.c e s 1 i 15 0=pr at *;go_wp2_with fail
    refine aR Q ?_;rintro r w5 ⟨rfl,J,K⟩;obtain⟨V,W⟩:=I.o _ _ J K;have L:=bP V (E.o.2.trans W);clear J K V W I Q pc E;obtain⟨p1,p2⟩:=pr;simp only at l L;by_cases hp:p1=0
    .have A:aH (rk=((i:Int),0,{k with f:=fV k.f,c:=p2})):=by unfold aH;rw[l.o,abQ (by simpa using hp)]
     have R:(p1 !=0)=false:=by simp[hp]
     have hwi:IntKind.u64.wrap (i:Int)=(i:Int):=by rw[IntKind.wrap_u64];omega
     clear hp l;go_wp2_with fail
     go_ret2
     rw[A.o];exact⟨rfl,⟨a,L.o.1⟩,L.o.2⟩
    .have A:aH (rk=(0,p1,{k with f:=fV k.f,c:=p2})):=by unfold aH;rw[l.o,abP (by simpa using hp)]
     have R:(p1 !=0)=true:=by simp[hp]
     clear hp l;go_wp2_with fail
     go_ret2
     rw[A.o];exact⟨rfl,⟨a,L.o.1⟩,L.o.2⟩
end
variable{a a':Ka}{i:Nat}{k' k1:Kv}
section
theorem LA(h:bT F w g a k)(e s:Int):aG prog 215 #[.pointer a.gc,e,s] w λx w'=>
 (r8 k.c e s=none/\x= .returned (.tuple #[bH, .int .i64 23])/\bT F w' g a k/\Kp F w w')\/
 (∃i A c L,r8 k.c e s=some i/\x= .returned (.tuple #[.slice A (dC (bG k.c i).nu false L).2.length c,aU])/\xY k L/\bI oK 5 w' w.heap.size 156 A c (dC (bG k.c i).nu false L).2/\bT (cI F A) w' g a {k with c:=iA k.c (dC (bG k.c i).nu false L).2}/\Kp F w w'):=by
 obtain⟨G,d,back⟩:=h.Sy;have hd:=VA d e s;cases hf:r8 k.c e s with
 |none=>
  rw[hf] at hd;refine hd.mono ?_;rintro x w' ⟨rfl,hc,f⟩;obtain⟨h1,j⟩:=back k.c w' none (λq hq=>by cases hq) (hc.mono (λb hb=>by
   rcases hb with hb|hb
   .exact hb
   .cases hb)) f
  exact .inl ⟨rfl,rfl,h1.less (λb hb=> .inl hb),j⟩
 |some i=>
  rw[hf] at hd;refine hd.mono ?_;rintro x w' ⟨A,c,L,rfl,l,m,ho,hc,f⟩;obtain⟨h1,j⟩:=back _ _ A (λq hq=>(ho.lt q hq).1) (d.LR hc ho) f;exact .inr ⟨i,A,c,L,rfl,rfl,⟨l,m⟩,ho,h1,j⟩
theorem VW(h:bT F w g a k)(e s:Int)(hf:r8 k.c e s=none):aG prog 215 #[.pointer a.gc,e,s] w λx w'=>x= .returned (.tuple #[bH, .int .i64 23])/\bT F w' g a k/\Kp F w w':=by
 refine(LA h e s).mono ?_;rintro x w' (⟨_,h1⟩|⟨i,A,c,L,h1,_⟩)
 .exact h1
 .rw[hf] at h1;cases h1
theorem TB(h:bT F w g a k)(e s:Int)(hf:r8 k.c e s=some i):aG prog 215 #[.pointer a.gc,e,s] w λx w'=>
 ∃A c L,x= .returned (.tuple #[.slice A (dC (bG k.c i).nu false L).2.length c,aU])/\xY k L/\bI oK 5 w' w.heap.size 156 A c (dC (bG k.c i).nu false L).2/\bT (cI F A) w' g a {k with c:=iA k.c (dC (bG k.c i).nu false L).2}/\Kp F w w':=by
 refine(LA h e s).mono ?_;rintro x w' (⟨h1,_⟩|⟨j,A,c,L,h1,b⟩)
 .rw[hf] at h1;cases h1
 .rw[hf] at h1;injection h1 with h1;subst h1;exact⟨A,c,L,b⟩
theorem Gp(h:bT F w g a k)(hw:KW k)(e s:Int)(hf:eX k.c e s=none):aG prog 149 #[.pointer a.gc,e,s] w λx w'=>x= .returned (.tuple #[bH, .int .i64 23])/\bT F w' g a k/\Kp F w w':=by
 refine(IT h hw e s).mono ?_;rintro x w' (⟨_,h1⟩|⟨i,A,c,L,h1,_⟩)
 .exact h1
 .rw[hf] at h1;cases h1
theorem Co(h:bT F w g a k)(hw:KW k)(e s:Int)(hf:eX k.c e s=some i):aG prog 149 #[.pointer a.gc,e,s] w λx w'=>
 ∃A c L,x= .returned (.tuple #[.slice A (dC (bG k.c i).nu true L).2.length c,aU])/\xY k L/\bI oK 5 w' w.heap.size 156 A c (dC (bG k.c i).nu true L).2/\bT (cI F A) w' g a {k with c:=iA k.c (dC (bG k.c i).nu true L).2}/\Kp F w w':=by
 refine(IT h hw e s).mono ?_;rintro x w' (⟨h1,_⟩|⟨j,A,c,L,h1,b⟩)
 .rw[hf] at h1;cases h1
 .rw[hf] at h1;injection h1 with h1;subst h1;exact⟨A,c,L,b⟩
def Vt(op A B C D:Int):Array aC:=#[op,A,B,C,D]
structure BxK(F:Nat->Prop)(w w1:aA)(q1 g:Nat)(a:Ka)(k:Kv)(op A B C D:Int):Prop where
 m:bT (Fb F q1) w1 g a k
 k:Kp F w w1
 b:bE w1 q1 281 (Vt op A B C D)
theorem BxK.new(h:bT F w g a k)(op A B C D:Int):BxK F w (w.alloc (aI #[op,A,B,C,D] 281)) w g a k op A B C D:=
 ⟨(bT.cH g a k).box h h.fl _,h.fl.below (aX w _),bE.new w _ _⟩
section
variable{F:Nat->Prop}{w w1 w2:aA}{q1 g:Nat}{a:Ka}{k:Kv}{op A B C D:Int}
theorem BxK.xs(h:BxK F w w1 q1 g a k op A B C D):w1.cell? (q1,0)=some (.int .i64 op)/\w1.cell? (q1,1)=some (.int .i64 A)/\w1.cell? (q1,2)=some (.int .i64 B)/\w1.cell? (q1,3)=some (.int .i64 C)/\w1.cell? (q1,4)=some (.int .i64 D):=
 ⟨h.b.cell 0 _ rfl,h.b.cell 1 _ rfl,h.b.cell 2 _ rfl,h.b.cell 3 _ rfl,h.b.cell 4 _ rfl⟩
theorem BxK.below(h:BxK F w w1 q1 g a k op A B C D)(hb:aD w1 w1 w2):BxK F w w2 q1 g a k op A B C D:=⟨(h.m.below hb).1,h.k.trans (h.m.below hb).2.unbox,h.b.keep hb⟩
theorem BxK.ret(h:BxK F w w1 q1 g a k op A B C D)(hm:bT (Fb F q1) w2 g a' k')(kp:Kp (Fb F q1) w1 w2):BxK F w w2 q1 g a' k' op A B C D:=⟨hm,h.k.trans kp.unbox,kp.aY h.b (.inr rfl)⟩
theorem BxK.o(h:BxK F w w1 q1 g a k op A B C D):KM F w1 g k/\Kp F w w1:=⟨⟨a,h.m.less (λb hb=> .inl hb)⟩,h.k⟩
end
theorem RB(h:bT F w g a k)(hw:KW k)(e A B C D:Int):aG prog 169 #[.pointer g,e, .agg #[.int .i64 7,A,B,C,D]] w λr w'=>∃E k',gT k e 7 A B C D E k'/\gK F g k' (.int .i64 E) w r w':=by
 have H1:=aP (BxK.new h 7 A B C D);have s:gT k e 7 A B C D (gV k.c e A e B C 0).1 {k with c:=(gV k.c e A e B C 0).2}:=by unfold gT;rw[abP rfl]
 have l:=aP s;have t:=aP hw;clear h hw s;go_enter func169,ntmps169
 go_upto_region 1 with(fail)
 generalize w.alloc (aI #[.int .i64 7,A,B,C,D] 281)=w1 at *;generalize w.heap.size=q1 at *;obtain⟨O,u,y,z,P⟩:=H1.o.xs;go_upto_region 3 with(fail)
 have pc:=H1.o.m.pc;unfold pA at pc;have b:=bD pc;have f:=bD u;have i:=bD y;have j:=bD z;refine bM (bQ _) (λ_=>bQ) [] (λ_ _ _=>True) [11,12] [] 120 (bZ _) (λ_ _ _ h H=>bV h H) (λ_ d hd _ v w w' _ h H=>by cases hd) aV aV bF ?_;repeat refine eK ?_
 refine dI ?_;intro γ w5 hb5 hT;clear b f i j;simp only[cY,Act.put,abN,abU,abS];refine dS ?_;have q:=H1.o.below hb5;obtain⟨G,hc,back⟩:=q.m.cp;have HD:=aP (X5 hc ⟨t.o.cn.1,by have:=t.o.cn.2;omega⟩ e A B C);have I:=aP back;have J:=aP q;clear hc back q hb5 hT H1 O u y z P pc;generalize gV k.c e A e B C 0=r at *;refine wpList_plain rfl (λK hK=>?_);go_wp2_with fail
 refine aR HD ?_;rintro x Q ⟨rfl,n,p⟩;obtain⟨L,M⟩:=I.o _ _ n p;have N:=aP (J.o.ret L M).o;clear n p L M I HD J;refine hK _ _ ?_;clear hK K;refine wpList_plain rfl (λK hK=>?_);go_simp
 refine hK _ _ ?_;clear hK K;refine cN ?_;try refine dE ?_
 go_wp2_with fail
 go_ret
 exact⟨_,_,l.o,rfl,N.o.1,N.o.2⟩
theorem YE(h:bT F w g a k)(hw:KW k)(e A B C D:Int):aG prog 169 #[.pointer g,e, .agg #[.int .i64 8,A,B,C,D]] w λr w'=>∃E k',gT k e 8 A B C D E k'/\gK F g k' (.int .i64 E) w r w':=by
 have H1:=aP (BxK.new h 8 A B C D);have L:oC B=true->gT k e 8 A B C D (gV k.c e A B C D 4).1 {k with c:=(gV k.c e A B C D 4).2}:=λf=>by unfold gT;rw[abQ aQ,abP rfl,abP f]
 have s:oC B=false->gT k e 8 A B C D 1 k:=λf=>by unfold gT;rw[abQ aQ,abP rfl,abQ (by simp[f])];exact⟨rfl,rfl⟩
 have b:=bP L s;have M:=aP hw;have i:=CH H1.o.m B;clear h hw L s;cases f:oC B with
 |false=>
  rw[f] at i;have i:=aP i;have b:=aP (b.o.2 f);clear f;go_enter func169,ntmps169
  go_upto_region 1 with(fail)
  generalize w.alloc (aI #[.int .i64 8,A,B,C,D] 281)=w1 at *;generalize w.heap.size=q1 at *;obtain⟨N,y,z,H,I⟩:=H1.o.xs;go_wp2_with fail
  refine aR i ?_;rintro x O ⟨rfl,rfl⟩;go_wp2_with fail
  go_ret
  exact⟨_,_,b.o,rfl,H1.o.o.1,H1.o.o.2⟩
 |true=>
  rw[f] at i;have i:=aP i;have b:=aP (b.o.1 f);clear f;go_enter func169,ntmps169
  go_upto_region 1 with(fail)
  generalize w.alloc (aI #[.int .i64 8,A,B,C,D] 281)=w1 at *;generalize w.heap.size=q1 at *;obtain⟨N,y,z,H,I⟩:=H1.o.xs;go_wp2_with fail
  refine aR i ?_;rintro x O ⟨rfl,rfl⟩;have pc:=H1.o.m.pc;unfold pA at pc;go_upto_region 7 with(fail)
  have j:=bD pc;have l:=bD y;have n:=bD z;have p:=bD H;have q:=bD I;refine bM (bQ _) (λ_=>bQ) [] (λ_ _ _=>True) [13,14] [] 120 (bZ _) (λ_ _ _ h P=>bV h P) (λ_ d hd _ v w w' _ h P=>by cases hd) aV aV bF ?_;repeat refine eK ?_
  refine dI ?_;intro γ w5 hb5 hT;clear j l n p q;simp only[cY,Act.put,abN,abU,abS];refine dS ?_;have J:=H1.o.below hb5;obtain⟨G,hc,back⟩:=J.m.cp;have HD:=aP (JF hc ⟨M.o.cn.1,by have:=M.o.cn.2;omega⟩ e A B C D);have Q:=aP back;have R:=aP J;clear hc back J hb5 hT H1 N y z H I pc i;generalize gV k.c e A B C D 4=r at *;refine wpList_plain rfl (λK hK=>?_);go_wp2_with fail
  refine aR HD ?_;rintro x O ⟨rfl,t,u⟩;obtain⟨S,T⟩:=Q.o _ _ t u;have U:=aP (R.o.ret S T).o;clear t u S T Q HD R;refine hK _ _ ?_;clear hK K;refine wpList_plain rfl (λK hK=>?_);go_simp
  refine hK _ _ ?_;clear hK K;refine cN ?_;try refine dE ?_
  go_wp2_with fail
  go_ret
  exact⟨_,_,b.o,rfl,U.o.1,U.o.2⟩
theorem Q4(h:bT F w g a k)(hw:KW k)(e A B C D:Int):aG prog 169 #[.pointer g,e, .agg #[.int .i64 9,A,B,C,D]] w λr w'=>∃E k',gT k e 9 A B C D E k'/\gK F g k' (.int .i64 E) w r w':=by
 have H1:=aP (BxK.new h 9 A B C D);have d:aH (∀(E:Int) (k':Kv),pW k e A E k'->gT k e 9 A B C D E k'):=λE k' J=>by unfold gT;rw[abQ aQ,abQ aQ,abP rfl];exact J
 have K:=aP hw;clear h hw;go_enter func169,ntmps169
 go_upto_region 1 with(fail)
 generalize w.alloc (aI #[.int .i64 9,A,B,C,D] 281)=w1 at *;generalize w.heap.size=q1 at *;obtain⟨R,y,S,T,U⟩:=H1.o.xs;have pc:=H1.o.m.pc;unfold pA at pc;cases hf:r8 k.c e A with
 |none=>
  have l:aH (gT k e 9 A B C D 23 k):=d.o 23 k (by unfold pW;rw[hf];exact⟨rfl,rfl⟩);have HD:=aP (VW (H1.o.below (Below.refl w1 w1).drew).m e A hf);clear hf d;go_upto_region 9 with(fail)
  go_region_held3 (λW=>W.cell? (g,2)=some (.pointer a.gc)/\W.cell? (q1,1)=some (.int .i64 A)) (first|exact⟨pc,y⟩|exact⟨‹_›,‹_›⟩) ((go_at_call 215;(refine aR HD ?_);rintro x M ⟨rfl,n,s⟩;(have u:=n.pc);(unfold pA at u);(have N:=s.cell y (.inr rfl));(have j:=aP ((H1.o.below (Below.refl w1 w1).drew).ret n s).o);clear n s))
  go_wp2_with fail
  go_ret
  exact⟨_,_,l.o,rfl,j.o.1,j.o.2⟩
 |some i=>
  have l:aH (∀L,xY k L->gT k e 9 A B C D 0 (gY k (bG k.c i).nu false L)):=λL O=>d.o 0 _ (by unfold pW;rw[hf];exact⟨rfl,L,O,rfl⟩)
  have HD:=aP (TB (H1.o.below (Below.refl w1 w1).drew).m e A hf);clear hf d;go_upto_region 9 with(fail)
  go_region_held3 (λW=>W.cell? (g,2)=some (.pointer a.gc)/\W.cell? (q1,1)=some (.int .i64 A)) (first|exact⟨pc,y⟩|exact⟨‹_›,‹_›⟩) ((go_at_call 215;(refine aR HD ?_);rintro x M ⟨V,c3,L,rfl,z,v,n,s⟩;(have u:=n.pc);(unfold pA at u);(have N:=s.cell y (.inr rfl));(have j:=dH z v (And.intro n s));clear z v n s))
  have f:=xC (bG k.c i).nu false L;have hlen:(dC (bG k.c i).nu false L).2.length<=128:=abT f.1 (by rw[j.o.1.1.length_eq];exact CU _);have G:=aP (AI j.o.2.2.1 K.o.t j.o.2.1 (λq hq=> .inr hq) aQ (λp hp=>LH (j.o.1.1.mem_iff.1 (f.2 p hp))));clear f;generalize hm:(dC (bG k.c i).nu false L).2.length=m at *;clear hm;go_wp2_with fail
  refine aR G ?_;rintro x P ⟨rfl,H,I⟩;have Q:aH (∃E k',gT k e 9 A B C D E k'/\gK F g k' (.int .i64 E) w (.returned (.int .i64 0)) P):=⟨0,_,l.o L j.o.1,rfl,H.less (λb hb=> .inl (.inl hb)),(H1.o.below (Below.refl w1 w1).drew).k.trans ((j.o.2.2.2.unbox).trans (I.mono (λb hb=> .inl (.inl hb))))⟩
  clear H I j G;go_wp2_with fail
  go_ret
  exact Q.o
theorem gC.Be{l:List cP}(r:gC l k k'){p:cP}(h:¬(p.h.kd=1/\kY k' p.h.ob=false/\dM k'.f p.h.ob=true)):gC (l++ [p]) k k':=by
 induction r with
 |nil k=>exact .skip h (.nil k)
 |skip b r c=>first|exact .skip b (c h)|exact .skip b c
 |fY b r1 r c=>first|exact .fY b r1 (c h)|exact .fY b r1 c
theorem gC.snoc{l:List cP}(r:gC l k k1){p:cP}(h:p.h.kd=1/\kY k1 p.h.ob=false/\dM k1.f p.h.ob=true)(r1:kD k1 p.h.ob k'):gC (l++ [p]) k k':=by
 induction r with
 |nil k=>exact .fY h r1 (.nil _)
 |skip b r c=>first|exact .skip b (c h r1)|exact .skip b c
 |fY b d r c=>first|exact .fY b d (c h r1)|exact .fY b d c
theorem gC.kw{l:List cP}(r:gC l k k')(w:KW k):KW k':=by
 induction r with
 |nil k=>exact w
 |skip h r b=>exact b w
 |fY h r1 r b=>exact b (r1.kw w)
theorem YD(h:bT F w g a k)(hw:KW k)(e A B C D:Int):aG prog 169 #[.pointer g,e, .agg #[.int .i64 10,A, .int .i64 B,C,D]] w λr w'=>∃E k',gT k e 10 A B C D E k'/\gK F g k' (.int .i64 E) w r w':=by
 have H1:=aP (BxK.new h 10 A B C D);have P:aH (∀(E:Int) (k':Kv),wP k e A E k'->gT k e 10 A B C D E k'):=λE k' hr=>by unfold gT;rw[abQ aQ,abQ aQ,abQ aQ];exact hr
 have HW:=aP hw;clear h hw;go_enter func169,ntmps169
 go_upto_region 1 with(fail)
 generalize w.alloc (aI #[.int .i64 10,A, .int .i64 B,C,D] 281)=w1 at *;generalize w.heap.size=q1 at *;obtain⟨x0,x1,x2,x3,x4⟩:=H1.o.xs;have pc:=H1.o.m.pc;unfold pA at pc;cases hf:eX k.c e A with
 |none=>
  have HR2:aH (gT k e 10 A B C D 23 k):=P.o 23 k (by unfold wP;rw[hf];exact⟨rfl,rfl⟩);have HD:=aP (Gp (H1.o.below (Below.refl w1 w1).drew).m HW.o e A hf);clear hf P;go_upto_region 14 with(fail)
  go_region_held3 (λW=>W.cell? (g,2)=some (.pointer a.gc)/\W.cell? (q1,1)=some (.int .i64 A)) (first|exact⟨pc,x1⟩|exact⟨‹_›,‹_›⟩) ((go_at_call 149;(refine aR HD ?_);rintro x w3 ⟨rfl,h3,k3⟩;(have pc3:=h3.pc);(unfold pA at pc3);(have y1:=k3.cell x1 (.inr rfl));(have X:=aP ((H1.o.below (Below.refl w1 w1).drew).ret h3 k3).o);clear h3 k3))
  go_wp2_with fail
  go_ret
  exact⟨_,_,HR2.o,rfl,X.o.1,X.o.2⟩
 |some i=>
  have HR2:aH (∀L k',xY k L->gC (dC (bG k.c i).nu true L).2 (gY k (bG k.c i).nu true L) k'->gT k e 10 A B C D 0 k'):=λL k' hL hl=>P.o 0 _ (by unfold wP;rw[hf];exact⟨rfl,L,hL,hl⟩)
  have HD:=aP (Co (H1.o.below (Below.refl w1 w1).drew).m HW.o e A hf);clear hf P;go_upto_region 14 with(fail)
  go_region_held3 (λW=>W.cell? (g,2)=some (.pointer a.gc)/\W.cell? (q1,1)=some (.int .i64 A)) (first|exact⟨pc,x1⟩|exact⟨‹_›,‹_›⟩) ((go_at_call 149;(refine aR HD ?_);rintro x w3 ⟨A3,c3,L,rfl,T,ho3,h3,k3⟩;(have pc3:=h3.pc);(unfold pA at pc3);(have y1:=k3.cell x1 (.inr rfl));(have X:=dH T ho3 (And.intro h3 k3));clear T ho3 h3 k3))
  have Y:=xC (bG k.c i).nu true L;have hlen:(dC (bG k.c i).nu true L).2.length<=128:=abT Y.1 (by rw[X.o.1.1.length_eq];exact CU _);have hge:∀p∈(dC (bG k.c i).nu true L).2,0<=p.e:=λp hp=>LH (X.o.1.1.mem_iff.1 (Y.2 p hp))
  have HG:=aP (AI X.o.2.2.1 HW.o.t X.o.2.1 (λq hq=> .inr hq) aQ hge);have HR3:=aP (λk' hl=>HR2.o L k' X.o.1 hl);have HKW:aH (KW (gY k (bG k.c i).nu true L)):=HW.o.nD _ _ _;have HKD:aH ({{k with c:=iA k.c (dC (bG k.c i).nu true L).2} with t:=iI k.t (dC (bG k.c i).nu true L).2}=gY k (bG k.c i).nu true L):=rfl;clear Y hge;generalize gY k (bG k.c i).nu true L=kf at *;generalize (dC (bG k.c i).nu true L).2=S at *;obtain⟨m,hm⟩:∃m,m=S.length:=⟨_,rfl⟩
  have HMm:=aP hm;rw[<-hm] at HG hlen;rw[<-hm];have H3o:=bP X.o.2.1 X.o.2.2.2;clear hm X HR2 HD;go_wp2_with fail
  refine aR HG ?_;rintro x w4 ⟨rfl,h4,k4⟩;rw[HKD.o] at h4;have H4:aH (KM (cI (Fb F q1) A3) w4 g kf/\Kp F w w4/\∃B,bI oK 5 w4 B 156 A3 c3 S):=⟨h4,(H1.o.below (Below.refl w1 w1).drew).k.trans ((H3o.o.2.unbox).trans (k4.mono (λb hb=> .inl (.inl hb)))),_,H3o.o.1.kp k4 (λq hq=> .inr hq)⟩
  clear h4 k4 HG HKD H3o pc3 y1;go_wp2_with fail
  go_loopw [88] (λv88 wr=>∃j:Nat,v88= .int .i64 j/\j<=m/\aH (∃k',gC (S.take j) kf k'/\KM (cI (Fb F q1) A3) wr g k'/\Kp F w wr/\∃B,bI oK 5 wr B 156 A3 c3 S)) (λv88 _=>m - (aL v88).toNat)
  case atStart=>exact⟨0,rfl,abX _,kf, .nil kf,H4.o⟩
  case round=>
   clear H4;obtain⟨j,rfl,hj,HX⟩:=hrel;obtain⟨I,hL,⟨a1,h1⟩,hK,B1,T⟩:=HX.o;by_cases hjm:j<m
   .have N:j<S.length:=by rw[<-HMm.o];exact hjm
    obtain⟨q,rfl⟩:∃q,A3=some ⟨q,0,none⟩:=by
     rcases T.shape with⟨_,h2,_⟩|h2
     .rw[h2] at N;simp at N
     .exact h2
    have e0:=bN fX T N (j:=0) (v:= .int .i64 S[j].e) rfl;have e1:=bN fX T N (j:=1) (v:= .int .i64 S[j].s) rfl;have e2:=bN fX T N (j:=2) (v:= .int .i64 S[j].h.kd) rfl;have e3:=bN fX T N (j:=3) (v:= .int .i64 S[j].h.ob) rfl;have e4:=bN fX T N (j:=4) (v:= .int .i64 S[j].h.rt) rfl;rw[acC] at e0;have k0:(0:Int)<=j:=aQ;have k2:(j:Int)<(m:Int):=aQ;have htk:aH (S.take (j+1)=S.take j++ [S[j]]):=by unfold aH;rw[acV,abL N];rfl
    have HLS:aH (¬(S[j].h.kd=1/\kY I S[j].h.ob=false/\dM I.f S[j].h.ob=true)->gC (S.take j++ [S[j]]) kf I):=λhp=>hL.Be hp
    have HLL:aH (∀k',(S[j].h.kd=1/\kY I S[j].h.ob=false/\dM I.f S[j].h.ob=true)->kD I S[j].h.ob k'->gC (S.take j++ [S[j]]) kf k'):=λk' hp r=>hL.snoc hp r
    have HKW1:=aP (hL.kw HKW.o);generalize S[j]=y at *;obtain⟨y1,y2,U,J,y5,y6,y7⟩:=y;simp only at e0 e1 e2 e3 e4 HLS HLL;have hb3:=aX wr (aI #[y1,y2,U,J,y5] 156);have yb:=bE.new wr 156 #[y1,y2,U,J,y5];have M:aH (bT (cI (Fb F q1) (some ⟨q,0,none⟩)) (wr.alloc (aI #[y1,y2,U,J,y5] 156)) g a1 I/\Kp F w (wr.alloc (aI #[y1,y2,U,J,y5] 156))/\bI oK 5 (wr.alloc (aI #[y1,y2,U,J,y5] 156)) B1 156 (some ⟨q,0,none⟩) c3 S):=⟨(h1.below hb3).1,hK.trans ((h1.below hb3).2.mono (λb hb=> .inl (.inl hb))),T.keep hb3⟩
    clear hb3 h1 hK T hL HX;go_upto_region 21 with(fail)
    clear e0 e1 e2 e3 e4;generalize wr.alloc (aI #[y1,y2,U,J,y5] 156)=w5 at *;generalize wr.heap.size=q5 at *;have Z:=yb.cell 2 U rfl;have Q:=yb.cell 3 J rfl;have pf:=M.o.1.pf;unfold pA at pf;obtain⟨G,hfr,_⟩:=M.o.1.fr;have O:aH (∀W,aD w5 w5 W->aG prog 151 #[.pointer g,J] W λe w'=>e= .returned (.bool (kY I J))/\aD W.heap.size W w'):=λW hW=>QG (M.o.1.below hW).1 J
    have kH:aH (∀W,aD w5 w5 W->aG prog 14 #[.pointer a1.gf,J] W λe w'=>e= .returned (.bool (dM I.f J))/\W=w'):=λW hW=>uE I.f a1.gf J W (hfr.keep hW).1.m
    clear hfr;by_cases hc:U=1/\kY I J=false/\dM I.f J=true
    .obtain⟨H,K,R⟩:=hc;have HLL2:=aP (λk' r=>HLL.o k' ⟨H,K,R⟩ r);have hc1':(U==1)=true:=by simp[H]
     rw[K] at O;rw[R] at kH;clear H K R HLS HLL;(have n:=cC.cell pf;have d:=cC.cell Z;have l:=cC.cell Q;refine dG aV aV ?_;(repeat (go_big_quiet_step ((first|(go_at_call 151;with_reducible exact gR (O.o _ (cC.ok _)))|(go_at_call 14;with_reducible exact pI (kH.o _ (cC.ok _)))))));refine wpQuiet_nil ?_;clear n d l;intro V z;have u:=cC.below z;clear z)
     have z3:=bK u Q;have H6:=aP (M.o.1.below u);have HO6:=aP (M.o.2.2.keep u);have HLo:=aP (FD H6.o.1 HKW1.o J);clear u O kH Z Q pf yb;go_wp2_with fail
     refine aR HLo ?_;rintro x w7 ⟨k7,hL7,rfl,h7,kp7⟩;have H7:aH (∃k',gC (S.take (j+1)) kf k'/\KM (cI (Fb F q1) (some ⟨q,0,none⟩)) w7 g k'/\Kp F w w7/\∃B,bI oK 5 w7 B 156 (some ⟨q,0,none⟩) c3 S):=⟨k7,by rw[htk.o];exact HLL2.o k7 hL7,h7,M.o.2.1.trans ((H6.o.2.trans kp7).mono (λb hb=> .inl (.inl hb))),B1,HO6.o.kp kp7 (λr hr=> .inr hr)⟩
     clear hL7 h7 kp7 z3;go_wp2_with fail
     go_roundw
     case rel=>exact⟨j+1,by go_num,aQ,H7.o⟩
     case measure=>simp[aL];omega
    .have a6:=aP (HLS.o hc);clear HLS HLL;by_cases H:U=1
     .have hc1':(U==1)=true:=by simp[H]
      cases K:kY I J with
      |true=>
       rw[K] at O;clear hc H K;(have n:=cC.cell pf;have d:=cC.cell Z;have l:=cC.cell Q;refine dG aV aV ?_;(repeat (go_big_quiet_step ((first|(go_at_call 151;with_reducible exact gR (O.o _ (cC.ok _)))|(go_at_call 14;with_reducible exact pI (kH.o _ (cC.ok _)))))));refine wpQuiet_nil ?_;clear n d l;intro V z;have u:=cC.below z;clear z)
       have H7:aH (∃k',gC (S.take (j+1)) kf k'/\KM (cI (Fb F q1) (some ⟨q,0,none⟩)) V g k'/\Kp F w V/\∃B,bI oK 5 V B 156 (some ⟨q,0,none⟩) c3 S):=⟨I,by rw[htk.o];exact a6.o,⟨a1,(M.o.1.below u).1⟩,M.o.2.1.trans ((M.o.1.below u).2.mono (λb hb=> .inl (.inl hb))),B1,M.o.2.2.keep u⟩
       clear u;go_wp2_with fail
       go_roundw
       case rel=>exact⟨j+1,by go_num,aQ,H7.o⟩
       case measure=>simp[aL];omega
      |false=>
       have R:dM I.f J=false:=by
        cases ht:dM I.f J with
        |false=>rfl
        |true=>exact absurd ⟨H,K,ht⟩ hc
       rw[K] at O;rw[R] at kH;clear hc H K R;(have n:=cC.cell pf;have d:=cC.cell Z;have l:=cC.cell Q;refine dG aV aV ?_;(repeat (go_big_quiet_step ((first|(go_at_call 151;with_reducible exact gR (O.o _ (cC.ok _)))|(go_at_call 14;with_reducible exact pI (kH.o _ (cC.ok _)))))));refine wpQuiet_nil ?_;clear n d l;intro V z;have u:=cC.below z;clear z)
       have H7:aH (∃k',gC (S.take (j+1)) kf k'/\KM (cI (Fb F q1) (some ⟨q,0,none⟩)) V g k'/\Kp F w V/\∃B,bI oK 5 V B 156 (some ⟨q,0,none⟩) c3 S):=⟨I,by rw[htk.o];exact a6.o,⟨a1,(M.o.1.below u).1⟩,M.o.2.1.trans ((M.o.1.below u).2.mono (λb hb=> .inl (.inl hb))),B1,M.o.2.2.keep u⟩
       clear u;go_wp2_with fail
       go_roundw
       case rel=>exact⟨j+1,by go_num,aQ,H7.o⟩
       case measure=>simp[aL];omega
     .have hc1':(U==1)=false:=by simp[H]
      clear hc H;(have n:=cC.cell pf;have d:=cC.cell Z;have l:=cC.cell Q;refine dG aV aV ?_;(repeat (go_big_quiet_step ((first|(go_at_call 151;with_reducible exact gR (O.o _ (cC.ok _)))|(go_at_call 14;with_reducible exact pI (kH.o _ (cC.ok _)))))));refine wpQuiet_nil ?_;clear n d l;intro V z;have u:=cC.below z;clear z)
      have H7:aH (∃k',gC (S.take (j+1)) kf k'/\KM (cI (Fb F q1) (some ⟨q,0,none⟩)) V g k'/\Kp F w V/\∃B,bI oK 5 V B 156 (some ⟨q,0,none⟩) c3 S):=⟨I,by rw[htk.o];exact a6.o,⟨a1,(M.o.1.below u).1⟩,M.o.2.1.trans ((M.o.1.below u).2.mono (λb hb=> .inl (.inl hb))),B1,M.o.2.2.keep u⟩
      clear u;go_wp2_with fail
      go_roundw
      case rel=>exact⟨j+1,by go_num,aQ,H7.o⟩
      case measure=>simp[aL];omega
   .obtain rfl:j=m:=aQ;have k2:¬(j:Int)<(j:Int):=aQ;have hST:S.take j=S:=ab8 (by rw[<-HMm.o];exact abM _);rw[hST] at hL;have HE:aH (∃E k',gT k e 10 A B C D E k'/\gK F g k' (.int .i64 E) w (.returned (.int .i64 0)) wr):=⟨0,I,HR3.o I hL,rfl,⟨a1,h1.less (λb hb=> .inl (.inl hb))⟩,hK⟩
    clear hST hL h1 hK T HX;go_wp2_with fail
    go_ret
    exact HE.o
end
section
theorem Y3{a:Ka}(h:bT F w g a k)(hw:KW k)(e A B C D:Int):aG prog 174 #[.pointer g,e, .agg #[.int .i64 15,A,B,C,D]] w λr w'=>∃E k',mQ k e 15 C D E k'/\gK F g k' (.int .i64 E) w r w':=by
 have H1:=aP (BxK.new h 15 A B C D);have i:aH (mQ k e 15 C D (zH k.s e C D) {k with s:=qK k.s e C D}):=by unfold aH mQ;rw[abP rfl];exact⟨rfl,rfl⟩
 have J:=aP hw;clear h hw;go_enter func174,ntmps174
 go_upto_region 1 with(fail)
 generalize w.alloc (aI #[.int .i64 15,A,B,C,D] 281)=w1 at *;generalize w.heap.size=q1 at *;obtain⟨L,M,N,p,q⟩:=H1.o.xs;have ps:=H1.o.m.ps;unfold pA at ps;go_upto_region 3 with(fail)
 have b:=bD ps;have c:=bD p;have f:=bD q;refine bM (bQ _) (λ_=>bQ) [] (λ_ _ _=>True) [10,11] [[10,9,6], [10,9,8]] 50 (bZ _) (λ_ _ _ h t=>bV h t) (λ_ d hd _ v w w' _ h t=>by cases hd) aV aV bF ?_;repeat refine eK ?_
 refine dI ?_;intro γ w5 hb5 hT;clear b c f;simp only[cY,Act.put,abN,abU,abS];refine dS ?_;have n:=H1.o.below hb5;obtain⟨G,hc,back⟩:=n.m.sd;have HD:=aP (IL hc J.o.sd e C D);have u:=aP back;have y:=aP n;clear hc back n hb5 hT H1 L M N p q ps;generalize zH k.s e C D=rE at *;generalize qK k.s e C D=rV at *;refine wpList_plain rfl (λK hK=>?_);go_wp2_with fail
 refine aR HD ?_;rintro x O ⟨rfl,j,l⟩;obtain⟨z,H⟩:=u.o _ _ j l;have I:=aP (y.o.ret z H).o;clear j l z H u HD y;refine hK _ _ ?_;clear hK K;refine wpList_plain rfl (λK hK=>?_);go_simp
 refine hK _ _ ?_;clear hK K;refine cN ?_;try refine dE ?_
 go_wp2_with fail
 go_ret
 exact⟨_,_,i.o,rfl,I.o.1,I.o.2⟩
theorem Y4{a:Ka}(h:bT F w g a k)(hw:KW k)(e A B C D:Int):aG prog 174 #[.pointer g,e, .agg #[.int .i64 16,A,B,C,D]] w λr w'=>∃E k',mQ k e 16 C D E k'/\gK F g k' (.int .i64 E) w r w':=by
 have H1:=aP (BxK.new h 16 A B C D);have b:aH (mQ k e 16 C D (zN k.s e) {k with s:=sD k.s e}):=by unfold aH mQ;rw[abQ aQ,abP rfl];exact⟨rfl,rfl⟩
 have n:=aP hw;clear h hw;go_enter func174,ntmps174
 go_upto_region 1 with(fail)
 generalize w.alloc (aI #[.int .i64 16,A,B,C,D] 281)=w1 at *;generalize w.heap.size=q1 at *;obtain⟨p,q,t,u,v⟩:=H1.o.xs;have ps:=H1.o.m.ps;unfold pA at ps;obtain⟨G,hc,back⟩:=H1.o.m.sd;have HD:=aP (ID hc n.o.sd e);have f:=aP back;clear hc back;go_wp2_with fail
 refine aR HD ?_;rintro x y ⟨rfl,c,d⟩;obtain⟨i,j⟩:=f.o _ _ c d;have l:=aP (H1.o.ret i j).o;clear c d i j f HD H1;go_wp2_with fail
 go_ret
 exact⟨_,_,b.o,rfl,l.o.1,l.o.2⟩
end
section
theorem Py{a:Ka}(h:bT F w g a k)(e:Int)(he:0<=e/\e<8):aG prog 220 #[.pointer a.gr,e] w λx w'=>∃(O:Option aJ) (m d:Nat) (u:Int),x= .returned (.tuple #[(O,m,d),u])/\bT F w' g a k/\Kp F w w':=by
 obtain⟨G,⟨C,⟨R,h1,c,f⟩,h8,hl⟩,back⟩:=h.rw;obtain⟨n,rfl⟩:=abR he.1;have b:n<R.length:=by rw[h1.len];omega
 have hC:(vI R[n]).L.length<=8:=hl _ (by rw[<-c];exact af6 (abV b));refine(Qa a.gr n aQ R w h1 b hC).mono ?_;rintro x w' ⟨O,d,rfl,_,hb⟩;exact⟨O,_,d,_,rfl,(h.below hb).1,(h.below hb).2⟩
theorem DC{a:Ka}(h:bT F w g a k)(hw:KW k)(e:Int)(b:Bool):aG prog 43 #[.pointer a.gs,e,b] w λx w'=>x= .returned (.int .i64 (B9 k.s e))/\bT F w' g a {k with s:=jZ k.s e b}/\Kp F w w':=by
 obtain⟨G,hs,back⟩:=h.sd;refine(xD hs hw.p8 e b).mono ?_;rintro x w' ⟨rfl,c,d⟩;exact⟨rfl,(back _ _ c d).1,(back _ _ c d).2⟩
theorem YP{a:Ka}(h:bT F w g a k)(hw:KW k)(e:Int)(he:0<=e/\e<8)(A B C D:Int):aG prog 174 #[.pointer g,e, .agg #[.int .i64 19,A,B,C,D]] w λr w'=>∃E k',mQ k e 19 C D E k'/\gK F g k' (.int .i64 E) w r w':=by
 have H1:=aP (BxK.new h 19 A B C D);have b:aH (∀(E:Int) (k':Kv),(k'=k\/k'={k with s:=jZ k.s e false})->mQ k e 19 C D E k'):=λE k' z=>by unfold mQ;rw[abQ aQ,abQ aQ];exact z
 have G:=aP hw;have i:=aP he;clear h hw he;go_enter func174,ntmps174
 go_upto_region 1 with(fail)
 generalize w.alloc (aI #[.int .i64 19,A,B,C,D] 281)=w1 at *;generalize w.heap.size=q1 at *;obtain⟨J,K,L,M,N⟩:=H1.o.xs;have pr:=H1.o.m.pr;unfold pA at pr;have l:=aP (Py H1.o.m e i.o);go_wp2_with fail
 refine aR l ?_;rintro x H ⟨O,m,d,u,rfl,n,p⟩;have f:=aP (H1.o.ret n p);clear n p l H1 pr;have ps:=f.o.m.ps;unfold pA at ps;have q:=aP (DC f.o.m G.o e false);by_cases hm:0<m
 .have j:(0:Int)<(m:Int):=aQ;have I:aH (∃E k',mQ k e 19 C D E k'/\gK F g k' (.int .i64 E) w (.returned (.int .i64 25)) H):=⟨25,k,b.o _ _ (.inl rfl),rfl,f.o.o.1,f.o.o.2⟩
  go_wp2_with fail
  go_ret
  exact I.o
 .have j:¬(0:Int)<(m:Int):=aQ;generalize B9 k.s e=rE at *;have c:=aP (b.o rE _ (.inr rfl));clear b;go_wp2_with fail
  refine aR q ?_;rintro x P ⟨rfl,t,v⟩;have y:=aP (f.o.ret t v).o;clear t v q f ps;go_wp2_with fail
  go_ret
  exact⟨_,_,c.o,rfl,y.o.1,y.o.2⟩
theorem Ar{a:Ka}(h:bT F w g a k)(hw:KW k)(e s v:Int):aG prog 172 #[.pointer g,e,s,v] w λr w'=>∃E k',(k'=k\/∃o,k'=dQ k o)/\gK F g k' (.int .i64 E) w r w':=by
 obtain⟨G,i,_⟩:=h.cp;have f:=lB i e s 3 2;have pc:=h.pc;unfold pA at pc;have m:=aP h;have A:=aP hw;clear h i hw;cases hq:jK k.c e s 3 2 with
 |none=>
  rw[hq] at f;have f:=aP f;clear hq;go_enter func172,ntmps172
  go_wp2_with fail
  refine aR f ?_;rintro r n ⟨rfl,b⟩;simp only[mB,adO];have p:aH (∃E k',(k'=k\/∃o,k'=dQ k o)/\gK F g k' (.int .i64 E) w (.returned (.int .i64 23)) (n.alloc (aI #[aU,aU,aU] 154))):=by
   have d:=b.alloc b.size (aI #[aU,aU,aU] 154);exact⟨23,k, .inl rfl,rfl,⟨a,(m.o.below d).1⟩,(m.o.below d).2⟩
  clear b;go_wp2_with fail
  go_ret
  exact p.o
 |some x=>
  rw[hq] at f;have f:=aP f;clear hq;obtain⟨q,j,t,H,I⟩:=x;go_enter func172,ntmps172
  go_wp2_with fail
  refine aR f ?_;rintro r n ⟨rfl,b⟩;simp only[mB,adN];have d:=b.alloc b.size (aI #[q,j,t] 154);have yb:=bE.new n 154 #[q,j,t];have y:=aP (m.o.below d);have B:=yb.cell 1 j rfl;clear b d pc yb;have C:=aP (tU y.o.1 A.o.p8 j 7 e (IntKind.u64.wrap v) aQ);go_wp2_with fail
  refine aR C ?_;rintro r D ⟨u,rfl,z,l⟩;have p:aH (∃E k',(k'=k\/∃o,k'=dQ k o)/\gK F g k' (.int .i64 E) w (.returned (.int .i64 u)) D):=⟨u,_, .inr ⟨j,rfl⟩,rfl,⟨a,z⟩,y.o.2.trans l⟩
  clear z l B;go_wp2_with fail
  go_ret
  exact p.o
end
section
theorem OD{a:Ka}(h:bT F w g a k)(i:Int)(m:Bool):aG prog 195 #[.pointer a.gi,i,m] w λx w'=>∃v:Int,x= .returned (.int .i64 v)/\KM F w' g k/\Kp F w w':=by
 obtain⟨G,hi,back⟩:=h.ir;refine(P1 hi i m).mono ?_;rintro x w' ⟨v,L,rfl,hl,b,c⟩;exact⟨v,rfl,⟨_,(back L _ hl b c).1⟩,(back L _ hl b c).2⟩
theorem Hs{a:Ka}(h:bT F w g a k)(i:Int):aG prog 196 #[.pointer a.gi,i] w λx w'=>∃v:Int,x= .returned (.int .i64 v)/\KM F w' g k/\Kp F w w':=by
 obtain⟨G,hi,back⟩:=h.ir;refine(TY hi i).mono ?_;rintro x w' ⟨v,L,rfl,hl,b,c⟩;exact⟨v,rfl,⟨_,(back L _ hl b c).1⟩,(back L _ hl b c).2⟩
theorem D2{a:Ka}(h:bT F w g a k)(e op A B C D:Int)(hop:11<=op/\op<=13):aG prog 170 #[.pointer g,e, .agg #[op,A,B,C,D]] w λr w'=>∃E:Int,gK F g k (.int .i64 E) w r w':=by
 have H1:=aP (BxK.new h op A B C D);have Z:=aP hop;clear h hop;go_enter func170,ntmps170
 go_upto_region 1 with(fail)
 generalize w.alloc (aI #[op,A,B,C,D] 281)=w1 at *;generalize w.heap.size=q1 at *;obtain⟨x0,x1,x2,x3,x4⟩:=H1.o.xs;have pc:=H1.o.m.pc;unfold pA at pc;have s:∀W,aD w1 w1 W->aG prog 207 #[.pointer a.gc,e,A, .int .i64 2, .int .i64 2] W λx w'=>x= .returned (.tuple #[mB (jK k.c e A 2 2), .bool (jK k.c e A 2 2).isSome])/\aD W.heap.size W w':=λW hW=>by
  obtain⟨G,hcp,_⟩:=(H1.o.m.below hW).1.cp;exact lB hcp e A 2 2
 cases hq:jK k.c e A 2 2 with
 |none=>
  rw[hq] at s;have HH:=aP s;clear hq s;simp only[mB,adO] at HH;have i:=bD pc;have j:=bD x1;refine bM (bQ _) (λ_=>bQ) [7] (λ_ v w=>FE (jM pc) 154 #[aU,aU,aU] v w) [12] [] 66 (bZ _) (λ_ _ _ h p=>bV h p) (λ_ d hd _ v w w' _ h p=>h.keep p) aV aV bF ?_;repeat (first|(refine CS bF ?_;(try refine dE ?_))|(refine yR bF bF bF bF bF (λK hK=>?_);go_big_quiet_op;refine hK _ ?_;clear hK K)|(refine ME bF bF bF bF bF bF (λK hK=>?_);go_big_quiet_op;refine hK _ ?_;clear hK K)|(refine F8 bF bF bF ?_;(try refine dE ?_))|(refine yO bF bF bF bF bF (λK hK=>?_);go_simp;(try simp only[FI,adJ]);first|(apply Exists.intro;refine⟨λn=>?_,hK _ ?_⟩;(with_reducible exact J0 (HH.o _ (RU n)));clear hK K;(try refine dE ?_))|(apply Exists.intro;refine⟨λn=>rfl,hK _ ?_⟩;clear hK K;(try refine dE ?_)))|(refine sC 7 [] bF bF bF bF (λγ w hC t=>?_) ?_;(simp only[cY];go_simp;exact pB (aX w _) ⟨_,rfl,Below.size hC,bE.new w _ _⟩);(try refine dE ?_)))
  refine dI ?_;intro γ w_ hb_ t;clear i j;simp only[cY,Act.put,abN,abU,abS];refine dS ?_;obtain⟨g7,e_,z,H⟩:=t 7 aT;simp only[e_];clear t e_;refine iO z hb_ H rfl 154 _ _ rfl #[aU,aU,aU] rfl rfl rfl aV aV ?_;clear z hb_ H;intro w5 u I;refine cN ?_;simp only[Act.put];have HE:=aP (H1.o.below u).o;clear u;go_wp2_with fail
  go_ret
  exact⟨23,rfl,HE.o.1,HE.o.2⟩
 |some x=>
  rw[hq] at s;have HH:=aP s;clear hq s;obtain⟨r1,S,r3,r4,r5⟩:=x;simp only[mB,adN] at HH;have i:=bD pc;have j:=bD x1;refine bM (bQ _) (λ_=>bQ) [7] (λ_ v w=>FE (jM pc) 154 #[aU,aU,aU] v w) [12] [] 66 (bZ _) (λ_ _ _ h p=>bV h p) (λ_ d hd _ v w w' _ h p=>h.keep p) aV aV bF ?_;repeat (first|(refine CS bF ?_;(try refine dE ?_))|(refine yR bF bF bF bF bF (λK hK=>?_);go_big_quiet_op;refine hK _ ?_;clear hK K)|(refine ME bF bF bF bF bF bF (λK hK=>?_);go_big_quiet_op;refine hK _ ?_;clear hK K)|(refine F8 bF bF bF ?_;(try refine dE ?_))|(refine yO bF bF bF bF bF (λK hK=>?_);go_simp;(try simp only[FI,adJ]);first|(apply Exists.intro;refine⟨λn=>?_,hK _ ?_⟩;(with_reducible exact J0 (HH.o _ (RU n)));clear hK K;(try refine dE ?_))|(apply Exists.intro;refine⟨λn=>rfl,hK _ ?_⟩;clear hK K;(try refine dE ?_)))|(refine sC 7 [] bF bF bF bF (λγ w hC t=>?_) ?_;(simp only[cY];go_simp;exact pB (aX w _) ⟨_,rfl,Below.size hC,bE.new w _ _⟩);(try refine dE ?_)))
  refine dI ?_;intro γ w_ hb_ t;clear i j;simp only[cY,Act.put,abN,abU,abS];refine dS ?_;obtain⟨g7,e_,z,H⟩:=t 7 aT;simp only[e_];clear t e_;refine iO z hb_ H rfl 154 _ _ rfl #[r1,S,r3] rfl rfl rfl aV aV ?_;clear z hb_ H;intro w5 u I;refine cN ?_;simp only[Act.put];have y1:=I.2.cell 1 S rfl;have J:aH (bT (cI (Fb F q1) g7) w5 g a k/\BxK F w w5 q1 g a k op A B C D):=⟨(bT.cH g a k).row H1.o.m H1.o.m.fl u (λq hq=>by
   injection hq with hq;subst hq;exact⟨I.1,I.2.lt⟩),H1.o.below u⟩
  have T:aH (∀N,KM (cI (Fb F q1) g7) N g k->Kp (cI (Fb F q1) g7) w5 N->KM F N g k/\Kp F w N):=λN hm kp=>⟨hm.less (λb hb=> .inl (.inl hb)),J.o.2.k.trans (kp.mono (λb hb=> .inl (.inl hb)))⟩
  obtain⟨x0,x1,x2,x3,x4⟩:=J.o.2.xs;clear u I HH H1 pc;by_cases O:op=11
  .subst O;have HB:=aP (NC J.o.1 S e);clear Z;go_wp2_with fail
   refine aR HB ?_;rintro x N ⟨rfl,⟨a6,h6⟩,k6⟩;have y16:=k6.cell y1 (.inr rfl);have pi:=h6.pi;unfold pA at pi;have H6:=bP h6 k6;clear h6 k6 HB y1 x0 x1 x2 x3 x4;go_upto_region 6 with(fail)
   have f:=bD pi;have L:=bD y16;refine bM (bQ _) (λ_=>bQ) [] (λ_ _ _=>True) [6] [] 66 (bZ _) (λ_ _ _ h p=>bV h p) (λ_ d hd _ v w w' _ h p=>by cases hd) aV aV bF ?_;repeat refine eK ?_
   refine dI ?_;intro γ w7 hb7 t;clear f L;simp only[cY,Act.put,abN,abU,abS];refine dS ?_;have M:=H6.o.1.below hb7;have HD:=aP (OD M.1 S false);have U:=aP (H6.o.2.trans M.2);clear M hb7 t H6 pi y16;refine wpList_plain rfl (λK hK=>?_);go_wp2_with fail
   refine aR HD ?_;rintro x w8 ⟨v,rfl,V,X⟩;have Y:=aP (T.o _ V (U.o.trans X));clear V X U HD T;refine hK _ _ ?_;clear hK K;refine cN ?_;try refine dE ?_
   go_wp2_with fail
   go_ret
   exact⟨0,rfl,Y.o.1,Y.o.2⟩
  .have h11':(op==11)=false:=by simp[O]
   have y:=aP (CX J.o.1 S);have HQ:=aP (T.o _ ⟨a,J.o.1⟩ (Kp.refl _ _));generalize FM a S=bv at *;by_cases P:bv=e
   .have hbv':(bv !=e)=false:=by simp[P]
    clear P HQ;have pi:=J.o.1.pi;unfold pA at pi;by_cases Q:op=12
    .have h12':(op==12)=true:=by simp[Q]
     clear Q O Z;go_wp2_with fail
     refine aR y ?_;rintro x N ⟨rfl,rfl⟩;clear y;go_upto_region 11 with(fail)
     have f:=bD pi;have l:=bD y1;refine bM (bQ _) (λ_=>bQ) [] (λ_ _ _=>True) [6,7] [] 66 (bZ _) (λ_ _ _ h p=>bV h p) (λ_ d hd _ v w w' _ h p=>by cases hd) aV aV bF ?_;repeat refine eK ?_
     refine dI ?_;intro γ w7 hb7 t;clear f l;simp only[cY,Act.put,abN,abU,abS];refine dS ?_;have M:=J.o.1.below hb7;have HD:=aP (Hs M.1 S);have U:=aP M.2;clear M hb7 t J pi y1 x0 x1 x2 x3 x4;refine wpList_plain rfl (λK hK=>?_);go_wp2_with fail
     refine aR HD ?_;rintro x w8 ⟨v,rfl,V,X⟩;have Y:=aP (T.o _ V (U.o.trans X));clear V X U HD T;refine hK _ _ ?_;clear hK K;refine wpList_plain rfl (λK hK=>?_);go_simp
     refine hK _ _ ?_;clear hK K;refine cN ?_;try refine dE ?_
     go_wp2_with fail
     go_ret
     exact⟨v,rfl,Y.o.1,Y.o.2⟩
    .have h12':(op==12)=false:=by simp[Q]
     clear Q O Z;by_cases hB1:1<B
     .have HQ:=aP (T.o _ ⟨a,J.o.1⟩ (Kp.refl _ _));go_wp2_with fail
      refine aR y ?_;rintro x N ⟨rfl,rfl⟩;go_wp2_with fail
      go_ret
      exact⟨1,rfl,HQ.o.1,HQ.o.2⟩
     .go_wp2_with fail
      refine aR y ?_;rintro x N ⟨rfl,rfl⟩;clear y;go_upto_region 14 with(fail)
      have f:=bD pi;have l:=bD y1;have R:=bD x2;refine bM (bQ _) (λ_=>bQ) [] (λ_ _ _=>True) [9,10] [[9,8,7]] 66 (bZ _) (λ_ _ _ h p=>bV h p) (λ_ d hd _ v w w' _ h p=>by cases hd) aV aV bF ?_;repeat refine eK ?_
      refine dI ?_;intro γ w7 hb7 t;clear f l R;simp only[cY,Act.put,abN,abU,abS];refine dS ?_;have M:=J.o.1.below hb7;have HD:=aP (OD M.1 S (B==1));have U:=aP M.2;clear M hb7 t J pi y1 x0 x1 x2 x3 x4;refine wpList_plain rfl (λK hK=>?_);go_wp2_with fail
      refine aR HD ?_;rintro x w8 ⟨v,rfl,V,X⟩;have Y:=aP (T.o _ V (U.o.trans X));clear V X U HD T;refine hK _ _ ?_;clear hK K;refine wpList_plain rfl (λK hK=>?_);go_simp
      refine hK _ _ ?_;clear hK K;refine cN ?_;try refine dE ?_
      go_wp2_with fail
      go_ret
      exact⟨v,rfl,Y.o.1,Y.o.2⟩
   .have hbv':(bv !=e)=true:=by simp[P]
    clear P;go_wp2_with fail
    refine aR y ?_;rintro x N ⟨rfl,rfl⟩;go_wp2_with fail
    go_ret
    exact⟨25,rfl,HQ.o.1,HQ.o.2⟩
end
variable{e:Int}
section
theorem WL{a:Ka}(h:bT F w g a k)(hw:KW k)(e o nw gr:Int):aG prog 105 #[.pointer a.gb,e,o,nw,gr] w λx w'=>x= .returned (.int .i64 (gU k.b e o nw gr).1)/\bT F w' g a {k with b:=(gU k.b e o nw gr).2}/\Kp F w w':=by
 obtain⟨G,hb,back⟩:=h.bo;unfold gU;by_cases c:wW e o nw gr
 .rw[abP c];refine(Hy e o nw gr hb (by have:=hw.b;omega) c).mono ?_;rintro x w' ⟨rfl,d,f⟩;by_cases hp:0<=qW k.b e o
  .rw[abP hp] at d⊢;rw[abP hp];exact⟨rfl,(back _ _ _ d f).1,(back _ _ _ d f).2⟩
  .rw[abQ hp] at d⊢;rw[abQ hp];exact⟨rfl,(back _ _ _ d f).1,(back _ _ _ d f).2⟩
 .rw[abQ c];refine(Fa e o nw gr w c).mono ?_;rintro x w' ⟨rfl,rfl⟩;exact⟨rfl,h,Kp.refl _ _⟩
theorem D6{o gr:Int}(h:oC e=false\/o<0\/6<=o):gZ k e o gr=(1,k):=by
 unfold gZ;rw[abP (by simpa using h)]
theorem U7{o gr:Int}(h1:oC e=true)(a:¬o<0)(c:¬6<=o):gZ k e o gr=if eV k e o= [] then(23,k) else
 if(gU k.b e o k.s.nw gr).1≠0 then((gU k.b e o k.s.nw gr).1,k) else(0,dQ {k with b:=(gU k.b e o k.s.nw gr).2} e):=by
 unfold gZ;rw[abQ (by simp[h1];omega)]
theorem WS{L:List Nt}{o nw gr:Int}(h:(gU L e o nw gr).1≠0):(gU L e o nw gr).2=L:=by
 unfold gU at h⊢;split
 .rename_i h1;rw[abP h1] at h;split
  .rfl
  .rename_i a;rw[abQ a] at h;exact absurd rfl h
 .rfl
theorem XP{a:Ka}(h:bT F w g a k)(e o:Int):aG prog 104 #[.pointer g,e,o] w λx w'=>∃A c,x= .returned (.slice A (eV k e o).length c)/\aD w w w':=by
 refine(CV h e o).mono ?_;rintro x w' ⟨A,c,rfl,_,hb⟩;exact⟨A,c,rfl,hb⟩
theorem Bc{a:Ka}(h:bT F w g a k)(hw:KW k)(e o gr:Int):aG prog 75 #[.pointer g,e,o,gr] w λr w'=>gK F g (gZ k e o gr).2 (.int .i64 (gZ k e o gr).1) w r w':=by
 obtain⟨c7,_,_⟩:=h.MA;have ps:=h.ps;have pb:=h.pb;unfold pA at ps pb;have j:=aP (CH h e);have u:=aP h;have J:=aP hw;have y:=aP (XP h e o);clear h hw;cases l:oC e with
 |false=>
  have d:aH (gZ k e o gr=(1,k)):=D6 (.inl l);rw[l] at j;clear l;generalize gZ k e o gr=rk at *;go_enter func75,ntmps75
  go_wp2_with fail
  refine aR j ?_;rintro x D ⟨rfl,rfl⟩;go_wp2_with fail
  go_ret
  rw[d.o];exact⟨rfl,⟨a,u.o⟩,Kp.refl _ _⟩
 |true=>
  rw[l] at j;by_cases h1:o<0
  .have d:aH (gZ k e o gr=(1,k)):=D6 (.inr (.inl h1));clear l;generalize gZ k e o gr=rk at *;go_enter func75,ntmps75
   go_wp2_with fail
   refine aR j ?_;rintro x D ⟨rfl,rfl⟩;go_wp2_with fail
   go_ret
   rw[d.o];exact⟨rfl,⟨a,u.o⟩,Kp.refl _ _⟩
  by_cases K:6<=o
  .have d:aH (gZ k e o gr=(1,k)):=D6 (.inr (.inr K));clear l;generalize gZ k e o gr=rk at *;go_enter func75,ntmps75
   go_wp2_with fail
   refine aR j ?_;rintro x D ⟨rfl,rfl⟩;go_wp2_with fail
   go_ret
   rw[d.o];exact⟨rfl,⟨a,u.o⟩,Kp.refl _ _⟩
  have f:=aP (U7 (k:=k) (gr:=gr) l h1 K);generalize gZ k e o gr=rk at *;clear l;by_cases hs:eV k e o= []
  .have d:aH (rk=(23,k)):=by unfold aH;rw[f.o,abP hs]
   rw[hs] at y;clear hs f;simp only[ac2] at y;go_enter func75,ntmps75
   go_wp2_with fail
   refine aR j ?_;rintro x D ⟨rfl,rfl⟩;go_wp2_with fail
   refine aR y ?_;rintro x P ⟨A,c,rfl,hb⟩;have n:=aP (u.o.below hb);clear hb;go_wp2_with fail
   go_ret
   rw[d.o];exact⟨rfl,⟨a,n.o.1⟩,n.o.2⟩
  .have i:aH (rk=if(gU k.b e o k.s.nw gr).1≠0 then((gU k.b e o k.s.nw gr).1,k) else(0,dQ {k with b:=(gU k.b e o k.s.nw gr).2} e)):=by unfold aH;rw[f.o,abQ hs]
   have hl:¬((eV k e o).length:Int)=0:=by
    intro S;exact hs (List.length_eq_zero_iff.1 aQ)
   have Q:(((eV k e o).length:Int)==0)=false:=by rw[af7];exact hl
   clear hs f hl;generalize (eV k e o).length=m at *;go_enter func75,ntmps75
   go_wp2_with fail
   refine aR j ?_;rintro x D ⟨rfl,rfl⟩;go_wp2_with fail
   refine aR y ?_;rintro x P ⟨A,c,rfl,hb⟩;have E:=bK hb ps;have H:=bK hb pb;have q:=aP (u.o.below hb);clear hb ps pb c7 y j;obtain⟨G,z,_⟩:=q.o.1.sd;have I:=aP (tV z);clear z;go_wp2_with fail
   refine aR I ?_;rintro x T ⟨rfl,rfl⟩;have t:=aP (WL q.o.1 J.o e o k.s.nw gr);by_cases p:(gU k.b e o k.s.nw gr).1=0
   .have d:aH (rk=(0,dQ {k with b:=(gU k.b e o k.s.nw gr).2} e)):=by unfold aH;rw[i.o,abQ (by simpa using p)]
    rw[p] at t;clear p i;generalize (gU k.b e o k.s.nw gr).2=L2 at *;go_wp2_with fail
    refine aR t ?_;rintro x w5 ⟨rfl,B,C⟩;have L:=aP (tU B J.o.p8 e 5 o (IntKind.u64.wrap (wrap64 (k.s.nw+gr))) aQ);have M:=aP (q.o.2.trans C);clear B C t I q E H;go_wp2_with fail
    refine aR L ?_;rintro x U ⟨v,rfl,N,O⟩;have n:=bP N (M.o.trans O);clear N O L M;go_wp2_with fail
    go_ret
    rw[d.o];exact⟨rfl,⟨a,n.o.1⟩,n.o.2⟩
   .have d:aH (rk=((gU k.b e o k.s.nw gr).1,k)):=by unfold aH;rw[i.o,abP p]
    rw[WS p] at t;have R:((gU k.b e o k.s.nw gr).1 !=0)=true:=by simp[p]
    clear p i;generalize (gU k.b e o k.s.nw gr).1=v2 at *;go_wp2_with fail
    refine aR t ?_;rintro x w5 ⟨rfl,B,C⟩;have n:=bP B (q.o.2.trans C);clear B C t I q;go_wp2_with fail
    go_ret
    rw[d.o];exact⟨rfl,⟨a,n.o.1⟩,n.o.2⟩
end
end
section
open Go.RowKit Go.Lib Go.Shelf
variable{F:Nat->Prop}{w:aA}{g n:Nat}
section
theorem Hz{y:Wa}(h:dK F w g n y):aG prog 218 #[.pointer g] w λe w'=>e= .returned (.int .i64 y.nw)/\w=w':=by
 have c0:=h.c0;have c1:=h.c1;clear h;go_enter func218,ntmps218
 go_wp2_with fail
 go_ret
 exact⟨rfl,rfl⟩
theorem WZ(n:Int)(a:0<=n)(h₁:n<2 ^ 63):IntKind.i64.wrap n=n:=by rw[IntKind.wrap_i64];omega
theorem Wj(x:Int)(a:0<=x)(h1:x<9223372036854775808):bits .and .i64 x 63=x%64:=by
 simpa using bits_mask .i64 63 cE WZ 6 cE x a (by simpa using h1)
theorem lM(x:Int)(a:0<=x)(h1:x<9223372036854775808):(x%64).toNat<=63/\bits .and .i64 x 63=(((x%64).toNat:Nat):Int):=by
 rw[Wj x a h1];omega
theorem KN{y:Wa}(h:dK F w g n y)(at_:Int)(a:0<=at_/\at_<=2097152):aG prog 229 #[.pointer g,at_] w λe w'=>(∃l s:Nat,l<=3/\s<=63/\e= .returned (.tuple #[l,s]))/\aD w w w':=by
 have c1:=h.c1;generalize y.nw=nw at *;clear h;go_enter func229,ntmps229
 go_wp2_with fail
 refine wp_loop_rounds 4 ?_;rw[rounds_succ];go_upto_region 1 with(fail)
 go_quiet (fail)
 go_wp2_with fail
 rotate_left
 .go_quiet (fail)
  go_wp2_with fail
  go_ret2
  exact⟨⟨0,(at_%64).toNat,aQ,(lM at_ aQ aQ).1,by first|rfl|simp[(lM at_ aQ aQ).2]⟩,by repeat first|exact Below.refl _ _|refine fN ?_ _⟩
 rw[rounds_succ];go_upto_region 1 with(fail)
 go_quiet (fail)
 go_wp2_with fail
 rotate_left
 .go_quiet (fail)
  go_wp2_with fail
  go_ret2
  exact⟨⟨1,((at_ /64)%64).toNat,aQ,(lM (at_ /64) aQ aQ).1,by first|rfl|simp[(lM (at_ /64) aQ aQ).2]⟩,by repeat first|exact Below.refl _ _|refine fN ?_ _⟩
 rw[rounds_succ];go_upto_region 1 with(fail)
 go_quiet (fail)
 go_wp2_with fail
 rotate_left
 .go_quiet (fail)
  go_wp2_with fail
  go_ret2
  exact⟨⟨2,((at_ /4096)%64).toNat,aQ,(lM (at_ /4096) aQ aQ).1,by first|rfl|simp[(lM (at_ /4096) aQ aQ).2]⟩,by repeat first|exact Below.refl _ _|refine fN ?_ _⟩
 rw[rounds_succ];go_upto_region 1 with(fail)
 go_quiet (fail)
 go_wp2_with fail
 go_quiet (fail)
 go_wp2_with fail
 go_ret2
 exact⟨⟨3,((at_ /262144)%64).toNat,aQ,(lM (at_ /262144) aQ aQ).1,by first|rfl|simp[(lM (at_ /262144) aQ aQ).2]⟩,by repeat first|exact Below.refl _ _|refine fN ?_ _⟩
end
variable{w':aA}{i m:Nat}{A:Option aJ}
section
theorem dK.rowAt{y:Wa}(h:dK F w g n y)(hi:i<y.R.length){c:Nat}{xs:List Int}(ho:bI eI 1 w' 0 3 A c xs)(e:w.grownBy w' (aY y.R[i].A))(ha:aY A=aY y.R[i].A\/aY A=some w.heap.size):
 w'.cell? (g,4+i)=some (rY y.R[i])/\w'.frozen? (g,4+i)=false:=by
 obtain⟨G,f,back⟩:=Ob.use h.o (2+i) _ (GG hi);have a:gP eI 1 3 y.R[i].A y.R[i].c y.R[i].xs G w:=f;obtain⟨t1,t2⟩:=a.eY ho e ha;obtain⟨b1,b2⟩:=back (QF ⟨A,c,xs⟩) w' t1 t2;rw[LX] at b1;obtain⟨j,d,_⟩:=Ob.use b1 0 _ rfl;have hb:mR g 339 (vO y).toArray j w':=d;refine⟨hb.b.cell (4+i) _ ?_,hb.b.frozen _⟩;rw[ab5,vO,abZ aT];simp[hi]
theorem DE{y:Wa}(h:dK F w g n y)(d:Du)(hd:0<=d.at_/\d.at_<=2097152)(hm:n<=m)(hs:iC y.R+1<=m)(x:m<=1000000):
 aG prog 187 #[.pointer g, .agg #[d.at_,d.hd,d.wh]] w λe w'=>e= .returned (.tuple #[])/\∃R,dK F w' g m {y with R:=R}/\iC R=iC y.R+1/\Kp F w w':=by
 obtain⟨z,j,H⟩:=d;have u:=aX w (aI #[z,j,H] 274);have I:=bE.new w 274 #[z,j,H];have H1:=aP (h.below u);have P:=aP (KN (h.below u).1 z hd);have E:=dH hm hs x;clear h hm hs x u;go_enter func187,ntmps187
 go_upto_region 1 with(fail)
 generalize w.alloc (aI #[z,j,H] 274)=w1 at *;generalize w.heap.size=q1 at *;have T:=I.cell 0 z rfl;go_wp2_with fail
 refine aR P ?_;rintro e b ⟨⟨l,s,hl,hs,rfl⟩,v⟩;have k:=H1.o.1.below v;have hlen:y.R.length=256:=k.1.i.len;have hi:l *64+s<y.R.length:=aQ;have U:=aP (I.keep v);have l0:¬(l:Int)<0:=aQ;have Z:(l:Int)<4:=aQ;have s0:¬(s:Int)<0:=aQ;have V:(s:Int)<64:=aQ;have G:aH (∀W,aD b b W->W.cell? (g,4+l *64+s)=some (rY (y.R[l *64+s]'hi))/\W.frozen? (g,4+l *64+s)=false/\bI eI 1 W 0 3 (y.R[l *64+s]'hi).A (y.R[l *64+s]'hi).c (y.R[l *64+s]'hi).xs):=λW t=>⟨by rw[show 4+l *64+s=4+(l *64+s) by omega];exact(k.1.below t).1.cr hi,(k.1.below t).1.fz _,(k.1.below t).1.row hi⟩
 have B:=aX b.drew (aI #[j] 3);have f:aH (aD b b (b.drew.alloc (aI #[j] 3))):=fO (Below.refl _ _).drew (abM _) B;have c0:=(G.o _ (Below.refl _ _)).1;have J:=(G.o _ f.o).1;have K:=(G.o _ (aX b (aI #[j] 3))).1;have y1:=U.o.cell 1 j rfl;have L:(y.R[l *64+s]'hi).xs.length<=1000000:=by
  have:=yP hi;have:=E.o.2.1;have:=E.o.2.2;omega
 have C:aH (∀(W w':aA) (A:Option aJ) (c:Nat) (xs:List Int),aD b b W->bI eI 1 w' 0 3 A c xs->W.grownBy w' (aY (y.R[l *64+s]'hi).A)->(aY A=aY (y.R[l *64+s]'hi).A\/aY A=some W.heap.size)->w'.cell? (g,4+l *64+s)=some (rY (y.R[l *64+s]'hi))/\w'.frozen? (g,4+l *64+s)=false):=λW w' A c xs t ho M ha=>by
  rw[show 4+l *64+s=4+(l *64+s) by omega];exact(k.1.below t).1.rowAt hi ho M ha
 have N:aH (∀(W w':aA) (A:Option aJ) (c:Nat) (xs:List Int),aD b b W->bI eI 1 w' 0 3 A c xs->W.grownBy w' (aY (y.R[l *64+s]'hi).A)->(aY A=aY (y.R[l *64+s]'hi).A\/aY A=some W.heap.size)->xs.length=(y.R[l *64+s]'hi).xs.length+1->∃R,dK F (w'.setCell (g,4+l *64+s) (.slice A xs.length c)) g m {y with R:=R}/\iC R=iC y.R+1/\Kp F w (w'.setCell (g,4+l *64+s) (.slice A xs.length c))):=λW w' A c xs t ho M ha hx=>by
  rw[show 4+l *64+s=4+(l *64+s) by omega];have O:=DD hi ⟨A,c,xs⟩;simp only at O;obtain⟨r1,X⟩:=(k.1.below t).1.setRow hi ho M ha E.o.1 (by have:=E.o.2.1;omega);exact⟨_,r1,aQ,(H1.o.2.trans k.2).trans ((k.1.below t).2.trans X)⟩
 generalize Q:y.R[l *64+s]'hi=r at *;have Hr:=aP Q;obtain⟨A,c,xs⟩:=r;simp only[rY] at c0 J K L;clear Q k B T I v hlen P H1;go_upto_region 2 with(fail)
 go_wp2_with fail
 go_region_law (refine kS _ rfl (.tmp 23) (.tmp 26) rfl Cs gJ (base:=0) (xs:=xs) (G.o _ f.o).2.2 (n:=xs.length) rfl rfl (m:=1) rfl (ys:= [j]) rfl (Sl.fL gJ b.drew j _ rfl _ rfl) dN aQ aQ _ rfl (xs.length+1) rfl ?_;intro A5 c5 w5 a p q;(have Y:w5.cell? (g,4+l *64+s)=some (.slice A xs.length c):=(C.o _ _ _ _ _ f.o a p q).1);(have f5:w5.frozen? (g,4+l *64+s)=false:=(C.o _ _ _ _ _ f.o a p q).2))
 all_goals
  have S:=aP (N.o _ _ _ _ _ f.o a p q aT);have D:(xs++ [j]).length=xs.length+1:=aT;rw[D] at S;clear a p q Y f5 D;first|go_end0|(go_wp2_with fail;go_end0)
  exact⟨rfl,S.o⟩
end
section
theorem dK.mono{y:Wa}(h:dK F w g n y)(hm:n<=m):dK F w g m y:=
 ⟨h.o,⟨h.i.nw,⟨h.i.hs.1,by have:=h.i.hs.2;omega⟩,h.i.len,by have:=h.i.sum;omega,h.i.ok⟩⟩
theorem CD(g n:Nat)(y:Wa):dV (λF w=>dK F w g n y):=λF G H w w' h k a fl hH=>⟨Ob.cH _ F G H w w' h.o k a fl hH,h.i⟩
def Qo(F:Nat->Prop)(g n:Nat)(w:aA)(e:aM)(w':aA):Prop:=∃H E:Int,e= .returned (.tuple #[H,E])/\CF F w' g (n+1)/\Kp F w w'
theorem Jx{y:Wa}(h:dK F w g n y)(H:n+1<=1000000)(at_ c:Int)(f:0<=c/\c<4):aG prog 217 #[.pointer g,at_,c] w (Qo F g n w):=by
 have c0:=h.c0;have c1:=h.c1;have c2:=h.c2;have f2:=h.fz 2;have Z:=h.i.nw;have N:=h.i.hs;have z:aH (CF F w g (n+1)/\Kp F w w):=⟨⟨y,h.mono aQ⟩,Kp.refl _ _⟩
 by_cases h1:at_<=y.nw
 .generalize y.nw=nw at *;clear h f H;go_enter func217,ntmps217
  go_wp2_with fail
  go_ret2
  exact⟨0,1,rfl,z.o.1,z.o.2⟩
 by_cases h2:2097152<at_
 .generalize y.nw=nw at *;clear h f H;go_enter func217,ntmps217
  go_wp2_with fail
  go_ret2
  exact⟨0,1,rfl,z.o.1,z.o.2⟩
 have Q:=aP (show(0<=c/\c<4)/\0<=at_/\at_<=2097152 by omega);have H1:=aP (h.Wx (m:=n+1) (v:=y.hs+1) aQ aQ);have HN:=aP H;clear z;obtain⟨a,s⟩:∃v,v=y.hs+1:=⟨_,rfl⟩
 have hv:0<=a/\a<=1000000:=aQ;rw[<-s] at H1;have r:=h.i.sum;have A:aH (iC y.R<=n):=r;clear h r f;go_enter func217,ntmps217
 go_upto_region 6 with(fail)
 rw[<-s];clear s c2 f2 N H c0 c1;generalize w.setCell (g,2) a=I at *;have c2:=H1.o.1.c2;simp only at c2;go_upto_region 7 with(fail)
 have B:=aX I (aI #[at_,a,c] 274);have C:=bE.new I 274 #[at_,a,c];have J:=aP (And.intro ((CD g (n+1) {y with hs:=a}).box H1.o.1 H1.o.1.fl (aI #[at_,a,c] 274)) (H1.o.2.trans (H1.o.1.below B).2));clear B H1 c2;generalize I.alloc (aI #[at_,a,c] 274)=w2 at *;generalize I.heap.size=q2 at *;have d0:=C.cell 0 at_ rfl;have d1:=C.cell 1 a rfl;have d2:=C.cell 2 c rfl;have c3:=J.o.1.c3;simp only at c3;have j:=bD c3;have k:=bD d0;have l:=bD d1;have p:=bD d2;refine bM (bQ _) (λ_=>bQ) [] (λ_ _ _=>True) [7] [] 54 (bZ _) (λ_ _ _ h S=>bV h S) (λ_ d hd _ v w w' _ h S=>by cases hd) aV aV bF ?_;repeat refine eK ?_
 refine dI ?_;intro γ w5 t hT;clear j k l p;simp only[cY,Act.put,abN,abU,abS];refine dS ?_;obtain⟨O,T⟩:=J.o.1.below t;have U:=aP (C.keep t);have V:=aP O.mp;have K:=bP O (J.o.2.trans T.unbox);clear O T t hT J C d0 d1 d2 c3;refine GQ AG w5 rfl (.tmp 45) (.tmp 47) (.tmp 48) 335 3 274 rfl underlying335 underlying3 y.M a ⟨at_,a,c⟩ rfl rfl rfl V.o ?_;intro w6 D E;have L:=aP (K.o.1.VR D E (λx d u=>by
  unfold gF at u;split at u
  .injection u with u;subst u;exact Q.o
  .exact K.o.1.i.ok x d u))
 have q:=aP (L.o.2.aY U.o (.inr rfl));have G:=aP (K.o.2.trans L.o.2.unbox);have W:=aP (DE (m:=n+1) L.o.1 ⟨at_,a,c⟩ Q.o.2 (abM _) (by have:=A.o;show iC y.R+1<=n+1;omega) HN.o);have d0:=q.o.cell 0 at_ rfl;have d1:=q.o.cell 1 a rfl;have d2:=q.o.cell 2 c rfl;clear D E V K U;refine cN ?_;try refine dE ?_
 go_wp2_with fail
 refine aR W ?_;rintro e w7 ⟨rfl,R,X,_,P⟩;have d17:=P.cell d1 (.inr rfl);have Y:=bP X (G.o.trans P.unbox);clear X P W L q G d0 d1 d2;go_wp2_with fail
 go_ret2
 exact⟨a,0,rfl,⟨_,Y.o.1.less (λb hb=> .inl hb)⟩,Y.o.2⟩
end
section
namespace DI
theorem Dn:(prog.info? 3).map (λi=>(i.zero,i.size,i.bytes))=some (some (.int .i64 0),1,8):=aV
theorem kX:∀w,(zeroValue 3).run prog w= .ok (.int .i64 0) w:=λw=>by kernel_rfl
theorem fK{c:Nat}(h:n=m):Ending.returned (.slice A n c)= .returned (.slice A m c):=by rw[h]
theorem lV(g c i k base:Nat)(L:List Int)(w:aA)(own:bI eI 1 w base 3 g c L)(s:L.length=i+1+k)(hl:L.length<=4000000):
 aG prog 250 #[.slice g L.length c,i, .int .i64 ((i:Int)+1)] w λe w'=>e= .returned (.slice g (L.eraseIdx i).length c)/\bI eI 1 w' base 3 g c (L.eraseIdx i)/\w.grownBy w' (some g):=by
 obtain⟨i0,n,G,p,H⟩:=info_parts Dn;have v:(L.eraseIdx i).length=i+k:=by rw[adK,abP aQ];omega
 obtain⟨_,_,_,x,y,_,_⟩:=eZ own;simp only[maxLen] at y;obtain⟨news,b⟩:∃news,news=(L.drop (i+1)).flatMap eI:=⟨_,rfl⟩
 have s1:aH (news.length=k):=by unfold aH;rw[b,fG gJ.len,ad5];omega
 have s2:aH (∀u∈news,u.oneCell'=true):=λu hu=>rC gJ _ u (by rw[<-b];exact hu)
 have C:aH (∀t,t<news.length->(w.drew.cell? ⟨g,0+i+t,none⟩).isSome=true/\w.drew.frozen? ⟨g,0+i+t,none⟩=false):=λt D=>by
  rw[s1.o] at D;exact dF own _ aQ
 have I:aH (∀t u,news[t]?=some u->w.drew.cell? ((⟨g,i+1,none⟩:aJ).add t)=some u):=λt u hu=>by
  have D:t<k:=by rw[<-s1.o];exact(ab3.1 hu).1
  have hF:=oJ gJ.len L (i+1);rw[b,hF,adD] at hu;rw[Addr.add_lit];obtain⟨cur,_,J,_,_,_,K⟩:=eZ own;show w.cell? _=_;rw[cell_of_row w g _ cur _ (0,0) J,<-hu,<-K,acJ,abP aQ,acE,adQ]
 obtain⟨m,h⟩:∃m,m=w.drew.setCells g (0+i) news:=⟨_,rfl⟩
 have E:=aP h;have q:=tL (w:=w.drew) gJ.len own.drew i k s [.int .i64 0] rfl;simp only[adQ] at q;rw[<-b,show w.drew.setCells g i news=m by rw[h,acP]] at q;have a:=aP q;have d:∀j,j<c->(m.cell? ⟨g,j,none⟩).isSome=true/\m.frozen? ⟨g,j,none⟩=false:=λj F=>by
  rw[h];have:=dF own j aQ;exact⟨Go.World.isSome_setCells g _ _ _ _ this.1,by rw[World.frozen?_setCells];exact this.2⟩
 have l:∀ty r z,r=1->(Builtin.clear_ #[35] ty #[.slice (some ⟨g,i+k,none⟩) r z]).run prog m= .ok (.tuple #[]) (m.setCells g (i+k) [.int .i64 0]):=λty r z A=>
  lG m _ 3 ty _ underlying35 kX [.int .i64 0] aV cE g (i+k) r z A (λj F=>d _ (by simp at F;omega))
 clear h q d b;rw[s];rw[s] at x;have M:i<=c:=aQ;have N:i+1<=c:=aQ;have O:(0:Int)<=i+1:=aQ;have P:(i:Int)+1<=(i:Int)+1+(k:Int):=aQ;by_cases hce:c=i+1
 .obtain rfl:k=0:=aQ;obtain rfl:news= []:=acM (by rw[s1.o]);have B:aH (∀t u,([]:List aC)[t]?=some u->w.drew.cell? ((⟨g,0,none⟩:aJ).add t)=some u):=λt u hu=>by simp at hu
  subst hce;have f:=λty=>l ty (i+1 - i) (i+1 - i) aQ
  simp only[acC] at f v⊢;have Q:(i:Int)<=(i:Int)+1:=aQ;have R:i+1 - i=1:=aQ;rw[R] at f;clear l;go_enter func250,ntmps250
  go_wp2_with fail
  go_region_law (refine step_append_room rfl (.tmp 22) (.tmp 25) 35 rfl 3 i0 1 underlying35 n p g 0 i (i+1) (by simp[Act.eval,Act.put]) ⟨g,0,none⟩ 0 0 [] (by simp[Act.eval,Act.put]) (by rw[adQ];exact s1.o) B.o s2.o aQ (by rw[adQ];exact C.o) ?_;(try simp only[adQ]);rw[<-E.o])
  go_wp2
  go_ret
  exact⟨fK aQ,a.o.1,⟨a.o.2.os,a.o.2.tape,a.o.2.output,a.o.2.size,a.o.2.block⟩⟩
 .have f:=λty=>l ty (i+1+k - (i+k)) (c - (i+k)) aQ
  clear l;go_enter func250,ntmps250
  go_wp2_with fail
  go_region_law (refine step_append_room rfl (.tmp 22) (.tmp 25) 35 rfl 3 i0 1 underlying35 n p g 0 i c (by simp[Act.eval,Act.put]) ⟨g,i+1,none⟩ k (c - (i+1)) news (by simp[Act.eval,Act.put]) (by rw[adQ];exact s1.o) I.o s2.o aQ (by rw[adQ];exact C.o) ?_;(try simp only[adQ]);rw[<-E.o])
  go_wp2
  go_ret
  exact⟨fK aQ,a.o.1,⟨a.o.2.os,a.o.2.tape,a.o.2.output,a.o.2.size,a.o.2.block⟩⟩
end DI
end
section
theorem Nh(L:List Int)(v:Int):uN L v= -1\/∃k:Nat,k<L.length/\uN L v=k:=by
 unfold uN;cases h:L.findIdx? (λx=>decide (x=v)) with
 |none=>exact .inl rfl
 |some i=>exact .inr ⟨i,(ab9.1 h).1,rfl⟩
def SE(F:Nat->Prop)(g n:Nat)(w:aA)(e:aM)(w':aA):Prop:=∃b,e= .returned (.bool b)/\CF F w' g n/\Kp F w w'
theorem S0{y:Wa}(h:dK F w g n y)(hn:n<=1000000)(x:Int):aG prog 216 #[.pointer g,x] w (SE F g n w):=by
 have c0:=h.c0;have c3:=h.c3;have a:=wT underlying335 underlying3 (z:= .agg #[aU,aU,aU]) (P:=prog) (w:=w) aV h.mp x true;have HN:=aP hn;clear hn;cases hf:y.f x with
 |none=>
  rw[hf] at a;simp only[adM,Option.getD_none,adO,ac3] at a;have D:aH (SE F g n w (.returned (.bool false)) (w.alloc (aI #[aU,aU,aU] 274))):=⟨false,rfl,⟨y,(h.below (aX w _)).1⟩,(h.below (aX w _)).2⟩
  clear h hf;go_enter func216,ntmps216
  go_wp2_with fail
  go_ret
  exact D.o
 |some d=>
  have I:=h.i.ok x d hf;rw[hf] at a;obtain⟨E,Z,dw⟩:=d;simp only[acO,afY,adN,ac3,AG] at a;have HD:=aP I.2;have J:=aX w (aI #[E,Z,dw] 274);have xb:=bE.new w 274 #[E,Z,dw];have H1:=aP (And.intro ((CD g n y).box h h.fl (aI #[E,Z,dw] 274)) (h.below J).2);clear h hf I J;go_enter func216,ntmps216
  go_upto_region 6 with(fail)
  clear c0 c3 a;generalize w.alloc (aI #[E,Z,dw] 274)=w1 at *;generalize w.heap.size=q1 at *;have c3:=H1.o.1.c3;obtain⟨w2,L,M,N⟩:=BN (P:=prog) underlying335 underlying3 H1.o.1.mp x 0;have O:=aP (H1.o.1.VR M N (λz d u=>by
   unfold gF at u;split at u
   .cases u
   .exact H1.o.1.i.ok z d u))
  have Q:=aP (O.o.2.aY xb (.inr rfl));have B:=aP (H1.o.2.trans O.o.2.unbox);clear M N;have d0:=Q.o.cell 0 E rfl;have HP:=aP (KN O.o.1 E HD.o);go_wp2_with fail
  refine aR HP ?_;rintro e S ⟨⟨l,s,hl,hs,rfl⟩,hb3⟩;have j:=O.o.1.below hb3;have hlen:y.R.length=256:=j.1.i.len;have hi:l *64+s<y.R.length:=aQ;have c4:S.cell? (g,4+l *64+s)=some (rY (y.R[l *64+s]'hi)):=by
   rw[show 4+l *64+s=4+(l *64+s) by omega];exact j.1.cr hi
  have T:aH (bI eI 1 S 0 3 (y.R[l *64+s]'hi).A (y.R[l *64+s]'hi).c (y.R[l *64+s]'hi).xs):=j.1.row hi;have hlX:(y.R[l *64+s]'hi).xs.length<=1000000:=by
   have h1:=yP hi;have h2:iC y.R<=n:=j.1.i.sum;have:=HN.o;omega
  have G:=aP (LI (c:=(y.R[l *64+s]'hi).c) (T.o.sl gJ) (by show(y.R[l *64+s]'hi).xs.length<=_;omega) x);have H3:=bP j.1 (B.o.trans (j.2).unbox);have l0:¬(l:Int)<0:=aQ;have l4:(l:Int)<4:=aQ;have s0:¬(s:Int)<0:=aQ;have s64:(s:Int)<64:=aQ;have U:aH (∀(W w':aA) (A:Option aJ) (c:Nat) (xs:List Int),aD S S W->bI eI 1 w' 0 3 A c xs->W.grownBy w' (aY (y.R[l *64+s]'hi).A)->aY A=aY (y.R[l *64+s]'hi).A->xs.length<=(y.R[l *64+s]'hi).xs.length->
   (w'.cell? (g,4+l *64+s)=some (rY (y.R[l *64+s]'hi))/\w'.frozen? (g,4+l *64+s)=false)/\CF F (w'.setCell (g,4+l *64+s) (.slice A xs.length c)) g n/\Kp F w (w'.setCell (g,4+l *64+s) (.slice A xs.length c))):=λW w' A c xs hW ho hg ha H=>by
   rw[show 4+l *64+s=4+(l *64+s) by omega];have hsm:=DD hi ⟨A,c,xs⟩;simp only at hsm;have hsum:iC y.R<=n:=j.1.i.sum;obtain⟨V,hW2⟩:=j.1.below hW;obtain⟨r1,r2⟩:=V.setRow hi ho hg (.inl ha) (abM n) (by show iC (y.R.set (l *64+s) ⟨A,c,xs⟩)<=n;omega);exact⟨V.rowAt hi ho hg (.inl ha),⟨_,r1.less (λb hb=> .inl hb)⟩,(B.o.trans (j.2).unbox).trans ((hW2.trans r2).unbox)⟩
  generalize hr:y.R[l *64+s]'hi=r at *;have Hr:=aP hr;obtain⟨A,c,xs⟩:=r;simp only[rY] at c4 hlX G T;clear hr j hb3 hlen HP O Q B H1 c3 L d0;rcases Nh xs x with H|⟨k,hk,H⟩
  .rw[H] at G;clear H;go_wp2_with fail
   refine aR G ?_;rintro e w4 ⟨rfl,rfl⟩;have D:aH (SE F g n w (.returned (.bool true)) S):=⟨true,rfl,⟨_,H3.o.1.less (λb hb=> .inl hb)⟩,H3.o.2⟩
   go_wp2_with fail
   go_ret
   exact D.o
  .rw[H] at G;clear H;obtain⟨q,rfl⟩:∃q,A=some ⟨q,0,none⟩:=by
    rcases T.o.shape with⟨_,h2,_⟩|h2
    .rw[h2] at hk;simp at hk
    .exact h2
   have HK:=aP hk;have k0:(0:Int)<=k:=aQ;go_wp2_with fail
   refine aR G ?_;rintro e w4 ⟨rfl,rfl⟩;clear G;go_upto_region 10 with(fail)
   have p:=bD c4;refine bM (bQ _) (λ_=>bQ) [] (λ_ _ _=>True) [14,19] [] 73 (bZ _) (λ_ _ _ h u=>bV h u) (λ_ d hd _ v w w' _ h u=>by cases hd) aV aV bF ?_;repeat refine eK ?_
   refine dI ?_;intro γ w5 C hT;clear p;simp only[cY,Act.put,abN,abU,abS];refine dS ?_;have X:=aP (DI.lV q c k (xs.length - (k+1)) 0 xs w5 (T.o.keep C) (by have:=HK.o;omega) aQ);have HL:aH ((xs.eraseIdx k).length<=xs.length):=aeL _ _;have HB5:=aP C;clear C hT c4 T H3;refine wpList_plain rfl (λK hK=>?_);go_wp2_with fail
   refine aR X ?_;rintro e w6 ⟨rfl,t,Y⟩;have HR:=aP (U.o w5 w6 _ _ _ HB5.o t Y rfl HL.o);have c6:=HR.o.1.1;have f6:=HR.o.1.2;simp only[rY] at c6;have D:=aP HR.o.2;clear t Y X U HR HL;generalize (xs.eraseIdx k).length=m at *;refine hK _ _ ?_;clear hK K;refine wpList_plain rfl (λK hK=>?_);go_simp
   refine hK _ _ ?_;clear hK K;refine cN ?_;try refine dE ?_
   go_wp2_with fail
   go_ret
   exact⟨true,rfl,D.o.1,D.o.2⟩
end
end
section
open Go.RowKit Go.Lib Go.Shelf dL Fr Up Nt
variable{F:Nat->Prop}{w:aA}{g:Nat}{k:Kv}
section
theorem IA{a:Ka}(h:bT F w g a k)(f:k.n<=1000000)(x:Int):aG prog 216 #[.pointer a.gw,x] w λe w'=>∃b,e= .returned (.bool b)/\bT F w' g a k/\Kp F w w':=by
 obtain⟨G,⟨y,i⟩,back⟩:=h.wh;refine(S0 i f x).mono ?_;rintro e w' ⟨b,rfl,c,d⟩;exact⟨b,rfl,(back k.n _ c d).1,(back k.n _ c d).2⟩
theorem N0{a:Ka}(h:bT F w g a k):∃v:Int,(0<=v/\v<=1048576)/\∀W,aD w w W->aG prog 218 #[.pointer a.gw] W λe w'=>e= .returned (.int .i64 v)/\W=w':=by
 obtain⟨G,⟨y,b⟩,_⟩:=h.wh;exact⟨y.nw,b.i.nw,λW c=>Hz (b.below c).1⟩
theorem SF{a:Ka}(h:bT F w g a k)(i:k.n+1<=1000000)(at_ b:Int)(c:0<=b/\b<4):aG prog 217 #[.pointer a.gw,at_,b] w λe w'=>∃H E:Int,e= .returned (.tuple #[H,E])/\bT F w' g a {k with n:=k.n+1}/\Kp F w w':=by
 obtain⟨G,⟨y,j⟩,back⟩:=h.wh;refine(Jx j i at_ b c).mono ?_;rintro e w' ⟨H,E,rfl,d,f⟩;exact⟨H,E,rfl,(back (k.n+1) _ d f).1,(back (k.n+1) _ d f).2⟩
end
section
def FU(F:Nat->Prop)(g:Nat)(k:Kv)(w:aA)(r:aM)(w':aA):Prop:=∃(E:Int) (m:Nat),(k.n<=m/\m<=k.n+1)/\gK F g {k with n:=m} (.int .i64 E) w r w'
theorem SY{a:Ka}(h:bT F w g a k)(e:Nat)(he:e<4)(c:w.cell? (g,11+e)=some (.int .i64 0)):aG prog 171 #[.pointer g,e,aU] w (FU F g k w):=by
 have b:aH (FU F g k w (.returned (.int .i64 0)) w):=⟨0,k.n,⟨abM _,ac8 _⟩,rfl,⟨a,h⟩,Kp.refl _ _⟩
 have d:(e:Int)<8:=aQ;clear h;go_enter func171,ntmps171
 go_wp2_with fail
 go_ret
 exact b.o
theorem X6{a:Ka}(h:bT F w g a k)(C:k.n+1<=1000000)(e:Nat)(he:e<4)(v:Int)(D:v≠0)(y:w.cell? (g,11+e)=some (.int .i64 0)):aG prog 171 #[.pointer g,e,v] w (FU F g k w):=by
 have L:¬(e:Int)<0:=aQ;have M:(e:Int)<8:=aQ;have I:(v==0)=false:=by simp[D]
 have pw:=h.pw;have ps:=h.ps;unfold pA at pw ps;obtain⟨u,_,c⟩:=N0 h;have j:=aP c;obtain⟨G,hs,_⟩:=h.sd;have l:aH (∀W,aD w w W->aG prog 21 #[.pointer a.gs] W λe w'=>e= .returned (.int .i64 k.s.nw)/\W=w'):=λW J=>tV (h.below J).1.sd.choose_spec.1
 have m:aH (∀x,aG prog 217 #[.pointer a.gw, .int .i64 x,e] w.drew λr w'=>∃H E:Int,r= .returned (.tuple #[H,E])/\bT F w' g a {k with n:=k.n+1}/\Kp F w.drew w'):=λx=>SF (h.below (Below.refl w w).drew).1 C x e aQ
 have K:aH (Kp F w w.drew):=(h.below (Below.refl w w).drew).2;clear h hs c;go_enter func171,ntmps171
 go_upto_region 6 with(fail)
 go_region_held3 (λW=>W.cell? (g,10)=some (.pointer a.gw)/\W.cell? (g,6)=some (.pointer a.gs)) (first|exact⟨pw,ps⟩|exact⟨‹_›,‹_›⟩) ((first|(go_at_call 21;(refine aS (l.o _ (Below.refl _ _).drew) ?_);rintro r z ⟨rfl,rfl⟩)|(go_at_call 218;(refine aS (j.o _ (Below.refl _ _).drew) ?_);rintro r z ⟨rfl,rfl⟩)|(go_at_call 217;(refine aS (m.o _) ?_);rintro r z ⟨H,E,rfl,d,A⟩;(have p:=d.pw);(have q:=d.ps);(unfold pA at p q);(have b:=bP d (K.o.trans A));clear d A)))
 all_goals
  by_cases f:E=0
  .have t:(E !=0)=false:=by simp[f]
   have B:=aP (b.o.1.store (11+e) aQ H);have fz:=b.o.1.fz (11+e);obtain⟨v0,hc⟩:=b.o.1.p7 (i:=e) aQ;clear f y;go_wp2_with fail
   go_ret
   exact⟨0,k.n+1,⟨aQ,aQ⟩,rfl,B.o.1,b.o.2.trans B.o.2⟩
  .have t:(E !=0)=true:=by simp[f]
   clear f y;go_wp2_with fail
   go_ret
   exact⟨E,k.n+1,⟨aQ,aQ⟩,rfl,⟨a,b.o.1⟩,b.o.2⟩
end
section
theorem RT{a:Ka}(h:bT F w g a k)(q:k.n+1<=1000000)(e:Nat)(he:e<4)(x:Int)(s:x≠0)(j:w.cell? (g,11+e)=some (.int .i64 x)):aG prog 171 #[.pointer g,e,aU] w (FU F g k w):=by
 have C:¬(e:Int)<0:=aQ;have D:(e:Int)<8:=aQ;have A:(x !=0)=true:=by simp[s]
 have pw:=h.pw;unfold pA at pw;have t:=aP h;have B:=aP q;clear h q s;go_enter func171,ntmps171
 go_upto_region 2 with(fail)
 have c:=bD pw;have f:=bD j;refine bM (bQ _) (λ_=>bQ) [] (λ_ _ _=>True) [10] [] 65 (bZ _) (λ_ _ _ h j=>bV h j) (λ_ d hd _ v w w' _ h j=>by cases hd) aV aV bF ?_;repeat refine eK ?_
 refine dI ?_;intro γ w5 hb5 hT;clear c f;simp only[cY,Act.put,abN,abU,abS];refine dS ?_;have m:=t.o.below hb5;have HD:=aP (IA m.1 (by have:=B.o;omega) x);have u:=aP m.2;clear m hb5 hT t pw j;refine wpList_plain rfl (λK hK=>?_);go_wp2_with fail
 refine aR HD ?_;rintro r E ⟨b,rfl,l,y⟩;have f6:=l.fz (11+e);obtain⟨v6,c6⟩:=l.p7 (i:=e) aQ;have z:=aP (l.store (11+e) aQ 0);have p:=aP (u.o.trans y);clear l y HD u;refine hK _ _ ?_;clear hK K;refine cN ?_;try refine dE ?_
 go_wp2_with fail
 go_ret
 exact⟨0,k.n,⟨abM _,ac8 _⟩,rfl,z.o.1,p.o.trans z.o.2⟩
end
section
theorem SM{a:Ka}(h:bT F w g a k)(R:k.n+1<=1000000)(e:Nat)(he:e<4)(x:Int)(S:x≠0)(v:Int)(Z:v≠0)(t:w.cell? (g,11+e)=some (.int .i64 x)):aG prog 171 #[.pointer g,e,v] w (FU F g k w):=by
 have e0:¬(e:Int)<0:=aQ;have e8:(e:Int)<8:=aQ;have a1:(x !=0)=true:=by simp[S]
 have a6:(v==0)=false:=by simp[Z]
 have pw:=h.pw;unfold pA at pw;have T:=aP h;have U:=aP R;clear h R S;go_enter func171,ntmps171
 go_upto_region 2 with(fail)
 have j:=bD pw;have l:=bD t;refine bM (bQ _) (λ_=>bQ) [] (λ_ _ _=>True) [10] [] 65 (bZ _) (λ_ _ _ h t=>bV h t) (λ_ d hd _ v w w' _ h t=>by cases hd) aV aV bF ?_;repeat refine eK ?_
 refine dI ?_;intro γ w5 hb5 hT;clear j l;simp only[cY,Act.put,abN,abU,abS];refine dS ?_;have J:=T.o.below hb5;have HD:=aP (IA J.1 (by have:=U.o;omega) x);have B:=aP J.2;clear J hb5 hT T pw t;refine wpList_plain rfl (λK hK=>?_);go_wp2_with fail
 refine aR HD ?_;rintro r w6 ⟨b,rfl,C,V⟩;have f6:=C.fz (11+e);obtain⟨v6,c6⟩:=C.p7 (i:=e) aQ;have m:=aP (C.store (11+e) aQ 0);have c:=aP (B.o.trans V);clear C V HD B;refine hK _ _ ?_;clear hK K;refine cN ?_;try refine dE ?_
 have y:=aP (c.o.trans m.o.2);have z:=aP m.o.1;clear m;go_upto_region 6 with(fail)
 clear c6 f6 c;generalize w6.setCell (g,11+e) (.int .i64 0)=f at *;obtain⟨p,h⟩:=z.o;have c:=y;have pw:=h.pw;have ps:=h.ps;unfold pA at pw ps;clear z y;obtain⟨u,_,A⟩:=N0 h;have L:=aP A;obtain⟨G,hs,_⟩:=h.sd;have M:aH (∀W,aD f f W->aG prog 21 #[.pointer p.gs] W λe w'=>e= .returned (.int .i64 k.s.nw)/\W=w'):=λW hW=>tV (h.below hW).1.sd.choose_spec.1
 have N:aH (∀x,aG prog 217 #[.pointer p.gw, .int .i64 x,e] f.drew λr w'=>∃H E:Int,r= .returned (.tuple #[H,E])/\bT F w' g p {k with n:=k.n+1}/\Kp F f.drew w'):=λx=>SF (h.below (Below.refl f f).drew).1 U.o x e aQ
 have B:aH (Kp F f f.drew):=(h.below (Below.refl f f).drew).2;clear h hs A;go_region_held3 (λW=>W.cell? (g,10)=some (.pointer p.gw)/\W.cell? (g,6)=some (.pointer p.gs)) (first|exact⟨pw,ps⟩|exact⟨‹_›,‹_›⟩) ((first|(go_at_call 21;(refine aS (M.o _ (Below.refl _ _).drew) ?_);rintro r X ⟨rfl,rfl⟩)|(go_at_call 218;(refine aS (L.o _ (Below.refl _ _).drew) ?_);rintro r X ⟨rfl,rfl⟩)|(go_at_call 217;(refine aS (N.o _) ?_);rintro r X ⟨H,E,rfl,D,Y⟩;(have O:=D.pw);(have P:=D.ps);(unfold pA at O P);(have q:=bP D (B.o.trans Y));clear D Y)))
 all_goals
  by_cases I:E=0
  .have Q:(E !=0)=false:=by simp[I]
   have m:=aP (q.o.1.store (11+e) aQ H);have fz:=q.o.1.fz (11+e);obtain⟨v0,hc⟩:=q.o.1.p7 (i:=e) aQ;clear I;go_wp2_with fail
   go_ret
   exact⟨0,k.n+1,⟨aQ,aQ⟩,rfl,m.o.1,c.o.trans (q.o.2.trans m.o.2)⟩
  .have Q:(E !=0)=true:=by simp[I]
   clear I;go_wp2_with fail
   go_ret
   exact⟨E,k.n+1,⟨aQ,aQ⟩,rfl,⟨p,q.o.1⟩,c.o.trans q.o.2⟩
end
section
theorem XU{a:Ka}(h:bT F w g a k)(d:k.n+1<=1000000)(e:Nat)(he:e<4)(v:Int):aG prog 171 #[.pointer g,e,v] w (FU F g k w):=by
 obtain⟨x,c⟩:=h.p7 (i:=e) aQ;by_cases f:x=0
 .subst f;by_cases b:v=0
  .subst b;exact SY h e he c
  .exact X6 h d e he v b c
 .by_cases b:v=0
  .subst b;exact RT h d e he x f c
  .exact SM h d e he x f v b c
end
variable{X:(Nat->Prop)->aA->Prop}{W w' w3 w6 wE:aA}{j i q3:Nat}{v:aC}{H:Nat->Prop}{k':Kv}
section
def Nw(F:Nat->Prop)(N:Nat)(W:aA):Nat->Prop:=λb=>F b\/(N<=b/\b<W.heap.size)
theorem dV.grow(M:dV X)(h:X F w)(fl:Ol F w)(hb:aD w w W):X (Nw F w W) W:=
 M F (λb=>b<w.heap.size) _ w W h (Kp.cD hb λ_ hb=>hb) (λ_ c _=>c) (λb a=>by
  rcases a with a|a
  .exact abO (fl b a) hb.size
  .exact a.2) (λr c d hc=>by
  rcases hc with hc|hc
  .exact d hc
  .omega)
theorem dP{A:Nat}(h:g≠A):(w.setCell (A,i) v).cell? (g,j)=w.cell? (g,j):=
 World.cell?_of_block (w:=w) (Below.heap_setCell w ⟨A,i,none⟩ v g h)
theorem dV.rI(M:dV X){A:Nat}(h:X F w)(fl:Ol F w)(c:w.grownBy w' (some A))(d:F A)(hH:∀b,H b->F b/\b≠A):X H w'/\Kp H w w':=by
 have k:Kp (λb=>b<w.heap.size/\b≠A) w w':=Kp.grown c λb hb=>⟨hb.1,λe=>hb.2 (by injection e)⟩
 have f:Kp H w w':=k.mono λb hb=>⟨fl b (hH b hb).1,(hH b hb).2⟩
 exact⟨M F _ H w w' h k (λr g a=>⟨g,λe=>a (e ▸ d)⟩) (λb hb=>abO (fl b (hH b hb).1) k.size) (λr _ a hc=>a (hH r hc).1),f⟩
theorem LV{a:Ka}(d:bT (Fb F q3) w3 g a k/\Kp F w w3)(c:bT (Nw (Fb F q3) w3.heap.size w3.drew) w6 g a k'/\Kp (Nw (Fb F q3) w3.heap.size w3.drew) w3.drew w6)(hb:aD w6 w6 wE):KM F wE g k'/\Kp F w wE:=by
 obtain⟨e,f⟩:=c.1.below hb;have h:Kp F w3.drew w6:=c.2.mono λb hb=> .inl (.inl hb)
 have i:Kp F w6 wE:=f.mono λb hb=> .inl (.inl hb)
 exact⟨⟨a,e.less (λb hb=> .inl (.inl hb))⟩,(d.2.drew.trans h).trans i⟩
theorem Ta{a:Ka}{o:Obj}(c:bT (Fb F q3) w3 g a k/\Kp F w w3)(d:bT (Nw (Fb F q3) w3.heap.size (w3.alloc o).drew) w6 g a k'/\Kp (Nw (Fb F q3) w3.heap.size (w3.alloc o).drew) (w3.alloc o).drew w6)(f:w6.grownBy wE (some w3.heap.size)):KM F wE g k'/\Kp F w wE:=by
 have h:Nw (Fb F q3) w3.heap.size (w3.alloc o).drew w3.heap.size:= .inr ⟨abM _,(show w3.heap.size<(w3.alloc o).heap.size by simp)⟩;obtain⟨i,j⟩:=dV.rI (bT.cH g a k') (H:=F) d.1 d.1.fl f h (λb hb=>⟨.inl (.inl hb),λe=>by have:=c.1.fl b (.inl hb);omega⟩);have l:Kp F (w3.alloc o).drew w6:=d.2.mono λb hb=> .inl (.inl hb)
 have m:Kp F w (w3.alloc o).drew:=(c.2.trans (Kp.cD (aX w3 o) λb hb=>c.1.fl b (.inl hb))).drew;exact⟨⟨a,i⟩,(m.trans l).trans j⟩
theorem Fe(k:Kv)(e s a wr:Int)(h:¬1<wr):mP k e s a wr=match jK k.c e s 1 (if wr=1 then 3 else 1) with
 |none=>(23,k)
 |some h=>(if lI ⟨e,a,h.ob,decide (wr=1)⟩ then 0 else 1,{k with t:=x8 k.t ⟨e,a,h.ob,decide (wr=1)⟩}):=by
 unfold mP;exact abQ h
theorem Ca{a:Ka}(h:bT F w g a k)(hw:KW k)(e s l wr:Int):aG prog 167 #[.pointer g,e,s,l,wr] w (gK F g (mP k e s l wr).2 (.int .i64 (mP k e s l wr).1) w):=by
 have J:=aP h;have Z:=aP hw;by_cases h1:1<wr
 .have v:aH (mP k e s l wr=(1,k)):=by unfold aH mP;rw[abP h1]
  generalize mP k e s l wr=rk at *;clear h hw;go_enter func167,ntmps167
  go_wp2_with fail
  go_ret
  rw[v.o];exact⟨rfl,⟨a,J.o⟩,Kp.refl _ _⟩
 obtain⟨G,K,_⟩:=h.cp;have pc:=h.pc;unfold pA at pc;have L:=aP (Fe k e s l wr h1);generalize mP k e s l wr=rk at *;by_cases M:wr=1
 .subst M;have hor:bits .or .i64 1 2=3:=cE;have v:aH (rk=match jK k.c e s 1 3 with
   |none=>(23,k)
   |some h=>(if lI ⟨e,l,h.ob,true⟩ then 0 else 1,{k with t:=x8 k.t ⟨e,l,h.ob,true⟩})):=by unfold aH;rw[L.o];rfl
  have q:=lB K e s 1 3;clear h hw K L;cases hq:jK k.c e s 1 3 with
  |none=>
   rw[hq] at q v;have q:=aP q;clear hq;go_enter func167,ntmps167
   go_wp2_with fail
   refine aR q ?_;rintro r N ⟨rfl,d⟩;simp only[mB,adO];have V:=aP (J.o.below (d.alloc d.size (aI #[aU,aU,aU] 154)));clear d;go_wp2_with fail
   go_ret
   rw[v.o];exact⟨rfl,⟨a,V.o.1⟩,V.o.2⟩
  |some x=>
   rw[hq] at q v;have q:=aP q;clear hq;obtain⟨O,i,P,x4,x5⟩:=x;simp only at v;go_enter func167,ntmps167
   go_wp2_with fail
   refine aR q ?_;rintro r N ⟨rfl,d⟩;simp only[mB,adN];have C:=d.alloc d.size (aI #[O,i,P] 154);have yb:=bE.new N 154 #[O,i,P];have u:=aP (And.intro ((bT.cH g a k).box (J.o.below d).1 (J.o.below d).1.fl (aI #[O,i,P] 154)) (J.o.below C).2);clear d C pc;go_upto_region 9 with(fail)
   generalize N.alloc (aI #[O,i,P] 154)=f at *;generalize N.heap.size=z at *;have A:=yb.cell 1 i rfl;have pt:=u.o.1.pt;unfold pA at pt;clear yb;have Q:aH (∀W,aD f f W->aG prog 210 #[.pointer a.gt, .agg #[e,l,i,true]] W λr w'=>∃(y:En) (b:Bool),r= .returned (.tuple #[.agg #[y.env,y.dA,y.frame,y.write],b, .int .i64 (if lI ⟨e,l,i,true⟩=true then 0 else 1)])/\bT (Nw (Fb F z) f.heap.size W) w' g a {k with t:=x8 k.t ⟨e,l,i,true⟩}/\Kp (Nw (Fb F z) f.heap.size W) W w'/\w'.cell? (g,1)=some (.pointer a.gt)/\w'.cell? (z,1)=some (.int .i64 i)):=λW X=>by
    obtain⟨G2,ht,back⟩:=(dV.grow (bT.cH g a k) u.o.1 u.o.1.fl X).tb;refine(NF ht Z.o.t ⟨e,l,i,true⟩).mono ?_;rintro r B ⟨y,bo,rfl,R,S⟩;obtain⟨m,n⟩:=back _ _ R S;exact⟨y,bo,rfl,m,n,m.pt,n.cell (bK X A) (.inl (.inr rfl))⟩
   generalize (if lI ⟨e,l,i,true⟩=true then(0:Int) else 1)=er at *;have T:aH (∀o,aD f f (f.alloc o).drew):=λo=>(aX f o).drew
   have D:g≠f.heap.size:=by have:=u.o.1.bk.lt;omega
   have E:z≠f.heap.size:=by have:=World.block_lt_of_cell? f _ A;simp only at this;omega
   go_region_held3 (λW=>W.cell? (g,1)=some (.pointer a.gt)/\W.cell? (z,1)=some (.int .i64 i)) (first|with_reducible exact⟨‹_›,‹_›⟩|exact⟨by simp only[dP D,dP H];with_reducible assumption,by simp only[dP E,dP I];with_reducible assumption⟩|exact⟨bK (aX f _).drew pt,bK (aX f _).drew A⟩|exact⟨bK (aX _ _) pt,bK (aX _ _) A⟩|exact⟨bK (aX _ _) ‹_›,bK (aX _ _) ‹_›⟩|exact⟨pt,A⟩|fail) ((go_at_call 210;first|((refine aS (Q.o _ (Below.refl _ _).drew) ?_);rintro r B ⟨y,bo,rfl,m,n,U,Y⟩;(have H:g≠B.heap.size:=by have:=m.bk.lt;omega);(have I:z≠B.heap.size:=by have:=World.block_lt_of_cell? B _ Y;simp only at this;omega);(have j:=bP m n);clear m n)|((refine aS (Q.o _ (T.o _)) ?_);rintro r B ⟨y,bo,rfl,m,n,U,Y⟩;(have p:bE B f.heap.size 396 #[aU,aU,aU,false]:=n.aY (bE.new f 396 #[aU,aU,aU,false]) (.inr ⟨abM _,(show f.heap.size<(f.alloc (aI #[aU,aU,aU,false] 396)).heap.size by simp)⟩));(have z0:=p.cell 0 _ rfl);(have z1:=p.cell 1 _ rfl);(have z2:=p.cell 2 _ rfl);(have z3:=p.cell 3 _ rfl);(have f0:=p.frozen 0);(have f1:=p.frozen 1);(have f2:=p.frozen 2);(have f3:=p.frozen 3);(have j:=bP m n);(have H:=D);(have I:=E);clear p m n)|fail))
   all_goals
    clear pt A Q Z;go_wp2_with fail
    go_ret
    rw[v.o];first
     |exact⟨rfl,LV u.o j.o (aX _ _)⟩
     |exact⟨rfl,LV u.o j.o (aX _ _).drew⟩
     |exact⟨rfl,LV u.o j.o ((((((aX _ _).setCell (abM _) _).setCell (abM _) _).setCell (abM _) _).setCell (abM _) _))⟩
     |exact⟨rfl,Ta u.o j.o (aZ (aZ (aZ (aZ (bL _ _) 0 _) 1 _) 2 _) 3 _)⟩
 .have hw1':(wr==1)=false:=by simp[M]
  have v:aH (rk=match jK k.c e s 1 1 with
   |none=>(23,k)
   |some h=>(if lI ⟨e,l,h.ob,false⟩ then 0 else 1,{k with t:=x8 k.t ⟨e,l,h.ob,false⟩})):=by unfold aH;rw[L.o];simp only[abQ M,ab4 M]
  have q:=lB K e s 1 1;clear h hw K L;cases hq:jK k.c e s 1 1 with
  |none=>
   rw[hq] at q v;have q:=aP q;clear hq;go_enter func167,ntmps167
   go_wp2_with fail
   refine aR q ?_;rintro r N ⟨rfl,d⟩;simp only[mB,adO];have V:=aP (J.o.below (d.alloc d.size (aI #[aU,aU,aU] 154)));clear d;go_wp2_with fail
   go_ret
   rw[v.o];exact⟨rfl,⟨a,V.o.1⟩,V.o.2⟩
  |some x=>
   rw[hq] at q v;have q:=aP q;clear hq;obtain⟨O,i,P,x4,x5⟩:=x;simp only at v;go_enter func167,ntmps167
   go_wp2_with fail
   refine aR q ?_;rintro r N ⟨rfl,d⟩;simp only[mB,adN];have C:=d.alloc d.size (aI #[O,i,P] 154);have yb:=bE.new N 154 #[O,i,P];have u:=aP (And.intro ((bT.cH g a k).box (J.o.below d).1 (J.o.below d).1.fl (aI #[O,i,P] 154)) (J.o.below C).2);clear d C pc;go_upto_region 9 with(fail)
   generalize N.alloc (aI #[O,i,P] 154)=f at *;generalize N.heap.size=z at *;have A:=yb.cell 1 i rfl;have pt:=u.o.1.pt;unfold pA at pt;clear yb;have Q:aH (∀W,aD f f W->aG prog 210 #[.pointer a.gt, .agg #[e,l,i,false]] W λr w'=>∃(y:En) (b:Bool),r= .returned (.tuple #[.agg #[y.env,y.dA,y.frame,y.write],b, .int .i64 (if lI ⟨e,l,i,false⟩=true then 0 else 1)])/\bT (Nw (Fb F z) f.heap.size W) w' g a {k with t:=x8 k.t ⟨e,l,i,false⟩}/\Kp (Nw (Fb F z) f.heap.size W) W w'/\w'.cell? (g,1)=some (.pointer a.gt)/\w'.cell? (z,1)=some (.int .i64 i)):=λW X=>by
    obtain⟨G2,ht,back⟩:=(dV.grow (bT.cH g a k) u.o.1 u.o.1.fl X).tb;refine(NF ht Z.o.t ⟨e,l,i,false⟩).mono ?_;rintro r B ⟨y,bo,rfl,R,S⟩;obtain⟨m,n⟩:=back _ _ R S;exact⟨y,bo,rfl,m,n,m.pt,n.cell (bK X A) (.inl (.inr rfl))⟩
   generalize (if lI ⟨e,l,i,false⟩=true then(0:Int) else 1)=er at *;have T:aH (∀o,aD f f (f.alloc o).drew):=λo=>(aX f o).drew
   have D:g≠f.heap.size:=by have:=u.o.1.bk.lt;omega
   have E:z≠f.heap.size:=by have:=World.block_lt_of_cell? f _ A;simp only at this;omega
   go_region_held3 (λW=>W.cell? (g,1)=some (.pointer a.gt)/\W.cell? (z,1)=some (.int .i64 i)) (first|with_reducible exact⟨‹_›,‹_›⟩|exact⟨by simp only[dP D,dP H];with_reducible assumption,by simp only[dP E,dP I];with_reducible assumption⟩|exact⟨bK (aX f _).drew pt,bK (aX f _).drew A⟩|exact⟨bK (aX _ _) pt,bK (aX _ _) A⟩|exact⟨bK (aX _ _) ‹_›,bK (aX _ _) ‹_›⟩|exact⟨pt,A⟩|fail) ((go_at_call 210;first|((refine aS (Q.o _ (Below.refl _ _).drew) ?_);rintro r B ⟨y,bo,rfl,m,n,U,Y⟩;(have H:g≠B.heap.size:=by have:=m.bk.lt;omega);(have I:z≠B.heap.size:=by have:=World.block_lt_of_cell? B _ Y;simp only at this;omega);(have j:=bP m n);clear m n)|((refine aS (Q.o _ (T.o _)) ?_);rintro r B ⟨y,bo,rfl,m,n,U,Y⟩;(have p:bE B f.heap.size 396 #[aU,aU,aU,false]:=n.aY (bE.new f 396 #[aU,aU,aU,false]) (.inr ⟨abM _,(show f.heap.size<(f.alloc (aI #[aU,aU,aU,false] 396)).heap.size by simp)⟩));(have z0:=p.cell 0 _ rfl);(have z1:=p.cell 1 _ rfl);(have z2:=p.cell 2 _ rfl);(have z3:=p.cell 3 _ rfl);(have f0:=p.frozen 0);(have f1:=p.frozen 1);(have f2:=p.frozen 2);(have f3:=p.frozen 3);(have j:=bP m n);(have H:=D);(have I:=E);clear p m n)|fail))
   all_goals
    clear pt A Q Z;go_wp2_with fail
    go_ret
    rw[v.o];first
     |exact⟨rfl,LV u.o j.o (aX _ _)⟩
     |exact⟨rfl,LV u.o j.o (aX _ _).drew⟩
     |exact⟨rfl,LV u.o j.o ((((((aX _ _).setCell (abM _) _).setCell (abM _) _).setCell (abM _) _).setCell (abM _) _))⟩
     |exact⟨rfl,Ta u.o j.o (aZ (aZ (aZ (aZ (bL _ _) 0 _) 1 _) 2 _) 3 _)⟩
end
section
theorem S1{a:Ka}(h:bT F w g a k)(e:Int)(he:0<=e/\e<8):aG prog 219 #[.pointer a.gr,e] w λx w'=>∃(y:Up) (r:Int),x= .returned (.tuple #[.agg #[y.kind,y.a, .int .u64 y.b],r])/\bT F w' g a k/\Kp F w w':=by
 obtain⟨G,f,back⟩:=h.rw;refine(VI f e he).mono ?_;rintro x w' ⟨y,r,rfl,c,d⟩;exact⟨y,r,rfl,(back _ c d).1,(back _ c d).2⟩
theorem ZK{a:Ka}(h:bT F w g a k)(e:Int)(he:0<=e/\e<8):aG prog 173 #[.pointer g,e] w λr w'=>∃N E:Int,(0<=N/\N<18446744073709551616)/\r= .returned (.tuple #[.int .u64 N,E])/\bT F w' g a k/\Kp F w w':=by
 have pr:=h.pr;unfold pA at pr;have q:=aP (S1 h e he);clear h he;go_enter func173,ntmps173
 go_wp2_with fail
 refine aR q ?_;rintro r i ⟨y,E,rfl,m,p⟩;obtain⟨c,d,f⟩:=y;have b:=aX i (aI #[c,d, .int .u64 f] 248);have yb:=bE.new i 248 #[c,d, .int .u64 f];have j:aH (bT F (i.alloc (aI #[c,d, .int .u64 f] 248)) g a k/\Kp F w (i.alloc (aI #[c,d, .int .u64 f] 248))):=⟨(m.below b).1,p.trans (m.below b).2⟩
 clear m p b;have s:=yb.cell 0 c rfl;have t:=yb.cell 1 d rfl;have u:=yb.cell 2 (.int .u64 f) rfl;by_cases l:E=0
 .have n:(E !=0)=false:=by simp[l]
  clear l;go_wp2_with fail
  go_ret2
  refine⟨_,_,?_,rfl,j.o.1,j.o.2⟩;unfold bits;rw[IntKind.wrap_u64];omega
 .have n:(E !=0)=true:=by simp[l]
  clear l;go_wp2_with fail
  go_ret2
  exact⟨0,E,aQ,rfl,j.o.1,j.o.2⟩
end
end
section
open Go.RowKit
namespace Pa
def fH(op:Int)(i:Nat):Bool:=
 match i with
 |0=>op==1 || op==2 || op==6 || op==9 || op==10 || op==11 || op==12 || op==14 || op==3 || op==13 || op==17 || op==4 || op==5 || op==7 || op==8
 |1=>op==3 || op==13 || op==17 || op==4 || op==5 || op==7 || op==8
 |2=>op==4 || op==5 || op==7 || op==8 || op==15
 |_=>op==8 || op==15
def iK(n:Int)(had:Bool)(most:Int):Bool:=if had then decide (0<=n/\n<=most) else n==0
def iR(op a b c d:Int):Bool:=decide (0<=op/\op<=19)&&iK a (fH op 0) 255&&iK b (fH op 1) 255&&iK c (fH op 2) 1048575&&iK d (fH op 3) 1048575
theorem yI(n:Int)(b:Bool)(a:Int)(w:aA):aG prog 205 #[n,b,a] w λe w'=>e= .returned (.bool (iK n b a))/\w=w':=by
 cases b
 .go_enter func205,ntmps205
  go_wp2
  go_ret
  exact⟨rfl,rfl⟩
 .go_enter func205,ntmps205
  go_wp2
  all_goals go_ret
  all_goals refine⟨jP ?_,rfl⟩
  all_goals unfold iK
  all_goals simp
  all_goals omega
theorem lB(op:Int)(w:aA)(a:0<=op)(h1:op<=19):aG prog 204 #[op] w λe w'=>e= .returned (.tuple #[.bool (fH op 0), .bool (fH op 1), .bool (fH op 2), .bool (fH op 3)])/\w=w':=by
 obtain⟨n,rfl⟩:=abR a;have b:n<=19:=aQ;clear a h1;rcases(show n=0\/n=1\/n=2\/n=3\/n=4\/n=5\/n=6\/n=7\/n=8\/n=9\/n=10\/n=11\/n=12\/n=13\/n=14\/n=15\/n=16\/n=17\/n=18\/n=19 by omega) with rfl|rfl|rfl|rfl|rfl|rfl|rfl|rfl|rfl|rfl|rfl|rfl|rfl|rfl|rfl|rfl|rfl|rfl|rfl|rfl
 all_goals
  clear b;go_enter func204,ntmps204
  go_wp2
  exact bodyPost_ret (v:= .tuple #[_,_,_,_]) (by simp[results,results204,go_sem];exact⟨rfl,rfl,rfl,rfl⟩) rfl ⟨rfl,rfl⟩
theorem KU(op a b c d:Int)(w:aA):aG prog 162 #[.agg #[op,a,b,c,d]] w λe w'=>e= .returned (.bool (iR op a b c d))/\aD w w w':=by
 by_cases f:0<=op/\op<=19
 .obtain⟨f,h1⟩:=f;have h:=aP (λW=>lB op W f h1);have g:iR op a b c d=(iK a (fH op 0) 255&&iK b (fH op 1) 255&&iK c (fH op 2) 1048575&&iK d (fH op 3) 1048575):=by unfold iR;simp[f,h1]
  rw[g];clear g;have i:=aP (λW=>yI a (fH op 0) 255 W);have j:=aP (λW=>yI b (fH op 1) 255 W);have k:=aP (λW=>yI c (fH op 2) 1048575 W);have l:=aP (λW=>yI d (fH op 3) 1048575 W);generalize iK a (fH op 0) 255=m at *;generalize iK b (fH op 1) 255=q1 at *;generalize iK c (fH op 2) 1048575=q2 at *;generalize iK d (fH op 3) 1048575=q3 at *;generalize fH op 0=p0 at *;generalize fH op 1=p1 at *;generalize fH op 2=p2 at *;generalize fH op 3=p3 at *;cases m <;> cases q1 <;> cases q2
  all_goals
   go_enter func162,ntmps162
   go_wp2_with(first|(go_at_call 204;(with_reducible refine(h.o _).mono ?_);rintro e n ⟨rfl,rfl⟩)|(go_at_call 205;(first|(with_reducible refine(i.o _).mono ?_)|(with_reducible refine(j.o _).mono ?_)|(with_reducible refine(k.o _).mono ?_)|(with_reducible refine(l.o _).mono ?_));rintro e n ⟨rfl,rfl⟩))
   go_ret
   exact⟨aT,aX _ _⟩
 .have g:iR op a b c d=false:=by unfold iR;simp[f]
  rw[g];clear g;by_cases h1:op<0
  .go_enter func162,ntmps162
   go_wp2
   go_ret
   exact⟨rfl,aX _ _⟩
  .have p:19<op:=aQ;clear f;go_enter func162,ntmps162
   go_wp2
   go_ret
   exact⟨rfl,aX _ _⟩
end Pa
namespace Pa
def nV:List Fl:= [⟨0,8⟩,⟨8,8⟩,⟨16,8⟩,⟨24,20⟩,⟨44,20⟩]
theorem ER(x:Nat)(a:x<18446744073709551616):nV.map (tJ · (x:Int))= [((x%256:Nat):Int),((x /256%256:Nat):Int),((x /65536%256:Nat):Int),((x /16777216%1048576:Nat):Int),((x /17592186044416:Nat):Int)]:=by
 simp[nV,tJ,D9,yZ,NL.MZ];omega
end Pa
namespace Pa
end Pa
section
namespace Pa
variable{sz:Nat}
theorem _root_.Go.Proofs.YtacgiflhgdaeaaaGreat.Sl.lit{α:Type}{enc:α->List aC}(he:eW enc sz)(w:aA)(xs:List α)(cs:Array aC)(a:cs.toList=xs.flatMap enc)(t:TypeId):Sl enc sz (w.alloc (.cells cs t)) (some ⟨w.heap.size,0,none⟩) xs:=λ_=>by
 refine⟨w.heap.size,0,rfl,λi x j u b hu=>?_⟩;have c:j<sz:=by rw[<-he.len x];exact(ab3.1 hu).1
 have h1:=cell_of_row (w.alloc (.cells cs t)) w (i *sz+j) cs t (0,0) (heap_alloc_new w _);rw[acP,h1,<-acE,a,kM he.len xs i x j b c,hu]
def uI:Array aC:=#[aU, .int .i64 8, .int .i64 8, .int .i64 8, .int .i64 16, .int .i64 8, .int .i64 24, .int .i64 20, .int .i64 44, .int .i64 20]
theorem DU(w:aA):aG prog 161 #[] w λe w'=>e= .returned (.slice w.heap.size 5 5)/\w'=w.alloc (.cells uI 384):=by
 go_enter func161,ntmps161
 go_wp2
 go_ret
 exact⟨rfl,rfl⟩
end Pa
end
namespace Pa
theorem tZ(w:aA)(g:Nat)(v0 v1 v2 v3 v4:aC):w.grownBy (((((w.setCell (g,0) (v0)).setCell (g,1) (v1)).setCell (g,2) (v2)).setCell (g,3) (v3)).setCell (g,4) (v4)) (some g):=
 aZ (aZ (aZ (aZ (aZ (bL w g) 0 v0) 1 v1) 2 v2) 3 v3) 4 v4
theorem Al(x n0 n1 c f j:Nat)(w:aA)(S:x<18446744073709551616)(F:nV.map (tJ · (x:Int))= [(n0:Int),(n1:Int),(c:Int),(f:Int),(j:Int)])(hs:n0<1000000000/\n1<1000000000/\c<1000000000/\f<1000000000/\j<1000000000)(q:Bool)(hq:iR n0 n1 c f j=q):
 aG prog 118 #[.int .u64 x] w λe w'=>e= .returned (if q then .tuple #[.agg #[n0,n1,c,f,j],aU] else .tuple #[.agg #[aU,aU,aU,aU,aU], .int .i64 21])/\aD w w w':=by
 have T:IntKind.i64.wrap (n0:Int)=n0:=by rw[IntKind.wrap_i64];omega
 have U:IntKind.i64.wrap (n1:Int)=n1:=by rw[IntKind.wrap_i64];omega
 have V:IntKind.i64.wrap (c:Int)=c:=by rw[IntKind.wrap_i64];omega
 have X:IntKind.i64.wrap (f:Int)=f:=by rw[IntKind.wrap_i64];omega
 have Y:IntKind.i64.wrap (j:Int)=j:=by rw[IntKind.wrap_i64];omega
 have G:=aP (λW=>KU n0 n1 c f j W);rw[hq] at G;have O:aH (∀(W:aA) (A:Option aJ),Sl eF 2 W A nV->aG prog 160 #[.slice A 5 5, .int .u64 (x:Int)] W (W7 eU 1 75 [(n0:Int),(n1:Int),(c:Int),(f:Int),(j:Int)] W)):=λW A h=>by rw[<-F];exact OX A nV x 5 W h cE aQ aQ
 clear F;have l:=aX w (aI #[aU,aU,aU,aU,aU] 281);have bk:=bE.new w 281 #[aU,aU,aU,aU,aU];go_enter func118,ntmps118
 go_wp2_with fail
 refine(DU _).mono ?_;rintro e Z ⟨rfl,rfl⟩;have b:=Sl.lit Ku (w.alloc (aI #[aU,aU,aU,aU,aU] 281)) nV uI rfl 384;generalize w.alloc (aI #[aU,aU,aU,aU,aU] 281)=wa at *;replace l:=l.alloc l.size (aI uI 384);replace bk:=bk.alloc (aI uI 384);go_wp2_with fail
 refine(O.o _ _ b).mono ?_;rintro e w2 ⟨A,k,rfl,own,hb⟩;replace bk:=bk.keep hb;replace l:=fO l aT hb;clear hb b;rcases own.shape with⟨_,u,_⟩|⟨g,rfl⟩
 .cases u
 have b:=own.sl yG;have P:=own.lt g rfl;have c0:=b.GS (i:=0) aT;have c1:=b.GS (i:=1) aT;have c2:=b.GS (i:=2) aT;have c3:=b.GS (i:=3) aT;have c4:=b.GS (i:=4) aT;simp only[ac6,acZ,acP] at c0 c1 c2 c3 c4;clear b own;go_wp2_with fail
 have m:=bD c0;have n:=bD c1;have p:=bD c2;have r:=bD c3;have s:=bD c4;refine bM (bQ _) (λ_=>bQ) [5] (λ_ v w=>FE (jM c0) 281 #[aU,aU,aU,aU,aU] v w) [22] [] 35 (bZ _) (λ_ _ _ h B=>bV h B) (λ_ d hd _ v w w' _ h B=>h.keep B) aV aV bF ?_;repeat (first|(refine eK ?_)|(refine sC 5 [] bF bF bF bF (λγ w hC C=>?_) ?_;(simp only[cY];go_simp;exact pB (aX w _) ⟨_,rfl,Below.size hC,bE.new w _ _⟩);(try refine dE ?_)))
 refine dI ?_;intro γ w_ hb_ C;clear m n p r s;simp only[cY,Act.put,abN,abU,abS];refine dS ?_;obtain⟨g5,H,y,z⟩:=C 5 aT;simp only[H];clear C H;refine iO y hb_ z rfl 281 _ _ rfl #[n0,n1,c,f,j] rfl rfl rfl aV aV ?_;clear y hb_ z;intro w3 t D;refine cN ?_;simp only[Act.put];obtain⟨Q,a⟩:=D;replace bk:=bk.keep t;replace l:=fO l aT t;have I:=a.cell 0 n0 rfl;have J:=a.cell 1 n1 rfl;have K:=a.cell 2 c rfl;have L:=a.cell 3 f rfl;have M:=a.cell 4 j rfl;clear t;go_wp2_with fail
 refine(G.o _).mono ?_;rintro e N ⟨rfl,hb⟩;replace bk:=bk.keep hb;replace a:=a.keep hb;replace l:=fO l aT hb;clear hb I J K L M;have R:=bk.lt;have I:=a.cell 0 n0 rfl;have J:=a.cell 1 n1 rfl;have K:=a.cell 2 c rfl;have L:=a.cell 3 f rfl;have M:=a.cell 4 j rfl;have z0:=bk.cell 0 (.int .i64 0) rfl;have z1:=bk.cell 1 (.int .i64 0) rfl;have z2:=bk.cell 2 (.int .i64 0) rfl;have z3:=bk.cell 3 (.int .i64 0) rfl;have z4:=bk.cell 4 (.int .i64 0) rfl;have f0:=bk.frozen 0;have f1:=bk.frozen 1;have f2:=bk.frozen 2;have f3:=bk.frozen 3;have f4:=bk.frozen 4;cases q
 .go_wp2
  have E:=l.grown (tZ N w (.int .i64 0) (.int .i64 0) (.int .i64 0) (.int .i64 0) (.int .i64 0)) l.size (λk hk=>by injection hk with hk;omega);exact bodyPost_ret (v:= .tuple #[.agg #[aU,aU,aU,aU,aU], .int .i64 21]) (by simp[results,results118,go_sem, *]) rfl ⟨rfl,E⟩
 .go_wp2
  have E:=l.grown (tZ N w (.int .i64 n0) (.int .i64 n1) (.int .i64 c) (.int .i64 f) (.int .i64 j)) l.size (λk hk=>by injection hk with hk;omega);exact bodyPost_ret (v:= .tuple #[.agg #[n0,n1,c,f,j],aU]) (by simp[results,results118,go_sem, *]) rfl ⟨rfl,E⟩
end Pa
end
section
open Go.RowKit Go.Lib Go.Shelf dL Fr Up Nt
variable{F:Nat->Prop}{w w1 w2:aA}{q1 g:Nat}{k k':Kv}{e op N E:Int}
section
def p9(F:Nat->Prop)(g:Nat)(k:Kv)(e op A B C D:Int)(w:aA)(r:aM)(w':aA):Prop:=∃(N E:Int) (k':Kv),(lH k e op A B C D N E k'\/(N=0/\E=1/\k'=k))/\gK F g k' (.tuple #[.int .u64 N,E]) w r w'
theorem Ps{e:Nat}(he:e<4):oC (e:Int)=true:=acB aQ
theorem BxK.uW{a:Ka}{A B C D:Int}(h:BxK F w w1 q1 g a k op A B C D)(hd:lH k e op A B C D N E k')(hm:KM (Fb F q1) w2 g k')(kp:Kp (Fb F q1) w1 w2):p9 F g k e op A B C D w (.returned (.tuple #[.int .u64 N,E])) w2:=
 ⟨N,E,k', .inl hd,rfl,hm.less (λb hb=> .inl hb),h.k.trans kp.unbox⟩
theorem Ai{a:Ka}(h:bT F w g a k)(hw:KW k)(e p:Int):aG prog 168 #[.pointer a.gt,e,p] w λr w'=>∃v:Bool,r= .returned (.bool v)/\bT F w' g a {k with t:=PI k.t e p}/\Kp F w w':=by
 obtain⟨G,d,back⟩:=h.tb;refine(ZR d hw.t e p).mono ?_;rintro r w' ⟨v,rfl,b,c⟩;exact⟨v,rfl,(back _ _ b c).1,(back _ _ b c).2⟩
theorem Ij{a:Ka}(h:bT F w g a k)(e op A B C D:Int)(he:oC e=false):aG prog 119 #[.pointer g,e, .agg #[op,A,B,C,D]] w (p9 F g k e op A B C D w):=by
 have c:=aP (BxK.new h op A B C D);have b:=CH c.o.m e;rw[he] at b;have b:=aP b;clear h he;go_enter func119,ntmps119
 go_upto_region 3 with(fail)
 generalize w.alloc (aI #[op,A,B,C,D] 281)=w1 at *;generalize w.heap.size=q1 at *;go_wp2_with fail
 refine aR b ?_;rintro r f ⟨rfl,rfl⟩;have d:aH (p9 F g k e op A B C D w (.returned (.tuple #[bC, .int .i64 1])) w1):=⟨0,1,k, .inr ⟨rfl,rfl,rfl⟩,rfl,c.o.o.1,c.o.o.2⟩
 clear c b;go_wp2_with fail
 go_ret2
 exact d.o
theorem Gj{A B C D:Int}(h:Pa.iR op A B C D=true):(0<=op/\op<=19)/\0<=A:=by
 unfold Pa.iR at h;simp only[acY,ad0] at h;obtain⟨⟨⟨⟨a,h1⟩,_⟩,_⟩,_⟩:=h;refine⟨a,?_⟩;unfold Pa.iK at h1;split at h1
 .have:=adB h1;exact this.1
 .rw[beq_iff_eq] at h1;omega
theorem Rr{a:Ka}(h:bT F w g a k)(hw:KW k)(U:k.n+1<=1000000)(e:Nat)(he:e<4)(op A B C D:Int):aG prog 119 #[.pointer g,e, .agg #[op,A,B,C,D]] w (p9 F g k e op A B C D w):=by
 have L:=aP (BxK.new h op A B C D);have z:=CH L.o.m (e:Int);rw[Ps he] at z;have z:=aP z;obtain⟨rb,Q⟩:∃rb,Pa.iR op A B C D=rb:=⟨_,rfl⟩
 have G:=λW=>Pa.KU op A B C D W
 rw[Q] at G;have G:=aP G;have q:=aP Q;have j:=aP hw;have H:=aP he;have R:=aP U;clear h hw Q he U;go_enter func119,ntmps119
 go_upto_region 3 with(fail)
 generalize w.alloc (aI #[op,A,B,C,D] 281)=w1 at *;generalize w.heap.size=q1 at *;obtain⟨M,x,O,P,I⟩:=L.o.xs;go_wp2_with fail
 refine aR z ?_;rintro r Y ⟨rfl,rfl⟩;go_wp2_with fail
 refine aS (G.o _) ?_;rintro r l ⟨rfl,J⟩;have b:=aP (L.o.below J);clear M x O P I z G J L;cases rb with
 |false=>
  have s:aH (p9 F g k e op A B C D w (.returned (.tuple #[bC, .int .i64 1])) l):=⟨0,1,k, .inr ⟨rfl,rfl,rfl⟩,rfl,b.o.o.1,b.o.o.2⟩
  clear b q j H R;go_wp2_with fail
  go_ret2
  exact s.o
 |true=>
  obtain⟨M,x,O,P,I⟩:=b.o.xs;have i:aH (∀{f:FuncId} {args:Array aC} {Φ:aM->aA->Prop},aG prog f args l Φ->(∀r w',Φ r w'->(λr w'=>∃E,r= .returned (.int .i64 E)/\p9 F g k e op A B C D w (.returned (.tuple #[bC, .int .i64 E])) w') r w')->aG prog f args l (λr w'=>∃E,r= .returned (.int .i64 E)/\p9 F g k e op A B C D w (.returned (.tuple #[bC, .int .i64 E])) w')):=λh k=>h.mono k
  have y:aH (∀{f:FuncId} {args:Array aC} {Φ:aM->aA->Prop},aG prog f args l Φ->(∀r w',Φ r w'->(λr w'=>∃N E,r= .returned (.tuple #[.int .u64 N, .int .i64 E])/\p9 F g k e op A B C D w (.returned (.tuple #[.int .u64 N, .int .i64 E])) w') r w')->aG prog f args l (λr w'=>∃N E,r= .returned (.tuple #[.int .u64 N, .int .i64 E])/\p9 F g k e op A B C D w (.returned (.tuple #[.int .u64 N, .int .i64 E])) w')):=λh k=>h.mono k
  have S:=(Gj q.o).1;clear q;rcases(by omega:op=0\/op=6\/op=1\/op=3\/op=18\/op=2\/op=4\/op=5\/op=7\/op=8\/op=9\/op=10\/op=11\/op=12\/op=13\/op=14\/op=15\/op=16\/op=17\/op=19) with rfl|rfl|rfl|rfl|rfl|rfl|rfl|rfl|rfl|rfl|rfl|rfl|rfl|rfl|rfl|rfl|rfl|rfl|rfl|rfl
  all_goals clear S
  .have s:aH (p9 F g k e 0 A B C D w (.returned (.tuple #[bC,aU])) l):=⟨0,0,k, .inl (.null rfl),rfl,b.o.o.1,b.o.o.2⟩
   clear j H R i y;go_wp2_with fail
   go_ret2
   exact s.o
  .have pt:=b.o.m.pt;unfold pA at pt;have c:aH (∀W,aD l l W->aG prog 168 #[.pointer a.gt,e,A] W λr w'=>∃v:Bool,r= .returned (.bool v)/\bT (Fb F q1) w' g a {k with t:=PI k.t e A}/\Kp (Fb F q1) l w'):=λW V=>(Ai (b.o.m.below V).1 j.o e A).mono (by
    rintro r w' ⟨v,rfl,h1,X⟩;exact⟨v,rfl,h1,(b.o.m.below V).2.trans X⟩)
   clear i y;go_upto_region 17 with(fail)
   go_region_held3 (λW=>W.cell? (g,1)=some (.pointer a.gt)/\W.cell? (q1,1)=some (.int .i64 A)) (first|exact⟨pt,x⟩|exact⟨‹_›,‹_›⟩) ((go_at_call 168;(refine aS (c.o _ (Below.refl _ _).drew) ?_);rintro r d ⟨v,rfl,hm,kp⟩;(have K:=hm.pt);(have I:=kp.cell x (.inr rfl));(unfold pA at K);(have T:=bP hm kp);clear hm kp))
   all_goals
    have s:aH (∀E,p9 F g k e 6 A B C D w (.returned (.tuple #[bC, .int .i64 E])) d):=λE=>b.o.uW (.zG rfl) ⟨a,T.o.1⟩ T.o.2
    clear c M x O P I pt K T;cases v
    all_goals
     go_wp2_with fail
     go_ret2
     exact s.o _
  have c:=y.o (W3 b.o.m j.o e A) (by rintro r d ⟨rfl,hm,kp⟩;exact⟨_,_,rfl,b.o.uW (.alloc rfl) hm kp⟩);rotate_left
  have c:=y.o (YY b.o.m e A B) (by rintro r d ⟨rfl,hm,kp⟩;exact⟨_,_,rfl,b.o.uW (.read rfl) hm kp⟩);rotate_left
  have c:=y.o (ZK b.o.m e (by have:=H.o;omega)) (by rintro r d ⟨Z,E1,hf,rfl,hm,kp⟩;exact⟨_,_,rfl,b.o.uW (.next rfl hf) ⟨a,hm⟩ kp⟩);rotate_left
  have c:=i.o (Bl b.o.m j.o e A) (by rintro r d ⟨E,p,hf,rfl,hm,kp⟩;exact⟨_,rfl,b.o.uW (.free rfl hf) hm kp⟩);rotate_left
  have c:=i.o (V1 b.o.m e A B C) (by rintro r d ⟨rfl,hm,kp⟩;exact⟨_,rfl,b.o.uW (.write rfl) hm kp⟩);rotate_left
  have c:=i.o (Ca b.o.m j.o e A B C) (by rintro r d ⟨rfl,hm,kp⟩;exact⟨_,rfl,b.o.uW (.load rfl) hm kp⟩);rotate_left
  have c:=i.o (RB b.o.m j.o e A B C D) (by rintro r d ⟨E,p,hf,rfl,hm,kp⟩;exact⟨_,rfl,b.o.uW (.hand cE hf) hm kp⟩);rotate_left
  have c:=i.o (YE b.o.m j.o e A B C D) (by rintro r d ⟨E,p,hf,rfl,hm,kp⟩;exact⟨_,rfl,b.o.uW (.hand cE hf) hm kp⟩);rotate_left
  have c:=i.o (Q4 b.o.m j.o e A B C D) (by rintro r d ⟨E,p,hf,rfl,hm,kp⟩;exact⟨_,rfl,b.o.uW (.hand cE hf) hm kp⟩);rotate_left
  have c:=i.o (YD b.o.m j.o e A B C D) (by rintro r d ⟨E,p,hf,rfl,hm,kp⟩;exact⟨_,rfl,b.o.uW (.hand cE hf) hm kp⟩);rotate_left
  have c:=i.o (D2 b.o.m e 11 A B C D cE) (by rintro r d ⟨E,rfl,hm,kp⟩;exact⟨_,rfl,b.o.uW (.line cE) hm kp⟩);rotate_left
  have c:=i.o (D2 b.o.m e 12 A B C D cE) (by rintro r d ⟨E,rfl,hm,kp⟩;exact⟨_,rfl,b.o.uW (.line cE) hm kp⟩);rotate_left
  have c:=i.o (D2 b.o.m e 13 A B C D cE) (by rintro r d ⟨E,rfl,hm,kp⟩;exact⟨_,rfl,b.o.uW (.line cE) hm kp⟩);rotate_left
  have c:=i.o (XU b.o.m R.o e H.o A) (by rintro r d ⟨E,p,hf,rfl,hm,kp⟩;exact⟨_,rfl,b.o.uW (.p7 rfl hf) hm kp⟩);rotate_left
  have c:=i.o (Y3 b.o.m j.o e A B C D) (by rintro r d ⟨E,p,hf,rfl,hm,kp⟩;exact⟨_,rfl,b.o.uW (.time (.inl rfl) hf) hm kp⟩);rotate_left
  have c:=i.o (Y4 b.o.m j.o e A B C D) (by rintro r d ⟨E,p,hf,rfl,hm,kp⟩;exact⟨_,rfl,b.o.uW (.time (.inr (.inl rfl)) hf) hm kp⟩);rotate_left
  have c:=i.o (Ar b.o.m j.o e A B) (by rintro r d ⟨E,p,hf,rfl,hm,kp⟩;exact⟨_,rfl,b.o.uW (.send rfl hf) hm kp⟩);rotate_left
  have c:=i.o (YP b.o.m j.o e (by have:=H.o;omega) A B C D) (by rintro r d ⟨E,p,hf,rfl,hm,kp⟩;exact⟨_,rfl,b.o.uW (.time (.inr (.inr rfl)) hf) hm kp⟩);rotate_left
  all_goals
   have c:=aP c;as_aux_lemma=>
   go_wp2_with fail
   refine aR c ?_;first
    |rintro r d ⟨N,E,rfl,u⟩
    |rintro r d ⟨E,rfl,u⟩
   have s:=aP u;clear u c i y M x O P I;go_wp2_with fail
   go_ret2
   exact s.o
theorem TW{a:Ka}(h:bT F w g a k)(hw:KW k)(c:k.n+1<=1000000)(e op A B C D:Int):aG prog 119 #[.pointer g,e, .agg #[op,A,B,C,D]] w (p9 F g k e op A B C D w):=by
 cases he:oC e with
 |false=>exact Ij h e op A B C D he
 |true=>
  have b:=adB he;obtain⟨n,rfl⟩:=abR b.1;exact Rr h hw c n aQ op A B C D
end
end
section
open Go.RowKit Go.Lib Go.Shelf Go.Sort
variable{w:aA}{q:Nat}
section
def ZA(x y:Du):Int:=Lib.compareInt x.hd y.hd
theorem Kl(x y:Du):ltOf ZA x y=decide (x.hd<y.hd):=by
 unfold ltOf ZA Lib.compareInt;by_cases h1:x.hd<y.hd
 .simp[h1]
 .by_cases a:y.hd<x.hd <;> simp[h1,a]
theorem Zq:SWO (ltOf ZA) where
 irrefl x:=by rw[Kl];simp
 trans x y z h1 h2:=by rw[Kl] at *;simp at *;omega
 ntrans x y z h1 h2:=by rw[Kl] at *;simp at *;omega
theorem Ji(x y:Du)(W:aA):aG prog 189 #[.agg (uM x).toArray, .agg (uM y).toArray] W λe w'=>e= .returned (.int .i64 (ZA x y))/\∃q b,w'=grow (W.drewN q) b:=by
 have a:=λc=>AnyG.cmp_Compare_int YR x.hd y.hd c
 change ∀c,aG prog 147 _ _ _ at a
 show aG prog _ _ _ λe w'=>e= .returned (.int .i64 (Lib.compareInt x.hd y.hd))/\_
 generalize Lib.compareInt x.hd y.hd=r at a⊢;simp only[uM];obtain⟨d,f,g⟩:=x;go_enter func189,ntmps189
 go_wp2_with(go_at_call 147;refine(a _).mono ?_;rintro e w' ⟨rfl,rfl⟩)
 go_ret
 exact⟨rfl,0,_,by rw[alloc_eq_grow,alloc_eq_grow,grow_grow];rfl⟩
theorem YO(w:aA):aG prog 260 #[bH,aU,aU, .func (.func 189) #[] #[]] w λe w'=>e= .returned (.tuple #[])/\w=w':=by
 go_enter func260,ntmps260
 go_wp2_with fail
 go_loop [8] (λv8=>v8= .int .i64 1) (λ_=>0)
 case atStart=>exact rfl
 case round=>
  subst hrel;go_wp2_with fail
  refine bodyPost_end (v:= .tuple #[]) ?_ rfl ⟨rfl,rfl⟩;simp[results,results260,go_sem]
theorem Ci(w:aA):aG prog 230 #[bH,aU,aU,aU, .func (.func 189) #[] #[]] w λe w'=>e= .returned (.tuple #[])/\w=w':=by
 go_enter func230,ntmps230
 go_wp2_with fail
 go_loop [1,2,3] (λv1 v2 v3=>v1= .int .i64 0/\v2= .int .i64 0/\v3= .int .i64 0) (λ_ _ _=>0)
 case atStart=>exact⟨rfl,rfl,rfl⟩
 case round=>
  obtain⟨rfl,rfl,rfl⟩:=hrel;go_wp2_with fail
  refine aS (YO _) ?_;rintro e a ⟨rfl,rfl⟩;go_wp2_with fail
  first
   |(refine bodyPost_ret (v:= .tuple #[]) ?_ rfl ⟨rfl,rfl⟩;simp[results,results230,go_sem])
   |(refine bodyPost_end (v:= .tuple #[]) ?_ rfl ⟨rfl,rfl⟩;simp[results,results230,go_sem])
theorem WR(w:aA):aG prog 188 #[bH, .func (.func 189) #[] #[]] w λe w'=>e= .returned (.tuple #[])/\w=w':=by
 have hl:aG prog 231 #[bC] w λe w'=>e= .returned (.int .i64 0)/\w'=w:=by
  have h:=Any.bits_Len (SlLaysF0.n15.bits (P:=prog) (ρ:=GV) {UJ with}) 0 w aQ aQ;exact h
 go_enter func188,ntmps188
 go_wp2_with fail
 with_reducible refine hl.mono ?_
 rintro e a ⟨rfl,rfl⟩;go_wp2_with fail
 refine aS (Ci _) ?_;rintro e a ⟨rfl,rfl⟩;go_wp2_with fail
 go_end0
 exact⟨rfl,rfl⟩
def SoD(base c q:Nat)(L:List Du)(w:aA)(e:aM)(w':aA):Prop:=e= .returned (.tuple #[])/\∃L':List Du,L'.Perm L/\L'.Pairwise (λx y=>x.hd<=y.hd)/\bI uM 3 w' base 274 q c L'/\w.grownBy w' (some q)
theorem WH{base c:Nat}{L:List Du}(h:bI uM 3 w base 274 q c L)(hl:L.length<=1000000):aG prog 188 #[.slice q L.length c, .func (.func 189) #[] #[]] w (SoD base c q L w):=by
 have a:=AnyQ.slices_SortFunc UJ 3 (λw=>by kernel_rfl) (λw=>by kernel_rfl) uM rK.len rK.one ZA Zq 189 #[] q 0 c L.toArray w (enters_of func189 aV rfl) (λ_ _ _ _ x y=>Ji x y _) (NH rK cE h) (h.lt q rfl).2 (by rw[aeN];omega);refine Calls.mono (f:=188) a ?_;rintro e w' ⟨rfl,d',n,os,hp,hs,rfl⟩;obtain⟨h1,g⟩:=TX hp;have i:d'.size=L.length:=by rw[g,aeN]
 have d:L.toArray.size=d'.size:=g.symm;rw[d] at hs;obtain⟨o1,o2⟩:=K7 rK cE h d' i n os;exact⟨rfl,d'.toList,h1,IK hs (λx y b=>by rw[Kl] at b;have:=afN b;omega),o1,o2⟩
end
end
end Go.Proofs.YtacgiflhgdaeaaaGreat
