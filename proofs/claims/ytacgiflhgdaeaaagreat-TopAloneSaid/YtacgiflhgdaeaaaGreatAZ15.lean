/- Texts laid as one. -/
import Derived.Shelf.SlSortCmp.WholeK
import Derived.Shelf.SlicesG.Cmp
import Derived.Ground.SlsfProg
import Derived.Ground.SlgcProg
import Derived.Test.YtacgiflhgdaeaaaGreatAZ1
import Derived.Test.YtacgiflhgdaeaaaGreatAZ10
import Derived.Test.YtacgiflhgdaeaaaGreatAZ14
set_option linter.unusedVariables false
set_option linter.unusedSimpArgs false
set_option maxRecDepth 100000
set_option maxHeartbeats 20000000
namespace Go.Proofs.YtacgiflhgdaeaaaGreat
open Go.Proofs.Tryz
open Go renaming World->aA,Value->aC,Addr->aJ,Ending->aM,Calls->aG
open Go.RowKit renaming Below->aD,Hid->aH,intOf->aL
open Go.Obj renaming cells->aI
section
open Go.RowKit Go.Lib Go.Shelf
variable{C:Cf}{F:Nat->Prop}{w:aA}{g:Nat}
section
def fP(a b:Int):Int:=bits .and .i64 a b
def jI(C:Cf)(e s kd rt:Int):Option Hd:=match mH C e s with
 |none=>none
 |some h=>if h.kd=kd/\fP h.rt rt=rt then some h else none
def iT(kd ob rt:Int):Bool:=decide (1<=kd/\kd<=4/\0<=ob/\ob<32/\0<=rt/\rt<=15)
theorem RT(kd ob rt:Int)(w:aA):aG prog 228 #[.agg #[kd,ob,rt]] w λx w'=>x= .returned (.bool (iT kd ob rt))/\aD w w w':=by
 have a:=aX w (aI #[kd,ob,rt] 154);have b:=bF.new w 154 #[kd,ob,rt];go_enter func228,ntmps228
 go_upto_region 1 with(fail)
 generalize w.alloc (aI #[kd,ob,rt] 154)=w1 at *;generalize hq:w.heap.size=q1 at *;have c:=b.cell 0 kd rfl;have d:=b.cell 1 ob rfl;have e:=b.cell 2 rt rfl;clear b;go_wp2_with fail
 all_goals
  go_ret
  refine⟨jL (Eq.symm ?_),by first|exact a|(rw[hq];exact a)⟩;first
   |exact aaP aQ
   |(show decide _=_;exact aeG.2 aQ)
theorem Bo{e s:Int}(h:mH C e s=none)(kd rt:Int):jI C e s kd rt=none:=by unfold jI;rw[h]
theorem Bw{e s:Int}{x:Hd}(h:mH C e s=some x)(kd rt:Int):jI C e s kd rt=if x.kd=kd/\fP x.rt rt=rt then some x else none:=by unfold jI;rw[h]
theorem lU(h:eG F w g C)(e s kd rt:Int):aG prog 207 #[.pointer g,e,s,kd,rt] w λx w'=>x= .returned (.tuple #[mA (jI C e s kd rt), .bool (jI C e s kd rt).isSome])/\aD w w w':=by
 have j:=aX w (aI #[aU,aU,aU] 154);have B:=bF.new w 154 #[aU,aU,aU];have h1:=h.keep j;have q:=LB h1 e s;have E:w.heap.size<(w.alloc (aI #[aU,aU,aU] 154)).heap.size:=aT;clear h h1;cases y:mH C e s with
 |none=>
  rw[y] at q;have q:=aP q;have r:=aP (Bo y kd rt);clear y;generalize jI C e s kd rt=R at *;go_enter func207,ntmps207
  go_upto_region 1 with(fail)
  generalize w.alloc (aI #[aU,aU,aU] 154)=w1 at *;generalize hq:w.heap.size=q1 at *;go_wp2_with fail
  refine aR q ?_;rintro x l ⟨rfl,c⟩;simp only[mA,ab5];have m:=B.keep c;have d:=aX l (aI #[aU,aU,aU] 154);have b:=m.keep d;have t:=bF.new l 154 #[aU,aU,aU];have n:aD q1 w (l.alloc (aI #[aU,aU,aU] 154)):=(j.trans (c.mono aQ)).trans (d.mono (by have:=c.size;omega));clear B m j c d;go_upto_region 2 with(fail)
  generalize l.alloc (aI #[aU,aU,aU] 154)=w3 at *;generalize l.heap.size=q2 at *;have D:=b.lt;have G:=b.cell 0 (.int .i64 0) rfl;have H:=b.cell 1 (.int .i64 0) rfl;have I:=b.cell 2 (.int .i64 0) rfl;have J:=b.frozen 0;have K:=b.frozen 1;have L:=b.frozen 2;have v0:=t.cell 0 (.int .i64 0) rfl;have v1:=t.cell 1 (.int .i64 0) rfl;have v2:=t.cell 2 (.int .i64 0) rfl;go_wp2_with fail
  obtain⟨z0,u,z2⟩:=tQ b (.int .i64 0) (.int .i64 0) (.int .i64 0);have p:=pS n aQ (Zw q1) (.int .i64 0) (.int .i64 0) (.int .i64 0);generalize ((w3.setCell (q1,0) (.int .i64 0)).setCell (q1,1) (.int .i64 0)).setCell (q1,2) (.int .i64 0)=W at *;refine bodyPost_ret (v:= .tuple #[.agg #[aU,aU,aU],false]) ?_ rfl ⟨by rw[r.o];rfl,by first|exact p|(rw[hq];exact p)⟩;simp[z0,u,z2,results,results207,go_sem]
 |some x=>
  rw[y] at q;have q:=aP q;have f:=aP (Bw y kd rt);clear y;generalize jI C e s kd rt=R at *;obtain⟨r0,r1,i,M,N⟩:=x;simp only at f;go_enter func207,ntmps207
  go_upto_region 1 with(fail)
  generalize w.alloc (aI #[aU,aU,aU] 154)=w1 at *;generalize hq:w.heap.size=q1 at *;go_wp2_with fail
  refine aR q ?_;rintro x l ⟨rfl,c⟩;simp only[mA,ab4];have m:=B.keep c;have d:=aX l (aI #[r0,r1,i] 154);have b:=m.keep d;have t:=bF.new l 154 #[r0,r1,i];have n:aD q1 w (l.alloc (aI #[r0,r1,i] 154)):=(j.trans (c.mono aQ)).trans (d.mono (by have:=c.size;omega));clear B m j c d;go_upto_region 2 with(fail)
  generalize l.alloc (aI #[r0,r1,i] 154)=w3 at *;generalize l.heap.size=q2 at *;have D:=b.lt;have G:=b.cell 0 (.int .i64 0) rfl;have H:=b.cell 1 (.int .i64 0) rfl;have I:=b.cell 2 (.int .i64 0) rfl;have J:=b.frozen 0;have K:=b.frozen 1;have L:=b.frozen 2;have v0:=t.cell 0 r0 rfl;have v1:=t.cell 1 r1 rfl;have v2:=t.cell 2 i rfl;by_cases hk:r0=kd
  .by_cases z:fP i rt=rt
   .have r:aH (R=some ⟨r0,r1,i,M,N⟩):=by unfold aH;rw[f.o,Zz ⟨hk,z⟩]
    clear f;subst hk;have A:bits .and .i64 i rt=rt:=z;clear z;go_wp2_with fail
    obtain⟨z0,u,z2⟩:=tQ b (.int .i64 r0) (.int .i64 r1) (.int .i64 i);have p:=pS n aQ (Zw q1) (.int .i64 r0) (.int .i64 r1) (.int .i64 i);generalize ((w3.setCell (q1,0) r0).setCell (q1,1) r1).setCell (q1,2) i=W at *;refine bodyPost_ret (v:= .tuple #[.agg #[r0,r1,i],true]) ?_ rfl ⟨by rw[r.o];rfl,by first|exact p|(rw[hq];exact p)⟩;simp[z0,u,z2,results,results207,go_sem]
   .have r:aH (R=none):=by unfold aH;rw[f.o,aaA (λhc=>z hc.2)]
    clear f;subst hk;obtain⟨a,A⟩:∃a,bits .and .i64 i rt=a:=⟨_,rfl⟩
    have O:¬a=rt:=by rw[<-A];exact z
    clear z;go_wp2_with fail
    obtain⟨z0,u,z2⟩:=tQ b (.int .i64 0) (.int .i64 0) (.int .i64 0);have p:=pS n aQ (Zw q1) (.int .i64 0) (.int .i64 0) (.int .i64 0);generalize ((w3.setCell (q1,0) (.int .i64 0)).setCell (q1,1) (.int .i64 0)).setCell (q1,2) (.int .i64 0)=W at *;refine bodyPost_ret (v:= .tuple #[.agg #[aU,aU,aU],false]) ?_ rfl ⟨by rw[r.o];rfl,by first|exact p|(rw[hq];exact p)⟩;simp[z0,u,z2,results,results207,go_sem]
  .have r:aH (R=none):=by unfold aH;rw[f.o,aaA (λhc=>hk hc.1)]
   clear f;go_wp2_with fail
   obtain⟨z0,u,z2⟩:=tQ b (.int .i64 0) (.int .i64 0) (.int .i64 0);have p:=pS n aQ (Zw q1) (.int .i64 0) (.int .i64 0) (.int .i64 0);generalize ((w3.setCell (q1,0) (.int .i64 0)).setCell (q1,1) (.int .i64 0)).setCell (q1,2) (.int .i64 0)=W at *;refine bodyPost_ret (v:= .tuple #[.agg #[aU,aU,aU],false]) ?_ rfl ⟨by rw[r.o];rfl,by first|exact p|(rw[hq];exact p)⟩;simp[z0,u,z2,results,results207,go_sem]
def cY(C:Cf)(e s kd ob rt pf:Int):Int×Cf:=if iT kd ob rt=false then(1,C) else match oC e s with
 |none=>(1,C)
 |some k=>if(bJ C k).nu≠0 then(7,C) else(0,⟨C.S.set k ⟨kd,ob,rt,C.n+1,pf⟩,C.n+1⟩)
def BY(F:Nat->Prop)(g:Nat)(r:Int×Cf)(w:aA)(e:aM)(w':aA):Prop:=e= .returned (.int .i64 r.1)/\eG F w' g r.2/\Kp F w w'
section
variable{F:Nat->Prop}{w w':aA}{g k:Nat}{C:Cf}
theorem eG.Wn(h:eG F w g C)(v:Int):eG F (w.setCell (g,640) v) g {C with n:=v}/\Kp F w (w.setCell (g,640) v):=by
 have hl:=eZ lV C.S;have hb:=h.b.bX 640 v;have he:(rX C).toArray.setIfInBounds 640 (.int .i64 v)=(rX {C with n:=v}).toArray:=by
  rw[Zx];unfold rX;rw[aaQ _ _ (by rw[hl,h.len];omega),hl,h.len];rfl
 rw[he] at hb;have k:=h.fl.self h.fg (aZ (bK w g) 640 (.int .i64 v));exact⟨⟨hb,h.len,h.fl.kp k,h.fg⟩,k⟩
theorem Gf(hC:C.S.length=128)(hk:k<128)(x:Hd):lay (rX C).toArray (k *5) (xM x)=(rX {C with S:=C.S.set k x}).toArray:=by
 apply ad5;intro j;have hl:=eZ lV C.S;have a:=eZ lV (C.S.set k x);rw[lay_get? _ _ _ _ (by rw[ac5,Cv hC,lV];omega),lV];simp only[aaR];unfold rX;rw[aaL] at a;by_cases h:j<640
 .rw[aaV (by rw[hl,hC];omega),aaV (by simp only;rw[a,hC];omega)];have c:j /5 *5+j%5=j:=aQ;have d:j%5<5:=aQ;by_cases hq:j /5=k
  .have h1:=kM lV (C.S.set k x) k x (j%5) (by simp[hC,hk]) d;rw[Zz aQ,show j - k *5=j%5 by omega,<-h1];simp only;congr 1
   omega
  .rw[aaA aQ];have b:j /5<C.S.length:=aQ;have h1:=kM lV (C.S.set k x) (j /5) C.S[j /5] (j%5) (by rw[acJ (λe=>hq e.symm),Zv b]) d;have f:=kM lV C.S (j /5) C.S[j /5] (j%5) (Zv b) d;rw[c] at h1 f;rw[h1,f]
 .rw[aaA aQ,aaJ (by rw[hl,hC];omega),aaJ (by simp only;rw[a,hC];omega),hl,a]
theorem eG.Qj(h:eG F w g C)(hk:k<128)(x:Hd):eG F (w.setCells g (k *5) (xM x)) g {C with S:=C.S.set k x}/\Kp F w (w.setCells g (k *5) (xM x)):=by
 have hb:=iX g _ (xM x) (k *5) w _ h.b;rw[Gf h.len hk x] at hb;have a:=h.fl.self h.fg (fJ g (xM x) (k *5) w w (bK w g));exact⟨⟨hb,by simp only[aaL];exact h.len,h.fl.kp a,h.fg⟩,a⟩
end
end
variable{q:Nat}{X:(Nat->Prop)->aA->Prop}
section
theorem dN.less(M:dN X)(h:X (Fb F q) w)(fl:Ol F w):X F w:=M.unbox h fl (bK w q)
theorem eG.less(h:eG (Fb F q) w g C):eG F w g C:=⟨h.b,h.len,λb hb=>h.fl b (.inl hb),λhf=>h.fg (.inl hf)⟩
theorem eG.there{k:Nat}(h:eG F w g C)(hk:k<128):w.there g (k *5) 5:=λj a=>by
 refine⟨?_,h.fz _⟩;rw[h.b.cell (k *5+j) ((xM (bJ C k))[j]'(by rw[lV];exact a)) (by rw[aaR,SX h.len hk a,Zv])];rfl
theorem FV(h:eG F w g C)(V:0<=C.n/\C.n<=1000000000000)(e s kd ob rt pf:Int):aG prog 183 #[.pointer g,e,s, .agg #[kd,ob,rt],pf] w (BY F g (cY C e s kd ob rt pf) w):=by
 have t:=aX w (aI #[kd,ob,rt] 154);have z:=bF.new w 154 #[kd,ob,rt];have L:=h.fl.below t;have h1:=(eG.cD g C).box h h.fl (aI #[kd,ob,rt] 154);have Q:=aP (λW=>NO g e s W);have q:=aP (λW=>RT kd ob rt W);have b:aH (cY C e s kd ob rt pf=if iT kd ob rt=false then((1:Int),C) else match oC e s with
  |none=>((1:Int),C)
  |some k=>if(bJ C k).nu≠0 then((7:Int),C) else((0:Int),⟨C.S.set k ⟨kd,ob,rt,C.n+1,pf⟩,C.n+1⟩)):=rfl
 generalize cY C e s kd ob rt pf=R at *;clear h;go_enter func183,ntmps183
 go_upto_region 1 with(fail)
 generalize w.alloc (aI #[kd,ob,rt] 154)=w1 at *;generalize hq:w.heap.size=q1 at *;have E:=z.cell 0 kd rfl;have G:=z.cell 1 ob rfl;have H:=z.cell 2 rt rfl;have H1:=aP h1;have u:=aP L;clear h1 L t;go_wp2_with fail
 refine aS (Q.o _) ?_;rintro x X ⟨rfl,rfl⟩;cases A:iT kd ob rt with
 |false=>
  rw[A] at q;rw[A] at b;cases hi:oC e s with
  |none=>
   simp only[pM,abT];go_wp2_with fail
   refine aS (q.o _) ?_;rintro x m ⟨rfl,a⟩;have f:aH (BY F g R w (.returned (.int .i64 1)) m):=by
    have:=b.o;simp only[abI] at this;unfold aH;rw[this];exact⟨rfl,(H1.o.keep a).less,u.o.trans (H1.o.kp a).unbox⟩
   go_wp2_with fail
   go_ret
   exact f.o
  |some k=>
   simp only[pM,aa4];go_wp2_with fail
   refine aS (q.o _) ?_;rintro x m ⟨rfl,a⟩;have f:aH (BY F g R w (.returned (.int .i64 1)) m):=by
    have:=b.o;simp only[abI] at this;unfold aH;rw[this];exact⟨rfl,(H1.o.keep a).less,u.o.trans (H1.o.kp a).unbox⟩
   go_wp2_with fail
   go_ret
   exact f.o
 |true=>
  rw[A] at q;rw[A] at b;cases hi:oC e s with
  |none=>
   rw[hi] at b;simp only[pM,abT];go_wp2_with fail
   refine aS (q.o _) ?_;rintro x m ⟨rfl,a⟩;have f:aH (BY F g R w (.returned (.int .i64 1)) m):=by
    have:=b.o;rw[aaA cC] at this;unfold aH;rw[this];exact⟨rfl,(H1.o.keep a).less,u.o.trans (H1.o.kp a).unbox⟩
   go_wp2_with fail
   go_ret
   exact f.o
  |some k=>
   rw[hi] at b;have hk:=(uF hi).1;clear hi;simp only[pM,aa4];go_wp2_with fail
   refine aS (q.o _) ?_;rintro x m ⟨rfl,a⟩;have r:=H1.o.keep a;obtain⟨_,_,_,c3,_⟩:=r.at_ hk;have cn:=r.cn;have fn:=r.fz 640;have M:=bN r (H1.o.kp a);by_cases B:(bJ C k).nu=0
   .have I:aH (R=((0:Int),⟨C.S.set k ⟨kd,ob,rt,C.n+1,pf⟩,C.n+1⟩)):=by
     have:=b.o;simp only[adJ,aaY,B,ne_eq,not_true_eq_false] at this;exact this
    rw[B] at c3;obtain⟨N,J⟩:=r.Wn (C.n+1);have p:=(((H1.o.kp a).trans J)).aY z (.inr rfl);have D:=bN N ((H1.o.kp a).trans J);clear a r N J b B E G H;go_upto_region 7 with(fail)
    have E:=p.cell 0 kd rfl;have G:=p.cell 1 ob rfl;have H:=p.cell 2 rt rfl;have K:=D.o.1.cn;generalize m.setCell (g,640) (.int .i64 (C.n+1))=w4 at *;have i:=bD E;have j:=bD G;have l:=bD H;have c:=bD K;refine bO (bS _) (λ_=>bS) [] (λ_ _ _=>True) [9] [] 44 (bY _) (λ_ _ _ h O=>bU h O) (λ_ d hd _ v w w' _ h O=>by cases hd) aV aV bL ?_;repeat refine eA ?_
    refine dC ?_;intro γ w5 y hT;clear i j l c;simp only[cO,Act.put,Zx,aaE,aaD];refine dP ?_;have P:=D.o.1.keep y;obtain⟨T,U⟩:=P.Qj hk ⟨kd,ob,rt,C.n+1,pf⟩;refine wpList_store_mid rfl 263 _ _ rfl g (k *5) (xM ⟨kd,ob,rt,C.n+1,pf⟩).toArray rfl rfl (P.there hk) aV (all_oneCell_toArray (ZI.one _)) ?_;have f:aH (BY F g R w (.returned (.int .i64 0)) (w5.setCells g (k *5) (xM ⟨kd,ob,rt,C.n+1,pf⟩))):=by
     unfold aH;rw[I.o];exact⟨rfl,T.less,u.o.trans ((D.o.2.trans (D.o.1.kp y)).trans U).unbox⟩
    refine cI ?_;try refine dE ?_
    go_wp2_with fail
    go_ret
    exact f.o
   .have f:aH (BY F g R w (.returned (.int .i64 7)) m):=by
     have:=b.o;simp only[adJ,aaY,ne_eq,B,not_false_eq_true,abI] at this;unfold aH;rw[this];exact⟨rfl,M.o.1.less,u.o.trans M.o.2.unbox⟩
    clear b;generalize (bJ C k).nu=nu at *;go_wp2_with fail
    go_ret
    exact f.o
theorem PH(h:eG F w g C)(f:0<=C.n/\C.n<=1000000000000)(e s kd ob rt:Int):aG prog 141 #[.pointer g,e,s, .agg #[kd,ob,rt]] w (BY F g (cY C e s kd ob rt 0) w):=by
 have a:=aX w (aI #[kd,ob,rt] 154);have b:=bF.new w 154 #[kd,ob,rt];have i:=aP (h.kp a);have j:=aP (FV (h.keep a) f e s kd ob rt 0);clear h;go_enter func141,ntmps141
 go_upto_region 1 with(fail)
 generalize w.alloc (aI #[kd,ob,rt] 154)=w1 at *;generalize hq:w.heap.size=q1 at *;have l:=b.cell 0 kd rfl;have m:=b.cell 1 ob rfl;have p:=b.cell 2 rt rfl;clear b a;go_wp2_with fail
 refine aR j ?_;rintro x q ⟨rfl,c,d⟩;have k:=bN c (i.o.trans d);clear c d;go_wp2_with fail
 go_ret
 exact⟨rfl,k.o⟩
end
end
section
open Go.Shelf
def C3:Go.Shelf.Ren:=⟨λ|6=>271|15=>231|14=>297|28=>268|29=>269|20=>301|21=>302|22=>303|23=>304|24=>305|25=>306|26=>307|27=>308|46=>310|47=>292|48=>293|49=>311|50=>312|57=>313|n=>n,λ|22=>421|24=>424|25=>460|3=>3|39=>405|0=>0|53=>457|55=>75|4=>4|46=>451|45=>450|50=>276|5=>5|9=>9|66=>469|70=>472|76=>476|77=>415|n=>n,λ|n=>n⟩
theorem NZ:Go.Proofs.SlLaysF0.n6 prog C3:={
 mixed:=aV
 f6:=⟨f271.name,cC,func271.trans (congrArg some aV)⟩
 f14:=⟨f297.name,cC,func297.trans (congrArg some aV)⟩
 f15:=func231.trans (congrArg some aV)
 f20:=⟨f301.name,cC,func301.trans (congrArg some aV)⟩
 f21:=⟨f302.name,cC,func302.trans (congrArg some aV)⟩
 f22:=⟨f303.name,cC,func303.trans (congrArg some aV)⟩
 f23:=⟨f304.name,cC,func304.trans (congrArg some aV)⟩
 f24:=⟨f305.name,cC,func305.trans (congrArg some aV)⟩
 f25:=⟨f306.name,cC,func306.trans (congrArg some aV)⟩
 f26:=⟨f307.name,cC,func307.trans (congrArg some aV)⟩
 f27:=⟨f308.name,cC,func308.trans (congrArg some aV)⟩
 f28:=func268.trans (congrArg some aV)
 f29:=func269.trans (congrArg some aV)
 f46:=⟨f310.name,cC,func310.trans (congrArg some aV)⟩
 f47:=func292.trans (congrArg some aV)
 f48:=func293.trans (congrArg some aV)
 f49:=⟨f311.name,cC,func311.trans (congrArg some aV)⟩
 f50:=⟨f312.name,cC,func312.trans (congrArg some aV)⟩
 f57:=⟨f313.name,cC,func313.trans (congrArg some aV)⟩
 t0:=underlying0
 a0:=isAgg0
 z0:=sizeOf0
 v0:=zeroValue0
 t3:=underlying3
 a3:=isAgg3
 z3:=sizeOf3
 v3:=zeroValue3
 t4:=underlying4
 a4:=isAgg4
 z4:=sizeOf4
 v4:=zeroValue4
 t5:=underlying5
 a5:=isAgg5
 z5:=sizeOf5
 v5:=zeroValue5
 t9:=underlying9
 a9:=isAgg9
 z9:=sizeOf9
 v9:=zeroValue9
 t22:=underlying421
 a22:=isAgg421
 z22:=sizeOf421
 v22:=zeroValue421
 t25:=underlying460
 a25:=isAgg460
 z25:=sizeOf460
 v25:=zeroValue460
 t39:=underlying405
 a39:=isAgg405
 z39:=sizeOf405
 v39:=zeroValue405
 t45:=underlying450
 a45:=isAgg450
 z45:=sizeOf450
 v45:=zeroValue450
 t46:=underlying451
 a46:=isAgg451
 z46:=sizeOf451
 v46:=zeroValue451
 t50:=underlying276
 a50:=isAgg276
 z50:=sizeOf276
 v50:=zeroValue276
 t53:=underlying457
 a53:=isAgg457
 z53:=sizeOf457
 v53:=zeroValue457
 t55:=underlying75
 a55:=isAgg75
 z55:=sizeOf75
 v55:=zeroValue75
 t66:=underlying469
 a66:=isAgg469
 z66:=sizeOf469
 v66:=zeroValue469
 t70:=underlying472
 a70:=isAgg472
 z70:=sizeOf472
 v70:=zeroValue472
 t76:=underlying476
 a76:=isAgg476
 z76:=sizeOf476
 v76:=zeroValue476
 t77:=underlying415
 a77:=isAgg415
 z77:=sizeOf415
 v77:=zeroValue415}
def GF:Go.Shelf.Ren:=⟨λ|6=>188|15=>231|14=>230|28=>268|29=>269|20=>260|21=>261|22=>262|23=>263|24=>264|25=>265|26=>266|27=>267|46=>291|47=>292|48=>293|49=>294|50=>295|57=>300|n=>n,λ|22=>270|24=>274|25=>375|3=>3|39=>405|0=>0|53=>457|55=>75|4=>4|46=>451|45=>450|50=>276|5=>5|9=>9|66=>469|70=>472|76=>476|77=>415|n=>n,λ|n=>n⟩
theorem TR:Go.Proofs.SlLaysF0.n6 prog GF:={
 mixed:=aV
 f6:=⟨f188.name,cC,func188.trans (congrArg some aV)⟩
 f14:=⟨f230.name,cC,func230.trans (congrArg some aV)⟩
 f15:=func231.trans (congrArg some aV)
 f20:=⟨f260.name,cC,func260.trans (congrArg some aV)⟩
 f21:=⟨f261.name,cC,func261.trans (congrArg some aV)⟩
 f22:=⟨f262.name,cC,func262.trans (congrArg some aV)⟩
 f23:=⟨f263.name,cC,func263.trans (congrArg some aV)⟩
 f24:=⟨f264.name,cC,func264.trans (congrArg some aV)⟩
 f25:=⟨f265.name,cC,func265.trans (congrArg some aV)⟩
 f26:=⟨f266.name,cC,func266.trans (congrArg some aV)⟩
 f27:=⟨f267.name,cC,func267.trans (congrArg some aV)⟩
 f28:=func268.trans (congrArg some aV)
 f29:=func269.trans (congrArg some aV)
 f46:=⟨f291.name,cC,func291.trans (congrArg some aV)⟩
 f47:=func292.trans (congrArg some aV)
 f48:=func293.trans (congrArg some aV)
 f49:=⟨f294.name,cC,func294.trans (congrArg some aV)⟩
 f50:=⟨f295.name,cC,func295.trans (congrArg some aV)⟩
 f57:=⟨f300.name,cC,func300.trans (congrArg some aV)⟩
 t0:=underlying0
 a0:=isAgg0
 z0:=sizeOf0
 v0:=zeroValue0
 t3:=underlying3
 a3:=isAgg3
 z3:=sizeOf3
 v3:=zeroValue3
 t4:=underlying4
 a4:=isAgg4
 z4:=sizeOf4
 v4:=zeroValue4
 t5:=underlying5
 a5:=isAgg5
 z5:=sizeOf5
 v5:=zeroValue5
 t9:=underlying9
 a9:=isAgg9
 z9:=sizeOf9
 v9:=zeroValue9
 t22:=underlying270
 a22:=isAgg270
 z22:=sizeOf270
 v22:=zeroValue270
 t25:=underlying375
 a25:=isAgg375
 z25:=sizeOf375
 v25:=zeroValue375
 t39:=underlying405
 a39:=isAgg405
 z39:=sizeOf405
 v39:=zeroValue405
 t45:=underlying450
 a45:=isAgg450
 z45:=sizeOf450
 v45:=zeroValue450
 t46:=underlying451
 a46:=isAgg451
 z46:=sizeOf451
 v46:=zeroValue451
 t50:=underlying276
 a50:=isAgg276
 z50:=sizeOf276
 v50:=zeroValue276
 t53:=underlying457
 a53:=isAgg457
 z53:=sizeOf457
 v53:=zeroValue457
 t55:=underlying75
 a55:=isAgg75
 z55:=sizeOf75
 v55:=zeroValue75
 t66:=underlying469
 a66:=isAgg469
 z66:=sizeOf469
 v66:=zeroValue469
 t70:=underlying472
 a70:=isAgg472
 z70:=sizeOf472
 v70:=zeroValue472
 t76:=underlying476
 a76:=isAgg476
 z76:=sizeOf476
 v76:=zeroValue476
 t77:=underlying415
 a77:=isAgg415
 z77:=sizeOf415
 v77:=zeroValue415}
def XE:Go.Shelf.Ren:=⟨λ|5=>147|7=>191|n=>n,λ|22=>3|3=>3|4=>4|n=>n,λ|n=>n⟩
theorem X3:Go.Proofs.SlLaysC2.n5 prog XE:={
 mixed:=aV
 f5:=⟨f147.name,cC,func147.trans (congrArg some aV)⟩
 f7:=⟨f191.name,cC,func191.trans (congrArg some aV)⟩
 t3:=underlying3
 a3:=isAgg3
 z3:=sizeOf3
 v3:=zeroValue3
 t4:=underlying4
 a4:=isAgg4
 z4:=sizeOf4
 v4:=zeroValue4
 t22:=underlying3
 a22:=isAgg3
 z22:=sizeOf3
 v22:=zeroValue3}
end
section
open Go.RowKit Go.Lib Go.Shelf Go.Sort
variable{j q:Nat}{w:aA}
section
section
variable{α:Type}[Inhabited α]{enc:α->List aC}{sz:Nat}
theorem N4(he:∀x,(enc x).length=sz)(e:0<sz)(d:Array α)(b:j<d.size *sz):(d.toList.flatMap enc)[j]?=some (flatK enc sz d)[j]!:=by
 have hq:j /sz<d.size:=aeI (by rw[ad9];exact b);have a:j /sz *sz+j%sz=j:=by rw[ad9];exact Nat.div_add_mod j sz
 have c:j%sz<sz:=aeP _ e;have h1:=kM he d.toList (j /sz) d[j /sz]! (j%sz) (by rw[aaX,aeD d _ hq];exact abO hq) c;rw[a] at h1;rw[h1,get_flatK _ _ _ _ b,aeD (enc d[j /sz]!) (j%sz) (by rw[he];exact c)];exact Zv _
theorem MV(he:eL enc sz)(b:0<sz){base:Nat}{e:TypeId}{c:Nat}{L:List α}(h:bI enc sz w base e q c L):HoldsK enc sz w q 0 L.toArray:=by
 intro j a;rw[size_flatK,ac5] at a;obtain⟨cur,h1,d,f,i,k,g⟩:=eV h;have hc:L.length *sz<=c *sz:=abU _ f;have hk:=N4 he.len b L.toArray (j:=j) (by rw[ac5];exact a);simp only at hk;rw[<-g,aa7,Zz a,aaX] at hk;rw[aa8];exact⟨(bF.cell d j _ hk).trans rfl,(cZ h j aQ).2⟩
theorem KG(he:eL enc sz)(l:0<sz){base:Nat}{e:TypeId}{c:Nat}{L:List α}(h:bI enc sz w base e q c L)(a:Array α)(hd:a.size=L.length)(m:Nat)(os:Array Obj):
 bI enc sz (sortWorldK enc sz w q 0 m a os) base e q c a.toList/\w.grownBy (sortWorldK enc sz w q 0 m a os) (some q):=by
 obtain⟨cur,h1,f,g,n,o,p⟩:=eV h;have hc:L.length *sz<=c *sz:=abU _ g;have hq:q<w.heap.size:=bF.lt f;have k:∀i,i<w.heap.size->(sortWorldK enc sz w q 0 m a os).heap[i]?=(w.heap.modify q (onCells (putCells id 0 (flatK enc sz a))))[i]?:=λi hi=>by
  show(w.heap.modify q _++os)[i]?=_;rw[adL (by simpa using hi)]
 refine⟨⟨?_, .inr ⟨q,c,putCells id 0 (flatK enc sz a) cur,?_,h1,?_,?_,n,?_,?_⟩⟩,rfl,rfl,rfl,?_,λi hi b=>?_⟩
 .rw[eZ he.len]
 .rfl
 .rw[k q hq,adN,Zz rfl,f];rfl
 .rw[ac6,hd];exact g
 .unfold putCells;rw[Array.size_mapIdx];exact o
 .rw[ac6,hd];apply adD;intro j;by_cases d:j<L.length *sz
  .rw[aa7,Zz d,aaX];unfold putCells;rw[Array.getElem?_mapIdx,abO aQ,aa4,Zz ⟨aaH _,by rw[size_flatK,hd,aa8];exact d⟩,Nat.sub_zero];exact(N4 he.len l a (by rw[hd];exact d)).symm
  .rw[abR (by rw[abJ];omega),abR (by rw[eZ he.len,ac6,hd];omega)]
 .show w.heap.size<=(w.heap.modify q _++os).size;rw[Array.size_append,Array.size_modify];omega
 .rw[k i hi,adN,aaA (λe=>b (by rw[e]))]
end
structure cM where
 e:Int
 s:Int
 h:Hd
instance:Inhabited cM:=⟨⟨0,0,DP⟩⟩
def wS(p:cM):List aC:= [.int .i64 p.e, .int .i64 p.s, .int .i64 p.h.kd, .int .i64 p.h.ob, .int .i64 p.h.rt, .int .i64 p.h.nu, .int .i64 p.h.pf]
theorem jG:eL wS 7:=⟨λ_=>rfl,λx u hu=>by simp[wS] at hu;rcases hu with rfl|rfl|rfl|rfl|rfl|rfl|rfl <;> rfl⟩
def ZC(x y:cM):Int:=Lib.compareInt x.h.nu y.h.nu
theorem Jr(x y:cM):ltOf ZC x y=decide (x.h.nu<y.h.nu):=by
 unfold ltOf ZC Lib.compareInt;by_cases h1:x.h.nu<y.h.nu
 .simp[h1]
 .by_cases a:y.h.nu<x.h.nu <;> simp[h1,a]
theorem Wt:SWO (ltOf ZC) where
 irrefl x:=by rw[Jr];simp
 trans x y z h1 h2:=by rw[Jr] at *;simp at *;omega
 ntrans x y z h1 h2:=by rw[Jr] at *;simp at *;omega
theorem Dd(x y:cM)(W:aA):aG prog 272 #[.agg (wS x).toArray, .agg (wS y).toArray] W λe w'=>e= .returned (.int .i64 (ZC x y))/\∃q b,w'=grow (W.drewN q) b:=by
 have a:=λc=>AnyG.cmp_Compare_int X3 x.h.nu y.h.nu c
 change ∀c,aG prog 147 _ _ _ at a
 show aG prog _ _ _ λe w'=>e= .returned (.int .i64 (Lib.compareInt x.h.nu y.h.nu))/\_
 generalize Lib.compareInt x.h.nu y.h.nu=r at a⊢;simp only[wS];obtain⟨d,f,g,i,j,k,l⟩:=x;go_enter func272,ntmps272
 go_wp2_with(go_at_call 147;refine(a _).mono ?_;rintro e w' ⟨rfl,rfl⟩)
 go_ret
 exact⟨rfl,0,_,by rw[alloc_eq_grow,alloc_eq_grow,grow_grow];rfl⟩
theorem Am(w:aA):aG prog 301 #[bH,aU,aU, .func (.func 272) #[] #[]] w λe w'=>e= .returned (.tuple #[])/\w=w':=by
 go_enter func301,ntmps301
 go_wp2_with fail
 go_loop [8] (λv8=>v8= .int .i64 1) (λ_=>0)
 case atStart=>exact rfl
 case round=>
  subst hrel;go_wp2_with fail
  refine bodyPost_end (v:= .tuple #[]) ?_ rfl ⟨rfl,rfl⟩;simp[results,results301,go_sem]
theorem Y7(w:aA):aG prog 297 #[bH,aU,aU,aU, .func (.func 272) #[] #[]] w λe w'=>e= .returned (.tuple #[])/\w=w':=by
 go_enter func297,ntmps297
 go_wp2_with fail
 go_loop [1,2,3] (λv1 v2 v3=>v1= .int .i64 0/\v2= .int .i64 0/\v3= .int .i64 0) (λ_ _ _=>0)
 case atStart=>exact⟨rfl,rfl,rfl⟩
 case round=>
  obtain⟨rfl,rfl,rfl⟩:=hrel;go_wp2_with fail
  refine aS (Am _) ?_;rintro e a ⟨rfl,rfl⟩;go_wp2_with fail
  first
   |(refine bodyPost_ret (v:= .tuple #[]) ?_ rfl ⟨rfl,rfl⟩;simp[results,results297,go_sem])
   |(refine bodyPost_end (v:= .tuple #[]) ?_ rfl ⟨rfl,rfl⟩;simp[results,results297,go_sem])
theorem U3(w:aA):aG prog 271 #[bH, .func (.func 272) #[] #[]] w λe w'=>e= .returned (.tuple #[])/\w=w':=by
 have hl:aG prog 231 #[bC] w λe w'=>e= .returned (.int .i64 0)/\w'=w:=by
  have h:=Any.bits_Len (SlLaysF0.n15.bits (P:=prog) (ρ:=C3) {NZ with}) 0 w aQ aQ;exact h
 go_enter func271,ntmps271
 go_wp2_with fail
 with_reducible refine hl.mono ?_
 rintro e a ⟨rfl,rfl⟩;go_wp2_with fail
 refine aS (Y7 _) ?_;rintro e a ⟨rfl,rfl⟩;go_wp2_with fail
 go_end0
 exact⟨rfl,rfl⟩
theorem GX{α:Type}[Inhabited α]{lt:α->α->Bool}{R:α->α->Prop}{d:Array α}(h:SortedIn lt 0 d.size d)(c:∀x y,lt y x=false->R x y):d.toList.Pairwise R:=by
 rw[acK];intro i j hi a b;rw[ac6] at hi a;have h1:=h i j (aaH _) b a;rw[aeD d j a,aeD d i hi] at h1;rw[aeJ,aeJ];exact c _ _ h1
theorem S7{α:Type}[Inhabited α]{d a:Array α}(h:PermIn 0 d.size d a):a.toList.Perm d.toList/\a.size=d.size:=by
 obtain⟨h1,_,b⟩:=h;rw[Array.extract_size] at b;rw[show a.extract 0 d.size=a by rw[<-h1,Array.extract_size]] at b;exact⟨b,h1⟩
def Yh(base c q:Nat)(L:List cM)(w:aA)(e:aM)(w':aA):Prop:=e= .returned (.tuple #[])/\∃L':List cM,L'.Perm L/\L'.Pairwise (λx y=>x.h.nu<=y.h.nu)/\bI wS 7 w' base 424 q c L'/\w.grownBy w' (some q)
theorem WT{base c:Nat}{L:List cM}(h:bI wS 7 w base 424 q c L)(hl:L.length<=1000000):aG prog 271 #[.slice q L.length c, .func (.func 272) #[] #[]] w (Yh base c q L w):=by
 have a:=AnyQ.slices_SortFunc NZ 7 (λw=>by kernel_rfl) (λw=>by kernel_rfl) wS jG.len jG.one ZC Wt 272 #[] q 0 c L.toArray w (enters_of func272 aV rfl) (λ_ _ _ _ x y=>Dd x y _) (MV jG cC h) (h.lt q rfl).2 (by rw[ac5];omega);refine Calls.mono (f:=271) a ?_;rintro e w' ⟨rfl,d,n,os,hp,hs,rfl⟩;obtain⟨h1,i⟩:=S7 hp;have j:d.size=L.length:=by rw[i,ac5]
 have g:L.toArray.size=d.size:=i.symm;rw[g] at hs;obtain⟨o1,o2⟩:=KG jG cC h d j n os;exact⟨rfl,d.toList,h1,GX hs (λx y b=>by rw[Jr] at b;have:=ad6 b;omega),o1,o2⟩
end
end
section
open Go.RowKit Go.Lib Go.Shelf
variable{w:aA}{q g:Nat}{z la v:aC}{F:Nat->Prop}{C:Cf}
section
def fY(p:cM):Nat:=p.e.toNat *16+p.s.toNat
def xG(C:Cf)(p:cM):Cf:={C with S:=C.S.set (fY p) DP}
def ZA(p:cM):aC:= .agg #[p.e,p.s,p.h.kd,p.h.ob,p.h.rt]
def oH(p:cM):List aC:= [.int .i64 p.e, .int .i64 p.s, .int .i64 p.h.kd, .int .i64 p.h.ob, .int .i64 p.h.rt]
theorem fV:eL oH 5:=⟨λ_=>rfl,λx u hu=>by simp[oH] at hu;rcases hu with rfl|rfl|rfl|rfl|rfl <;> rfl⟩
theorem W7:jS prog 151 156 5 40:=fU (z:= .agg #[aU,aU,aU,aU,aU]) underlying151 aV (by simp[Value.cells]) aQ
theorem Wu:jS prog 421 424 7 56:=fU (z:= .agg #[aU,aU,aU,aU,aU,aU,aU]) underlying421 aV (by simp[Value.cells]) aQ
theorem Dp{t:TypeId}{x y:aC}(h:bF w q t #[x,y,z,la,v])(a b c d e:aC):bF (((((w.setCell (q,0) a).setCell (q,1) b).setCell (q,2) c).setCell (q,3) d).setCell (q,4) e) q t #[a,b,c,d,e]/\w.grownBy (((((w.setCell (q,0) a).setCell (q,1) b).setCell (q,2) c).setCell (q,3) d).setCell (q,4) e) (some q):=by
 have h1:=((((h.bX 0 a).bX 1 b).bX 2 c).bX 3 d).bX 4 e;refine⟨by simpa using h1,aZ (aZ (aZ (aZ (aZ (bK w q) 0 a) 1 b) 2 c) 3 d) 4 e⟩
def Vx(F:Nat->Prop)(g:Nat)(C:Cf)(p:cM)(w:aA)(e:aM)(w':aA):Prop:=e= .returned (ZA p)/\eG F w' g (xG C p)/\Kp F w w'
theorem DE(h:eG F w g C)(p:cM)(hp:oC p.e p.s=some (fY p)):aG prog 235 #[.pointer g, .agg (wS p).toArray] w (Vx F g C p w):=by
 obtain⟨e,s,kd,ob,rt,nu,pf⟩:=p;simp only[wS];obtain⟨B,a,b,ha,hb,U,M,hk⟩:=uF hp;simp only at ha hb;subst ha hb;have fl:=h.fl;have r:=aX w (aI #[a,b,kd,ob,rt,nu,pf] 424);have N:=bF.new w 424 #[a,b,kd,ob,rt,nu,pf];have h1:=(eG.cD g C).box h fl (aI #[a,b,kd,ob,rt,nu,pf] 424);have V:=aP (fl.below r);have jA:(w.alloc (aI #[a,b,kd,ob,rt,nu,pf] 424)).heap.size=w.heap.size+1:=aT;have l:fY ⟨(a:Int),(b:Int),⟨kd,ob,rt,nu,pf⟩⟩=a *16+b:=hk;have X:aH (xG C ⟨(a:Int),(b:Int),⟨kd,ob,rt,nu,pf⟩⟩={C with S:=C.S.set (a *16+b) DP}):=by unfold aH xG;rw[l]
 clear h hp l hk B;have t:a *16+b<128:=aQ;have a0:(0:Int)<=a:=aQ;have a1:(a:Int)<8:=aQ;have b0:(0:Int)<=b:=aQ;have b1:(b:Int)<16:=aQ;unfold Vx;simp only[ZA];generalize xG C ⟨(a:Int),(b:Int),⟨kd,ob,rt,nu,pf⟩⟩=R at *;go_enter func235,ntmps235
 go_upto_region 1 with(fail)
 generalize w.alloc (aI #[a,b,kd,ob,rt,nu,pf] 424)=u at *;generalize hw:w.heap.size=q1 at *;have m:=aX u (aI #[aU,aU,aU,aU,aU] 156);have yb:=bF.new u 156 #[aU,aU,aU,aU,aU];have O:=(eG.cD g C).box h1 h1.fl (aI #[aU,aU,aU,aU,aU] 156);have Y:=aP (h1.kp m);have i:=N.keep m;have D:¬Fb F q1 u.heap.size:=λhf=>abX _ (h1.fl _ hf)
 clear N h1 m;generalize u.alloc (aI #[aU,aU,aU,aU,aU] 156)=w2 at *;generalize u.heap.size=q2 at *;subst jA;have z:=i.cell 0 (.int .i64 (a:Int)) rfl;have A:=i.cell 1 (.int .i64 (b:Int)) rfl;have E:=aP O;clear O r;have j:=bD z;have k:=bD A;refine bO (bS _) (λ_=>bS) [] (λ_ _ _=>True) [10] [] 23 (bY _) (λ_ _ _ h P=>bU h P) (λ_ d hd _ v w w' _ h P=>by cases hd) aV aV bL ?_;repeat refine eA ?_
 refine dC ?_;intro γ w5 n hT;clear j k;simp only[cO,Act.put,Zx,aaE,aaD];refine dP ?_;have G:=E.o.keep n;obtain⟨H,I⟩:=G.Qj t DP;have q:(a *16+b) *5=a *80+b *5:=aQ;rw[q] at H I;have J:=G.there t;rw[q] at J;refine wpList_store_mid rfl 263 _ _ rfl g (a *80+b *5) (xM DP).toArray rfl rfl J aV (all_oneCell_toArray (ZI.one _)) ?_;have K:=aP ((E.o.kp n).trans I);have f:=K.o.aY i (.inl (.inr rfl));have c:=K.o.aY yb (.inr rfl);have Q:=aP H;clear G H I J hT i yb z A E n q;generalize w5.setCells g (a *80+b *5) (xM DP)=w6 at *;clear w5;refine cI ?_;try refine dE ?_
 have z:=f.cell 0 (.int .i64 (a:Int)) rfl;have A:=f.cell 1 (.int .i64 (b:Int)) rfl;have Z:=f.cell 2 kd rfl;have x3:=f.cell 3 ob rfl;have x4:=f.cell 4 rt rfl;have y0:=c.cell 0 (.int .i64 0) rfl;have y1:=c.cell 1 (.int .i64 0) rfl;have y2:=c.cell 2 (.int .i64 0) rfl;have y3:=c.cell 3 (.int .i64 0) rfl;have y4:=c.cell 4 (.int .i64 0) rfl;have f0:=c.frozen 0;have f1:=c.frozen 1;have f2:=c.frozen 2;have f3:=c.frozen 3;have f4:=c.frozen 4;go_wp2_with fail
 obtain⟨x,T⟩:=Dp c (.int .i64 (a:Int)) (.int .i64 (b:Int)) (.int .i64 kd) (.int .i64 ob) (.int .i64 rt);clear z A Z x3 x4 y0 y1 y2 y3 y4 f0 f1 f2 f3 f4;generalize ((((w6.setCell (q1+1,0) (.int .i64 (a:Int))).setCell (q1+1,1) (.int .i64 (b:Int))).setCell (q1+1,2) kd).setCell (q1+1,3) ob).setCell (q1+1,4) rt=W at *;have z0:=x.cell 0 (.int .i64 (a:Int)) rfl;have z1:=x.cell 1 (.int .i64 (b:Int)) rfl;have z2:=x.cell 2 kd rfl;have z3:=x.cell 3 ob rfl;have z4:=x.cell 4 rt rfl;have y:Ol (Fb F q1) w6:=λb hb=>Q.o.fl b (.inl hb)
 have h7:=(eG.cD g _).unbox Q.o y T;have L:¬F (q1+1):=λhf=>D (.inl hf)
 have k7:Kp F w6 W:=Ol.self (λb hb=>y b (.inl hb)) L T;refine bodyPost_ret (v:= .agg #[a,b,kd,ob,rt]) ?_ rfl ⟨rfl,by rw[X.o];exact h7.less,((V.o.trans Y.o.unbox).trans K.o.unbox.unbox).trans k7⟩;simp[z0,z1,z2,z3,z4,results,results235,go_sem]
end
section
def yG(C:Cf)(e:Int)(k:Nat):List cM:=(List.range k).filterMap λs=>(mH C e (s:Nat)).map λh=>⟨e,(s:Nat),h⟩
def sV(C:Cf)(e:Int):List cM:=yG C e 16
theorem Ni{e:Int}{k:Nat}(h:mH C e (k:Nat)=none):yG C e (k+1)=yG C e k:=by
 unfold yG;rw[acV,acG];simp[h]
theorem Cy{e:Int}{k:Nat}{x:Hd}(h:mH C e (k:Nat)=some x):yG C e (k+1)=yG C e k++ [⟨e,(k:Nat),x⟩]:=by
 unfold yG;rw[acV,acG];simp[h]
def Yu(L:List cM)(w:aA)(e:aM)(w':aA):Prop:=∃A c,e= .returned (.slice A L.length c)/\bI oH 5 w' w.heap.size 156 A c L/\aD w w w'
theorem PN(h:eG F w g C)(e:Int):aG prog 41 #[.pointer g,e] w (Yu (sV C e) w):=by
 have I:=aP h;clear h;go_enter func41,ntmps41
 go_wp2_with fail
 go_loopw [5,9] (λv5 v9 wr=>∃(k:Nat) (A:Option aJ) (c n:Nat) (L:List cM),v9= .int .i64 k/\v5= .slice A n c/\k<=16/\n<=k/\aH (n=L.length/\L=yG C e k/\bI oH 5 wr w.heap.size 156 A c L/\aD w w wr)) (λ_ v9 _=>16 - (aL v9).toNat)
 case atStart=>exact⟨0,none,0,0, [],rfl,rfl,aQ,Zw _,rfl,rfl,bI.nil _ _ _,Below.refl _ _⟩
 case round=>
  obtain⟨k,A,c,n,L,rfl,rfl,hk,K,b⟩:=hrel;by_cases J:k<16
  .have M:(k:Int)<16:=aQ;have d:=LB (I.o.keep b.o.2.2.2) e (k:Nat);cases l:mH C e (k:Nat) with
   |none=>
    rw[l] at d;have d:=aP d;have z:=aP (Ni l);clear l;go_wp2_with fail
    refine aR d ?_;rintro x p ⟨rfl,a⟩;simp only[mA,ab5];have r:=aP (a.mono (Zw _) |>.trans ((aX p (aI #[aU,aU,aU] 154)).mono a.size));clear a;go_wp2_with fail
    go_roundw
    case rel=>exact⟨k+1,A,c,n,L,by go_num,rfl,aQ,aQ,b.o.1,by rw[z.o];exact b.o.2.1,b.o.2.2.1.keep r.o,b.o.2.2.2.trans (r.o.mono b.o.2.2.2.size)⟩
    case measure=>simp[aL];omega
   |some x=>
    rw[l] at d;have d:=aP d;have z:=aP (Cy l);clear l;obtain⟨r0,r1,i,D,E⟩:=x;go_wp2_with fail
    refine aR d ?_;rintro x p ⟨rfl,a⟩;simp only[mA,ab4];have s:=aX p (aI #[r0,r1,i] 154);have yb:=bF.new p 154 #[r0,r1,i];have r:=aP (a.trans (s.mono a.size));clear a s;go_upto_region 7 with(fail)
    generalize p.alloc (aI #[r0,r1,i] 154)=w3 at *;generalize p.heap.size=q3 at *;have N:=yb.cell 0 r0 rfl;have O:=yb.cell 1 r1 rfl;have P:=yb.cell 2 i rfl;clear yb;have t:=aX w3 (aI #[e,k,r0,r1,i] 156);have j:=aP (r.o.trans (t.mono r.o.size));have u:=aP (b.o.2.2.1.keep j.o);have v:=aP (aaC b.o.2.2.2.size j.o.size);clear t;go_wp2_with(at_builtin;refine bP _ rfl _ _ rfl W7 fV u.o (n:=n) b.o.1.symm rfl (m:=1) rfl (ys:= [⟨e,(k:Int),⟨r0,r1,i,D,E⟩⟩]) rfl (Sl.new fV w3 ⟨e,(k:Int),⟨r0,r1,i,D,E⟩⟩ _ rfl _) dI aQ v.o _ rfl (n+1) rfl ?_;intro A6 c6 Q f y B;(have G:=aP (And.intro f ((b.o.2.2.2.trans (j.o.mono b.o.2.2.2.size)).grown y v.o (λq hq=>(u.o.lt q hq).1))));clear f y B)
    go_roundw
    case rel=>exact⟨k+1,A6,c6,n+1,_,by go_num,rfl,aQ,aQ,by rw[aaM,<-b.o.1];rfl,by rw[z.o,b.o.2.1],G.o.1,G.o.2⟩
    case measure=>simp[aL];omega
  .obtain rfl:k=16:=aQ;go_wp2_with fail
   go_ret
   have h1:=b.o;have H:L=sV C e:=h1.2.1;exact⟨A,c,by rw[<-H,<-h1.1];rfl,by rw[<-H];exact h1.2.2.1,h1.2.2.2⟩
theorem DS(C:Cf)(e:Int):(sV C e).length<=16:=by
 unfold sV yG;exact aaC (ad4 _ _) (by rw[List.length_range];exact Zw _)
def tX(kd ob:Int)(L:List cM):Int:=L.foldl (λr p=>if p.h.kd=kd/\p.h.ob=ob then bits .or .i64 r p.h.rt else r) 0
def OR(C:Cf)(e kd ob:Int):Int:=tX kd ob (sV C e)
theorem UT(kd ob:Int)(L:List cM)(p:cM):tX kd ob (L++ [p])=if p.h.kd=kd/\p.h.ob=ob then bits .or .i64 (tX kd ob L) p.h.rt else tX kd ob L:=by
 unfold tX;rw[acC];rfl
theorem Fq(h:eG F w g C)(e kd ob:Int):aG prog 15 #[.pointer g,e,kd,ob] w λx w'=>x= .returned (.int .i64 (OR C e kd ob))/\aD w w w':=by
 have O:=aP (PN h e);have D:=DS C e;unfold OR;generalize sV C e=L at *;clear h;go_enter func15,ntmps15
 go_wp2_with fail
 refine aR O ?_;rintro x H ⟨A,c,rfl,own,m⟩;obtain⟨n,B⟩:∃n,n=L.length:=⟨_,rfl⟩
 have p:=dA B own m;rw[<-B];rw[<-B] at D;clear B own m;go_wp2_with fail
 go_loopw [9,16] (λv9 i wr=>∃(k:Nat) (r:Int),i= .int .i64 k/\v9= .int .i64 r/\k<=n/\aH (r=tX kd ob (L.take k))/\aD H H wr) (λ_ i _=>n - (aL i).toNat)
 case atStart=>exact⟨0,0,rfl,rfl,aaH _,rfl,Below.refl _ _⟩
 case round=>
  obtain⟨k,r,rfl,rfl,hk,I,t⟩:=hrel;by_cases E:k<n
  .have b:k<L.length:=by rw[<-p.o.1];exact E
   have l:=p.o.2.1.keep t;obtain⟨q,rfl⟩:∃q,A=some ⟨q,0,none⟩:=by
    rcases l.shape with⟨_,G,_⟩|G
    .rw[G] at b;simp at b
    .exact G
   have J:=bM fV l b (j:=0) (v:= .int .i64 L[k].e) rfl;have P:=bM fV l b (j:=1) (v:= .int .i64 L[k].s) rfl;have Q:=bM fV l b (j:=2) (v:= .int .i64 L[k].h.kd) rfl;have R:=bM fV l b (j:=3) (v:= .int .i64 L[k].h.ob) rfl;have S:=bM fV l b (j:=4) (v:= .int .i64 L[k].h.rt) rfl;rw[aaU] at J;have X:(0:Int)<=k:=aQ;have T:(k:Int)<(n:Int):=aQ;clear l;have u:L.take (k+1)=L.take k++ [L[k]]:=by rw[abE,Zv b];rfl
   have d:aH (tX kd ob (L.take (k+1))=if L[k].h.kd=kd/\L[k].h.ob=ob then bits .or .i64 r L[k].h.rt else r):=by unfold aH;rw[u,UT,<-I.o]
   clear u;generalize L[k]=y at *;obtain⟨U,V,K,M,N,Y,Z⟩:=y;simp only at J P Q R S d;have f:=aP (t.alloc t.size (aI #[U,V,K,M,N] 156));clear t;obtain⟨a,ha⟩:∃a,bits .or .i64 r N=a:=⟨_,rfl⟩
   rw[ha] at d;by_cases hc:K=kd
   .by_cases hd:M=ob
    .have z:aH (tX kd ob (L.take (k+1))=a):=by unfold aH;rw[d.o,Zz ⟨hc,hd⟩]
     clear d;go_wp2_with fail
     go_roundw
     case rel=>exact⟨k+1,a,by go_num,rfl,aQ,z.o.symm,by first|exact f.o|(subst hc;subst hd;exact f.o)⟩
     case measure=>simp[aL];omega
    .have z:aH (tX kd ob (L.take (k+1))=r):=by unfold aH;rw[d.o,aaA (λh=>hd h.2)]
     clear d;go_wp2_with fail
     go_roundw
     case rel=>exact⟨k+1,r,by go_num,rfl,aQ,z.o.symm,by first|exact f.o|(subst hc;exact f.o)⟩
     case measure=>simp[aL];omega
   .have z:aH (tX kd ob (L.take (k+1))=r):=by unfold aH;rw[d.o,aaA (λh=>hc h.1)]
    clear d;go_wp2_with fail
    go_roundw
    case rel=>exact⟨k+1,r,by go_num,rfl,aQ,z.o.symm,f.o⟩
    case measure=>simp[aL];omega
  .obtain rfl:k=n:=aQ;have T:¬(k:Int)<(k:Int):=aQ;go_wp2_with fail
   go_ret
   have W:r=tX kd ob L:=by rw[I.o,aaS (by rw[<-p.o.1];exact Zw _)]
   exact⟨by rw[<-W];rfl,p.o.2.2.trans (t.mono p.o.2.2.size)⟩
end
variable{A:Option aJ}
section
def uC(L:List Int)(v:Int):Int:=match L.findIdx? (λx=>decide (x=v)) with
 |some i=>i
 |none=> -1
theorem Lz{L:List Int}{v:Int}{k:Nat}(hk:k<L.length)(h:∀j,j<k->L[j]?≠some v)(he:L[k]=v):uC L v=k:=by
 unfold uC;have h1:L.findIdx? (λx=>decide (x=v))=some k:=by
  rw[aaT];refine⟨hk,by simp[he],λj a=>?_⟩;have:=h j a;have hl:j<L.length:=aQ;rw[Zv hl] at this;simp;exact λe=>this (by rw[e])
 rw[h1]
theorem Lf{L:List Int}{v:Int}(h:∀j,j<L.length->L[j]?≠some v):uC L v= -1:=by
 unfold uC;have h1:L.findIdx? (λx=>decide (x=v))=none:=by
  rw[abH];intro x b;obtain⟨j,a,rfl⟩:=aa1 b;have:=h j a;rw[Zv a] at this;simp;exact λe=>this (by rw[e])
 rw[h1]
theorem Hn(L:List Int)(v:Int):decide (0<=uC L v)=decide (v∈L):=by
 unfold uC;cases h:L.findIdx? (λx=>decide (x=v)) with
 |none=>
  have a:=abH.1 h;have:¬v∈L:=λhm=>by
   have:=a v hm;simp at this
  simp[this]
 |some i=>
  obtain⟨hi,hp,_⟩:=aaT.1 h;have:v∈L:=by
   have he:L[i]=v:=by simpa using hp
   rw[<-he];exact aaF hi
  simp[this]
theorem KV{c:Nat}{L:List Int}(h:Sl eI 1 w A L)(hl:L.length<=100000000)(v:Int):aG prog 249 #[(A,L.length,c),v] w λe w'=>e= .returned (.int .i64 (uC L v))/\w=w':=by
 obtain⟨n,g⟩:∃n,n=L.length:=⟨_,rfl⟩
 have i:=bN g h;rw[<-g];rw[<-g] at hl;have s:aH (∀k,k<n->(∀j,j<k->L[j]?≠some v)->L[k]?=some v->uC L v=k):=λk hk d he=>by
  have a:k<L.length:=by rw[<-i.o.1];exact hk
  refine Lz a d ?_;rw[Zv a] at he;injection he
 have t:aH ((∀j,j<n->L[j]?≠some v)->uC L v= -1):=λd=>Lf (by rw[<-i.o.1];exact d)
 generalize uC L v=R at *;clear h g;go_enter func249,ntmps249
 go_wp2_with fail
 go_loop [8] (λv8=>∃k:Nat,v8= .int .i64 k/\k<=n/\aH (∀j,j<k->L[j]?≠some v)) (λv8=>n - (aL v8).toNat)
 case atStart=>exact⟨0,rfl,aaH _,λj d=>absurd d (acH _)⟩
 case round=>
  obtain⟨k,rfl,hk,l⟩:=hrel;by_cases f:k<n
  .have a:k<L.length:=by rw[<-i.o.1];exact f
   obtain⟨b,off,rfl,y⟩:=i.o.2.ET a;have z:(0:Int)<=k:=aQ;have u:(k:Int)<(n:Int):=aQ;have r:aH (L[k]?=some L[k]):=Zv a;generalize L[k]=x at *;by_cases m:v=x
   .have p:aH (R=k):=s.o k f l.o (by rw[r.o,m]);subst m;go_wp2_with fail
    go_ret
    exact⟨by rw[p.o];rfl,rfl⟩
   .go_wp2_with fail
    go_round
    case rel=>
     refine⟨k+1,by go_num,aQ,λj d=>?_⟩;by_cases q:j<k
     .exact l.o j q
     .obtain rfl:j=k:=aQ;rw[r.o];intro hc;injection hc with hc;exact m hc.symm
    case measure=>simp[aL];omega
  .obtain rfl:k=n:=aQ;have u:¬(k:Int)<(k:Int):=aQ;have p:aH (R= -1):=t.o l.o;go_wp2_with fail
   go_ret
   exact⟨by rw[p.o];rfl,rfl⟩
theorem ON{c:Nat}{L:List Int}(h:Sl eI 1 w A L)(hl:L.length<=100000000)(v:Int):aG prog 236 #[(A,L.length,c),v] w λe w'=>e= .returned (.bool (decide (v∈L)))/\w=w':=by
 have a:=aP (KV (c:=c) h hl v);have b:=aP (Hn L v);generalize uC L v=R at *;generalize decide (v∈L)=T at *;clear h;generalize L.length=n at *;go_enter func236,ntmps236
 go_wp2_with fail
 refine aR a ?_;rintro e d ⟨rfl,rfl⟩;go_wp2_with fail
 go_ret
 exact⟨by rw[<-b.o];rfl,rfl⟩
def N0(C:Cf)(k:Nat):Option cM:=if(bJ C k).nu=0 then none else some ⟨((k /16:Nat):Int),((k%16:Nat):Int),bJ C k⟩
def uI(C:Cf)(k:Nat):List cM:=(List.range k).filterMap (N0 C)
def lC(C:Cf):List cM:=uI C 128
theorem Kw{k:Nat}(h:(bJ C k).nu=0):uI C (k+1)=uI C k:=by
 unfold uI;rw[acV,acG];simp[N0,h]
theorem Ib{k:Nat}(h:¬(bJ C k).nu=0):uI C (k+1)=uI C k++ [⟨((k /16:Nat):Int),((k%16:Nat):Int),bJ C k⟩]:=by
 unfold uI;rw[acV,acG];simp[N0,h]
theorem I9(C:Cf)(k:Nat):(uI C k).length<=k:=by
 unfold uI;exact aaC (ad4 _ _) (by rw[List.length_range];exact Zw _)
def Wi(C:Cf)(w:aA)(e:aM)(w':aA):Prop:=∃(A:Option aJ) (c:Nat) (L:List cM),e= .returned (.slice A L.length c)/\L.Perm (lC C)/\L.Pairwise (λx y=>x.h.nu<=y.h.nu)/\bI wS 7 w' w.heap.size 424 A c L/\aD w w w'
theorem GZ(h:eG F w g C):aG prog 234 #[.pointer g] w (Wi C w):=by
 have R:=aP h;clear h;go_enter func234,ntmps234
 go_wp2_with fail
 go_loopw [3,7] (λv3 E wr=>∃(i:Nat) (A:Option aJ) (c n:Nat) (L:List cM),E= .int .i64 i/\v3= .slice A n c/\i<=8/\n<=i *16/\aH (n=L.length/\L=uI C (i *16)/\bI wS 7 wr w.heap.size 424 A c L/\aD w w wr)) (λ_ E _=>8 - (aL E).toNat)
 case atStart=>exact⟨0,none,0,0, [],rfl,rfl,aQ,Zw _,rfl,rfl,bI.nil _ _ _,Below.refl _ _⟩
 case round=>
  obtain⟨i,A,c,n,L,rfl,rfl,hi,G,a⟩:=hrel;by_cases S:i<8
  .have i1:(i:Int)<8:=aQ;go_wp2_with fail
   go_loopw [3,10] (λv3 v10 O=>∃(j:Nat) (A:Option aJ) (c n:Nat) (L:List cM),v10= .int .i64 j/\v3= .slice A n c/\j<=16/\n<=i *16+j/\aH (n=L.length/\L=uI C (i *16+j)/\bI wS 7 O w.heap.size 424 A c L/\aD w w O)) (λ_ v10 _=>16 - (aL v10).toNat)
   case atStart=>exact⟨0,A,c,n,L,rfl,rfl,aQ,G,a⟩
   case round=>
    clear a G;obtain⟨j,A,c,n,L,rfl,rfl,V,G,a⟩:=hrel;by_cases T:j<16
    .have W:(j:Int)<16:=aQ;have hid:oC (i:Int) (j:Int)=some (i *16+j):=by unfold oC;rw[Zz aQ];rfl
     have h1:=R.o.keep a.o.2.2.2;have b:=zD h1 (i:Int) (j:Int);have hk:i *16+j<128:=aQ;obtain⟨c0,c1,c2,c3,c4⟩:=h1.at_ hk;by_cases l:(bJ C (i *16+j)).nu=0
     .have hf:eO C (i:Int) (j:Int)=none:=by unfold eO;rw[hid];exact Zz l
      rw[hf] at b;have b:=aP b;have y:=aP (Kw l);clear hf l hid h1 c0 c1 c2 c3 c4;go_wp2_with fail
      refine aR b ?_;rintro x z ⟨rfl,rfl⟩;simp only[pM,abT];go_wp2_with fail
      go_roundw
      case rel=>exact⟨j+1,A,c,n,L,by go_num,rfl,aQ,aQ,a.o.1,by rw[<-abD,y.o];exact a.o.2.1,a.o.2.2⟩
      case measure=>simp[aL];omega
     .have hf:eO C (i:Int) (j:Int)=some (i *16+j):=by unfold eO;rw[hid];exact aaA l
      rw[hf] at b;have b:=aP b;have y:=aP (Ib l);have P:(i *16+j) /16=i:=aQ;have Q:(i *16+j)%16=j:=aQ;rw[P,Q] at y;clear hf l hid h1 P Q;generalize bJ C (i *16+j)=x at *;obtain⟨r0,r1,H,I,J⟩:=x;simp only at c0 c1 c2 c3 c4;go_wp2_with fail
      refine aR b ?_;rintro x z ⟨rfl,rfl⟩;simp only[pM,aa4];go_upto_region 10 with(fail)
      have p:=aX wr (aI #[i,j,r0,r1,H,I,J] 424);have e:=aP p;have r:=aP (a.o.2.2.1.keep e.o);have s:=aP (aaC a.o.2.2.2.size e.o.size);clear p;go_wp2_with(at_builtin;refine bP _ rfl _ _ rfl Wu jG r.o (n:=n) a.o.1.symm rfl (m:=1) rfl (ys:= [⟨(i:Int),(j:Int),⟨r0,r1,H,I,J⟩⟩]) rfl (Sl.new jG wr ⟨(i:Int),(j:Int),⟨r0,r1,H,I,J⟩⟩ _ rfl _) dI aQ s.o _ rfl (n+1) rfl ?_;intro A6 c6 X d t K;(have B:=aP (And.intro d ((a.o.2.2.2.trans (e.o.mono a.o.2.2.2.size)).grown t s.o (λq hq=>(r.o.lt q hq).1))));clear d t K)
      go_roundw
      case rel=>exact⟨j+1,A6,c6,n+1,_,by go_num,rfl,aQ,aQ,by rw[aaM,<-a.o.1];rfl,by rw[<-abD,y.o,a.o.2.1],B.o.1,B.o.2⟩
      case measure=>simp[aL];omega
    .obtain rfl:j=16:=aQ;go_wp2_with fail
     go_roundw
     case rel=>exact⟨i+1,A,c,n,L,by go_num,rfl,aQ,aQ,a.o.1,by rw[acF,adP];exact a.o.2.1,a.o.2.2⟩
     case measure=>simp[aL];omega
  .obtain rfl:i=8:=aQ;have u:aH (L=lC C):=a.o.2.1;rcases a.o.2.2.1.shape with⟨rfl,f,rfl⟩|⟨q,rfl⟩
   .have M:n=0:=by rw[a.o.1,f];rfl
    subst M;have N:=aP f;clear f;go_wp2_with fail
    refine aS (U3 _) ?_;rintro x z ⟨rfl,rfl⟩;go_wp2_with fail
    go_ret
    exact⟨none,0, [],rfl,by rw[<-u.o,N.o],List.Pairwise.nil,bI.nil _ _ _,a.o.2.2.2⟩
   .have D:=WT a.o.2.2.1 (by rw[<-a.o.1];omega);rw[<-a.o.1] at D;have D:=aP D;go_wp2_with fail
    refine aR D ?_;rintro x z ⟨rfl,U,hp,hs,C9,v⟩;have B:aH (Wi C w (.returned (.slice q n c)) z):=⟨some ⟨q,0,none⟩,c,U,by rw[hp.length_eq,<-a.o.1],by rw[<-u.o];exact hp,hs,C9,a.o.2.2.2.grown v a.o.2.2.2.size (λk hk=>(a.o.2.2.1.lt k hk).1)⟩
    clear hp hs C9 v;go_wp2_with fail
    go_ret
    exact B.o
end
end
end Go.Proofs.YtacgiflhgdaeaaaGreat
