/- Texts laid as one. -/
import Derived.Shelf.SlSortCmp.WholeK
import Derived.Shelf.SlicesG.Cmp
import Derived.Ground.SlsfProg
import Derived.Ground.SlgcProg
import Derived.Test.YtacgiflhgdaeaaaGreatZ1
import Derived.Test.YtacgiflhgdaeaaaGreatZ10
import Derived.Test.YtacgiflhgdaeaaaGreatZ16
set_option linter.unusedVariables false
set_option linter.unusedSimpArgs false
set_option maxRecDepth 100000
set_option maxHeartbeats 20000000
namespace Go.Proofs.YtacgiflhgdaeaaaGreat
open Go.Proofs.Tryz
open Go renaming World->aA,Value->aC,Addr->aJ,Ending->aM,Calls->aG
open Go.RowKit renaming Below->aD,Hid->aH,intOf->aL
open Go.Obj renaming cells->aI
section
open Go.RowKit Go.Lib Go.Shelf
variable{C:Cf}{e:Int}{F:Nat->Prop}{w:aA}{g:Nat}
section
def oJ(a b:Int):Int:=bits .and .i64 a b
def jY(C:Cf)(e s kd rt:Int):Option Hd:=match tQ C e s with
 |none=>none
 |some h=>if h.kd=kd/\oJ h.rt rt=rt then some h else none
def dI(kd ob rt:Int):Bool:=decide (1<=kd/\kd<=4/\0<=ob/\ob<32/\0<=rt/\rt<=15)
theorem RZ(kd ob rt:Int)(w:aA):aG prog 228 #[.agg #[kd,ob,rt]] w λx w'=>x= .returned (.bool (dI kd ob rt))/\aD w w w':=by
 have a:=aX w (aI #[kd,ob,rt] 154);have b:=bC.new w 154 #[kd,ob,rt];go_enter func228,ntmps228
 go_upto_region 1 with(fail)
 generalize w.alloc (aI #[kd,ob,rt] 154)=w1 at *;generalize hq:w.heap.size=q1 at *;have c:=b.cell 0 kd rfl;have d:=b.cell 1 ob rfl;have e:=b.cell 2 rt rfl;clear b;go_wp2_with fail
 all_goals
  go_ret
  refine⟨iO (Eq.symm ?_),by first|exact a|(rw[hq];exact a)⟩;first
   |exact aa0 aQ
   |(show decide _=_;exact ad4.2 aQ)
theorem Bn{s:Int}(h:tQ C e s=none)(kd rt:Int):jY C e s kd rt=none:=by unfold jY;rw[h]
theorem Cq{s:Int}{x:Hd}(h:tQ C e s=some x)(kd rt:Int):jY C e s kd rt=if x.kd=kd/\oJ x.rt rt=rt then some x else none:=by unfold jY;rw[h]
theorem oK(h:eJ F w g C)(e s kd rt:Int):aG prog 207 #[.pointer g,e,s,kd,rt] w λx w'=>x= .returned (.tuple #[mC (jY C e s kd rt), .bool (jY C e s kd rt).isSome])/\aD w w w':=by
 have j:=aX w (aI #[aU,aU,aU] 154);have B:=bC.new w 154 #[aU,aU,aU];have h1:=h.keep j;have q:=L9 h1 e s;have E:w.heap.size<(w.alloc (aI #[aU,aU,aU] 154)).heap.size:=aT;clear h h1;cases y:tQ C e s with
 |none=>
  rw[y] at q;have q:=aP q;have r:=aP (Bn y kd rt);clear y;generalize jY C e s kd rt=R at *;go_enter func207,ntmps207
  go_upto_region 1 with(fail)
  generalize w.alloc (aI #[aU,aU,aU] 154)=w1 at *;generalize hq:w.heap.size=q1 at *;go_wp2_with fail
  refine aR q ?_;rintro x l ⟨rfl,c⟩;simp only[mC,acF];have m:=B.keep c;have d:=aX l (aI #[aU,aU,aU] 154);have b:=m.keep d;have t:=bC.new l 154 #[aU,aU,aU];have n:aD q1 w (l.alloc (aI #[aU,aU,aU] 154)):=(j.trans (c.mono aQ)).trans (d.mono (by have:=c.size;omega));clear B m j c d;go_upto_region 2 with(fail)
  generalize l.alloc (aI #[aU,aU,aU] 154)=w3 at *;generalize l.heap.size=q2 at *;have D:=b.lt;have G:=b.cell 0 (.int .i64 0) rfl;have H:=b.cell 1 (.int .i64 0) rfl;have I:=b.cell 2 (.int .i64 0) rfl;have J:=b.frozen 0;have K:=b.frozen 1;have L:=b.frozen 2;have v0:=t.cell 0 (.int .i64 0) rfl;have v1:=t.cell 1 (.int .i64 0) rfl;have v2:=t.cell 2 (.int .i64 0) rfl;go_wp2_with fail
  obtain⟨z0,u,z2⟩:=uN b (.int .i64 0) (.int .i64 0) (.int .i64 0);have p:=p9 n aQ (aaH q1) (.int .i64 0) (.int .i64 0) (.int .i64 0);generalize ((w3.setCell (q1,0) (.int .i64 0)).setCell (q1,1) (.int .i64 0)).setCell (q1,2) (.int .i64 0)=W at *;refine bodyPost_ret (v:= .tuple #[.agg #[aU,aU,aU],false]) ?_ rfl ⟨by rw[r.o];rfl,by first|exact p|(rw[hq];exact p)⟩;simp[z0,u,z2,results,results207,go_sem]
 |some x=>
  rw[y] at q;have q:=aP q;have f:=aP (Cq y kd rt);clear y;generalize jY C e s kd rt=R at *;obtain⟨r0,r1,i,M,N⟩:=x;simp only at f;go_enter func207,ntmps207
  go_upto_region 1 with(fail)
  generalize w.alloc (aI #[aU,aU,aU] 154)=w1 at *;generalize hq:w.heap.size=q1 at *;go_wp2_with fail
  refine aR q ?_;rintro x l ⟨rfl,c⟩;simp only[mC,acE];have m:=B.keep c;have d:=aX l (aI #[r0,r1,i] 154);have b:=m.keep d;have t:=bC.new l 154 #[r0,r1,i];have n:aD q1 w (l.alloc (aI #[r0,r1,i] 154)):=(j.trans (c.mono aQ)).trans (d.mono (by have:=c.size;omega));clear B m j c d;go_upto_region 2 with(fail)
  generalize l.alloc (aI #[r0,r1,i] 154)=w3 at *;generalize l.heap.size=q2 at *;have D:=b.lt;have G:=b.cell 0 (.int .i64 0) rfl;have H:=b.cell 1 (.int .i64 0) rfl;have I:=b.cell 2 (.int .i64 0) rfl;have J:=b.frozen 0;have K:=b.frozen 1;have L:=b.frozen 2;have v0:=t.cell 0 r0 rfl;have v1:=t.cell 1 r1 rfl;have v2:=t.cell 2 i rfl;by_cases hk:r0=kd
  .by_cases z:oJ i rt=rt
   .have r:aH (R=some ⟨r0,r1,i,M,N⟩):=by unfold aH;rw[f.o,aaK ⟨hk,z⟩]
    clear f;subst hk;have A:bits .and .i64 i rt=rt:=z;clear z;go_wp2_with fail
    obtain⟨z0,u,z2⟩:=uN b (.int .i64 r0) (.int .i64 r1) (.int .i64 i);have p:=p9 n aQ (aaH q1) (.int .i64 r0) (.int .i64 r1) (.int .i64 i);generalize ((w3.setCell (q1,0) r0).setCell (q1,1) r1).setCell (q1,2) i=W at *;refine bodyPost_ret (v:= .tuple #[.agg #[r0,r1,i],true]) ?_ rfl ⟨by rw[r.o];rfl,by first|exact p|(rw[hq];exact p)⟩;simp[z0,u,z2,results,results207,go_sem]
   .have r:aH (R=none):=by unfold aH;rw[f.o,aaL (λhc=>z hc.2)]
    clear f;subst hk;obtain⟨a,A⟩:∃a,bits .and .i64 i rt=a:=⟨_,rfl⟩
    have O:¬a=rt:=by rw[<-A];exact z
    clear z;go_wp2_with fail
    obtain⟨z0,u,z2⟩:=uN b (.int .i64 0) (.int .i64 0) (.int .i64 0);have p:=p9 n aQ (aaH q1) (.int .i64 0) (.int .i64 0) (.int .i64 0);generalize ((w3.setCell (q1,0) (.int .i64 0)).setCell (q1,1) (.int .i64 0)).setCell (q1,2) (.int .i64 0)=W at *;refine bodyPost_ret (v:= .tuple #[.agg #[aU,aU,aU],false]) ?_ rfl ⟨by rw[r.o];rfl,by first|exact p|(rw[hq];exact p)⟩;simp[z0,u,z2,results,results207,go_sem]
  .have r:aH (R=none):=by unfold aH;rw[f.o,aaL (λhc=>hk hc.1)]
   clear f;go_wp2_with fail
   obtain⟨z0,u,z2⟩:=uN b (.int .i64 0) (.int .i64 0) (.int .i64 0);have p:=p9 n aQ (aaH q1) (.int .i64 0) (.int .i64 0) (.int .i64 0);generalize ((w3.setCell (q1,0) (.int .i64 0)).setCell (q1,1) (.int .i64 0)).setCell (q1,2) (.int .i64 0)=W at *;refine bodyPost_ret (v:= .tuple #[.agg #[aU,aU,aU],false]) ?_ rfl ⟨by rw[r.o];rfl,by first|exact p|(rw[hq];exact p)⟩;simp[z0,u,z2,results,results207,go_sem]
def dM(C:Cf)(e s kd ob rt pf:Int):Int×Cf:=if dI kd ob rt=false then(1,C) else match tC e s with
 |none=>(1,C)
 |some k=>if(cN C k).nu≠0 then(7,C) else(0,⟨C.S.set k ⟨kd,ob,rt,C.n+1,pf⟩,C.n+1⟩)
def B9(F:Nat->Prop)(g:Nat)(r:Int×Cf)(w:aA)(e:aM)(w':aA):Prop:=e= .returned (.int .i64 r.1)/\eJ F w' g r.2/\Kp F w w'
section
variable{F:Nat->Prop}{w w':aA}{g k:Nat}{C:Cf}
theorem eJ.Xt(h:eJ F w g C)(v:Int):eJ F (w.setCell (g,640) v) g {C with n:=v}/\Kp F w (w.setCell (g,640) v):=by
 have a:=fH lR C.S;have c:=h.b.bQ 640 v;have he:(sQ C).toArray.setIfInBounds 640 (.int .i64 v)=(sQ {C with n:=v}).toArray:=by
  rw[aaI];unfold sQ;rw[aa6 _ _ (by rw[a,h.len];omega),a,h.len];rfl
 rw[he] at c;have k:=h.fl.self h.fg (aY (bE w g) 640 (.int .i64 v));exact⟨⟨c,h.len,h.fl.kp k,h.fg⟩,k⟩
theorem Jk(hC:C.S.length=128)(hk:k<128)(x:Hd):lay (sQ C).toArray (k *5) (xT x)=(sQ {C with S:=C.S.set k x}).toArray:=by
 apply aeD;intro j;have c:=fH lR C.S;have a:=fH lR (C.S.set k x);rw[lay_get? _ _ _ _ (by rw[adP,Kf hC,lR];omega),lR];simp only[aaY];unfold sQ;rw[aaV] at a;by_cases i:j<640
 .rw[abC (by rw[c,hC];omega),abC (by simp only;rw[a,hC];omega)];have d:j /5 *5+j%5=j:=aQ;have f:j%5<5:=aQ;by_cases hq:j /5=k
  .have h1:=jG lR (C.S.set k x) k x (j%5) (by simp[hC,hk]) f;rw[aaK aQ,show j - k *5=j%5 by omega,<-h1];simp only;congr 1
   omega
  .rw[aaL aQ];have b:j /5<C.S.length:=aQ;have h1:=jG lR (C.S.set k x) (j /5) C.S[j /5] (j%5) (by rw[acP (λe=>hq e.symm),aaG b]) f;have h:=jG lR C.S (j /5) C.S[j /5] (j%5) (aaG b) f;rw[d] at h1 h;rw[h1,h]
 .rw[aaL aQ,aaS (by rw[c,hC];omega),aaS (by simp only;rw[a,hC];omega),c,a]
theorem eJ.Px(h:eJ F w g C)(hk:k<128)(x:Hd):eJ F (w.setCells g (k *5) (xT x)) g {C with S:=C.S.set k x}/\Kp F w (w.setCells g (k *5) (xT x)):=by
 have a:=jJ g _ (xT x) (k *5) w _ h.b;rw[Jk h.len hk x] at a;have c:=h.fl.self h.fg (iR g (xT x) (k *5) w w (bE w g));exact⟨⟨a,by simp only[aaV];exact h.len,h.fl.kp c,h.fg⟩,c⟩
end
end
variable{q:Nat}{X:(Nat->Prop)->aA->Prop}
section
theorem dV.less(M:dV X)(h:X (Fb F q) w)(fl:Ol F w):X F w:=M.unbox h fl (bE w q)
theorem eJ.less(h:eJ (Fb F q) w g C):eJ F w g C:=⟨h.b,h.len,λb a=>h.fl b (.inl a),λc=>h.fg (.inl c)⟩
theorem eJ.there{k:Nat}(h:eJ F w g C)(hk:k<128):w.there g (k *5) 5:=λj a=>by
 refine⟨?_,h.fz _⟩;rw[h.b.cell (k *5+j) ((xT (cN C k))[j]'(by rw[lR];exact a)) (by rw[aaY,TI h.len hk a,aaG])];rfl
theorem GY(h:eJ F w g C)(V:0<=C.n/\C.n<=1000000000000)(e s kd ob rt pf:Int):aG prog 183 #[.pointer g,e,s, .agg #[kd,ob,rt],pf] w (B9 F g (dM C e s kd ob rt pf) w):=by
 have t:=aX w (aI #[kd,ob,rt] 154);have z:=bC.new w 154 #[kd,ob,rt];have L:=h.fl.below t;have h1:=(eJ.bX g C).box h h.fl (aI #[kd,ob,rt] 154);have Q:=aP (λW=>NS g e s W);have q:=aP (λW=>RZ kd ob rt W);have b:aH (dM C e s kd ob rt pf=if dI kd ob rt=false then((1:Int),C) else match tC e s with
  |none=>((1:Int),C)
  |some k=>if(cN C k).nu≠0 then((7:Int),C) else((0:Int),⟨C.S.set k ⟨kd,ob,rt,C.n+1,pf⟩,C.n+1⟩)):=rfl
 generalize dM C e s kd ob rt pf=R at *;clear h;go_enter func183,ntmps183
 go_upto_region 1 with(fail)
 generalize w.alloc (aI #[kd,ob,rt] 154)=w1 at *;generalize hq:w.heap.size=q1 at *;have E:=z.cell 0 kd rfl;have G:=z.cell 1 ob rfl;have H:=z.cell 2 rt rfl;have H1:=aP h1;have u:=aP L;clear h1 L t;go_wp2_with fail
 refine aS (Q.o _) ?_;rintro x X ⟨rfl,rfl⟩;cases A:dI kd ob rt with
 |false=>
  rw[A] at q;rw[A] at b;cases hi:tC e s with
  |none=>
   simp only[pW,acU];go_wp2_with fail
   refine aS (q.o _) ?_;rintro x m ⟨rfl,a⟩;have f:aH (B9 F g R w (.returned (.int .i64 1)) m):=by
    have:=b.o;simp only[acY] at this;unfold aH;rw[this];exact⟨rfl,(H1.o.keep a).less,u.o.trans (H1.o.kp a).unbox⟩
   go_wp2_with fail
   go_ret
   exact f.o
  |some k=>
   simp only[pW,abL];go_wp2_with fail
   refine aS (q.o _) ?_;rintro x m ⟨rfl,a⟩;have f:aH (B9 F g R w (.returned (.int .i64 1)) m):=by
    have:=b.o;simp only[acY] at this;unfold aH;rw[this];exact⟨rfl,(H1.o.keep a).less,u.o.trans (H1.o.kp a).unbox⟩
   go_wp2_with fail
   go_ret
   exact f.o
 |true=>
  rw[A] at q;rw[A] at b;cases hi:tC e s with
  |none=>
   rw[hi] at b;simp only[pW,acU];go_wp2_with fail
   refine aS (q.o _) ?_;rintro x m ⟨rfl,a⟩;have f:aH (B9 F g R w (.returned (.int .i64 1)) m):=by
    have:=b.o;rw[aaL cD] at this;unfold aH;rw[this];exact⟨rfl,(H1.o.keep a).less,u.o.trans (H1.o.kp a).unbox⟩
   go_wp2_with fail
   go_ret
   exact f.o
  |some k=>
   rw[hi] at b;have hk:=(BV hi).1;clear hi;simp only[pW,abL];go_wp2_with fail
   refine aS (q.o _) ?_;rintro x m ⟨rfl,a⟩;have r:=H1.o.keep a;obtain⟨_,_,_,c3,_⟩:=r.at_ hk;have cn:=r.cn;have fn:=r.fz 640;have M:=bH r (H1.o.kp a);by_cases B:(cN C k).nu=0
   .have I:aH (R=((0:Int),⟨C.S.set k ⟨kd,ob,rt,C.n+1,pf⟩,C.n+1⟩)):=by
     have:=b.o;simp only[ae6,ab4,B,ne_eq,not_true_eq_false] at this;exact this
    rw[B] at c3;obtain⟨N,J⟩:=r.Xt (C.n+1);have p:=(((H1.o.kp a).trans J)).aZ z (.inr rfl);have D:=bH N ((H1.o.kp a).trans J);clear a r N J b B E G H;go_upto_region 7 with(fail)
    have E:=p.cell 0 kd rfl;have G:=p.cell 1 ob rfl;have H:=p.cell 2 rt rfl;have K:=D.o.1.cn;generalize m.setCell (g,640) (.int .i64 (C.n+1))=w4 at *;have i:=bF E;have j:=bF G;have l:=bF H;have c:=bF K;refine bS (bV _) (λ_=>bV) [] (λ_ _ _=>True) [9] [] 44 (cM _) (λ_ _ _ h O=>bZ h O) (λ_ d hd _ v w w' _ h O=>by cases hd) aV aV bK ?_;repeat refine fQ ?_
    refine eL ?_;intro γ w5 y hT;clear i j l c;simp only[dG,Act.put,aaI,aaP,aaN];refine eT ?_;have P:=D.o.1.keep y;obtain⟨T,U⟩:=P.Px hk ⟨kd,ob,rt,C.n+1,pf⟩;refine wpList_store_mid rfl 263 _ _ rfl g (k *5) (xT ⟨kd,ob,rt,C.n+1,pf⟩).toArray rfl rfl (P.there hk) aV (all_oneCell_toArray (Dk.one _)) ?_;have f:aH (B9 F g R w (.returned (.int .i64 0)) (w5.setCells g (k *5) (xT ⟨kd,ob,rt,C.n+1,pf⟩))):=by
     unfold aH;rw[I.o];exact⟨rfl,T.less,u.o.trans ((D.o.2.trans (D.o.1.kp y)).trans U).unbox⟩
    refine cP ?_;try refine dB ?_
    go_wp2_with fail
    go_ret
    exact f.o
   .have f:aH (B9 F g R w (.returned (.int .i64 7)) m):=by
     have:=b.o;simp only[ae6,ab4,ne_eq,B,not_false_eq_true,acY] at this;unfold aH;rw[this];exact⟨rfl,M.o.1.less,u.o.trans M.o.2.unbox⟩
    clear b;generalize (cN C k).nu=nu at *;go_wp2_with fail
    go_ret
    exact f.o
theorem P3(h:eJ F w g C)(f:0<=C.n/\C.n<=1000000000000)(e s kd ob rt:Int):aG prog 141 #[.pointer g,e,s, .agg #[kd,ob,rt]] w (B9 F g (dM C e s kd ob rt 0) w):=by
 have a:=aX w (aI #[kd,ob,rt] 154);have b:=bC.new w 154 #[kd,ob,rt];have i:=aP (h.kp a);have j:=aP (GY (h.keep a) f e s kd ob rt 0);clear h;go_enter func141,ntmps141
 go_upto_region 1 with(fail)
 generalize w.alloc (aI #[kd,ob,rt] 154)=w1 at *;generalize hq:w.heap.size=q1 at *;have l:=b.cell 0 kd rfl;have m:=b.cell 1 ob rfl;have p:=b.cell 2 rt rfl;clear b a;go_wp2_with fail
 refine aR j ?_;rintro x q ⟨rfl,c,d⟩;have k:=bH c (i.o.trans d);clear c d;go_wp2_with fail
 go_ret
 exact⟨rfl,k.o⟩
end
end
section
open Go.Shelf
def DZ:Go.Shelf.Ren:=⟨λ|6=>271|15=>231|14=>297|28=>268|29=>269|20=>301|21=>302|22=>303|23=>304|24=>305|25=>306|26=>307|27=>308|46=>310|47=>292|48=>293|49=>311|50=>312|57=>313|n=>n,λ|22=>421|24=>424|25=>460|3=>3|39=>405|0=>0|53=>457|55=>75|4=>4|46=>451|45=>450|50=>276|5=>5|9=>9|66=>469|70=>472|76=>476|77=>415|n=>n,λ|n=>n⟩
theorem N7:Go.Proofs.SlLaysF0.n6 prog DZ:={
 mixed:=aV
 f6:=⟨f271.name,cD,func271.trans (congrArg some aV)⟩
 f14:=⟨f297.name,cD,func297.trans (congrArg some aV)⟩
 f15:=func231.trans (congrArg some aV)
 f20:=⟨f301.name,cD,func301.trans (congrArg some aV)⟩
 f21:=⟨f302.name,cD,func302.trans (congrArg some aV)⟩
 f22:=⟨f303.name,cD,func303.trans (congrArg some aV)⟩
 f23:=⟨f304.name,cD,func304.trans (congrArg some aV)⟩
 f24:=⟨f305.name,cD,func305.trans (congrArg some aV)⟩
 f25:=⟨f306.name,cD,func306.trans (congrArg some aV)⟩
 f26:=⟨f307.name,cD,func307.trans (congrArg some aV)⟩
 f27:=⟨f308.name,cD,func308.trans (congrArg some aV)⟩
 f28:=func268.trans (congrArg some aV)
 f29:=func269.trans (congrArg some aV)
 f46:=⟨f310.name,cD,func310.trans (congrArg some aV)⟩
 f47:=func292.trans (congrArg some aV)
 f48:=func293.trans (congrArg some aV)
 f49:=⟨f311.name,cD,func311.trans (congrArg some aV)⟩
 f50:=⟨f312.name,cD,func312.trans (congrArg some aV)⟩
 f57:=⟨f313.name,cD,func313.trans (congrArg some aV)⟩
 t0:=underlying0
 a0:=isAgg0
 z0:=sizeOf0
 v0:=zeroValue0
 t3:=underlying3
 a3:=isAgg3
 z3:=sizeOf3
 v3:=zeroValue3
 t4:=underlying4
 a4:=isAgg4
 z4:=sizeOf4
 v4:=zeroValue4
 t5:=underlying5
 a5:=isAgg5
 z5:=sizeOf5
 v5:=zeroValue5
 t9:=underlying9
 a9:=isAgg9
 z9:=sizeOf9
 v9:=zeroValue9
 t22:=underlying421
 a22:=isAgg421
 z22:=sizeOf421
 v22:=zeroValue421
 t25:=underlying460
 a25:=isAgg460
 z25:=sizeOf460
 v25:=zeroValue460
 t39:=underlying405
 a39:=isAgg405
 z39:=sizeOf405
 v39:=zeroValue405
 t45:=underlying450
 a45:=isAgg450
 z45:=sizeOf450
 v45:=zeroValue450
 t46:=underlying451
 a46:=isAgg451
 z46:=sizeOf451
 v46:=zeroValue451
 t50:=underlying276
 a50:=isAgg276
 z50:=sizeOf276
 v50:=zeroValue276
 t53:=underlying457
 a53:=isAgg457
 z53:=sizeOf457
 v53:=zeroValue457
 t55:=underlying75
 a55:=isAgg75
 z55:=sizeOf75
 v55:=zeroValue75
 t66:=underlying469
 a66:=isAgg469
 z66:=sizeOf469
 v66:=zeroValue469
 t70:=underlying472
 a70:=isAgg472
 z70:=sizeOf472
 v70:=zeroValue472
 t76:=underlying476
 a76:=isAgg476
 z76:=sizeOf476
 v76:=zeroValue476
 t77:=underlying415
 a77:=isAgg415
 z77:=sizeOf415
 v77:=zeroValue415}
def IU:Go.Shelf.Ren:=⟨λ|6=>188|15=>231|14=>230|28=>268|29=>269|20=>260|21=>261|22=>262|23=>263|24=>264|25=>265|26=>266|27=>267|46=>291|47=>292|48=>293|49=>294|50=>295|57=>300|n=>n,λ|22=>270|24=>274|25=>375|3=>3|39=>405|0=>0|53=>457|55=>75|4=>4|46=>451|45=>450|50=>276|5=>5|9=>9|66=>469|70=>472|76=>476|77=>415|n=>n,λ|n=>n⟩
theorem UG:Go.Proofs.SlLaysF0.n6 prog IU:={
 mixed:=aV
 f6:=⟨f188.name,cD,func188.trans (congrArg some aV)⟩
 f14:=⟨f230.name,cD,func230.trans (congrArg some aV)⟩
 f15:=func231.trans (congrArg some aV)
 f20:=⟨f260.name,cD,func260.trans (congrArg some aV)⟩
 f21:=⟨f261.name,cD,func261.trans (congrArg some aV)⟩
 f22:=⟨f262.name,cD,func262.trans (congrArg some aV)⟩
 f23:=⟨f263.name,cD,func263.trans (congrArg some aV)⟩
 f24:=⟨f264.name,cD,func264.trans (congrArg some aV)⟩
 f25:=⟨f265.name,cD,func265.trans (congrArg some aV)⟩
 f26:=⟨f266.name,cD,func266.trans (congrArg some aV)⟩
 f27:=⟨f267.name,cD,func267.trans (congrArg some aV)⟩
 f28:=func268.trans (congrArg some aV)
 f29:=func269.trans (congrArg some aV)
 f46:=⟨f291.name,cD,func291.trans (congrArg some aV)⟩
 f47:=func292.trans (congrArg some aV)
 f48:=func293.trans (congrArg some aV)
 f49:=⟨f294.name,cD,func294.trans (congrArg some aV)⟩
 f50:=⟨f295.name,cD,func295.trans (congrArg some aV)⟩
 f57:=⟨f300.name,cD,func300.trans (congrArg some aV)⟩
 t0:=underlying0
 a0:=isAgg0
 z0:=sizeOf0
 v0:=zeroValue0
 t3:=underlying3
 a3:=isAgg3
 z3:=sizeOf3
 v3:=zeroValue3
 t4:=underlying4
 a4:=isAgg4
 z4:=sizeOf4
 v4:=zeroValue4
 t5:=underlying5
 a5:=isAgg5
 z5:=sizeOf5
 v5:=zeroValue5
 t9:=underlying9
 a9:=isAgg9
 z9:=sizeOf9
 v9:=zeroValue9
 t22:=underlying270
 a22:=isAgg270
 z22:=sizeOf270
 v22:=zeroValue270
 t25:=underlying375
 a25:=isAgg375
 z25:=sizeOf375
 v25:=zeroValue375
 t39:=underlying405
 a39:=isAgg405
 z39:=sizeOf405
 v39:=zeroValue405
 t45:=underlying450
 a45:=isAgg450
 z45:=sizeOf450
 v45:=zeroValue450
 t46:=underlying451
 a46:=isAgg451
 z46:=sizeOf451
 v46:=zeroValue451
 t50:=underlying276
 a50:=isAgg276
 z50:=sizeOf276
 v50:=zeroValue276
 t53:=underlying457
 a53:=isAgg457
 z53:=sizeOf457
 v53:=zeroValue457
 t55:=underlying75
 a55:=isAgg75
 z55:=sizeOf75
 v55:=zeroValue75
 t66:=underlying469
 a66:=isAgg469
 z66:=sizeOf469
 v66:=zeroValue469
 t70:=underlying472
 a70:=isAgg472
 z70:=sizeOf472
 v70:=zeroValue472
 t76:=underlying476
 a76:=isAgg476
 z76:=sizeOf476
 v76:=zeroValue476
 t77:=underlying415
 a77:=isAgg415
 z77:=sizeOf415
 v77:=zeroValue415}
def V5:Go.Shelf.Ren:=⟨λ|5=>147|7=>191|n=>n,λ|22=>3|3=>3|4=>4|n=>n,λ|n=>n⟩
theorem Dc:Go.Proofs.SlLaysC2.n5 prog V5:={
 mixed:=aV
 f5:=⟨f147.name,cD,func147.trans (congrArg some aV)⟩
 f7:=⟨f191.name,cD,func191.trans (congrArg some aV)⟩
 t3:=underlying3
 a3:=isAgg3
 z3:=sizeOf3
 v3:=zeroValue3
 t4:=underlying4
 a4:=isAgg4
 z4:=sizeOf4
 v4:=zeroValue4
 t22:=underlying3
 a22:=isAgg3
 z22:=sizeOf3
 v22:=zeroValue3}
end
section
open Go.RowKit Go.Lib Go.Shelf Go.Sort
variable{j q:Nat}{w:aA}
section
section
variable{α:Type}[Inhabited α]{enc:α->List aC}{sz:Nat}
theorem OI(he:∀x,(enc x).length=sz)(e:0<sz)(d:Array α)(b:j<d.size *sz):(d.toList.flatMap enc)[j]?=some (flatK enc sz d)[j]!:=by
 have hq:j /sz<d.size:=aeO (by rw[adK];exact b);have a:j /sz *sz+j%sz=j:=by rw[adK];exact Nat.div_add_mod j sz
 have c:j%sz<sz:=afU _ e;have h1:=jG he d.toList (j /sz) d[j /sz]! (j%sz) (by rw[abG,afD d _ hq];exact abE hq) c;rw[a] at h1;rw[h1,get_flatK _ _ _ _ b,afD (enc d[j /sz]!) (j%sz) (by rw[he];exact c)];exact aaG _
theorem OU(he:eY enc sz)(b:0<sz){base:Nat}{e:TypeId}{c:Nat}{L:List α}(h:bB enc sz w base e q c L):HoldsK enc sz w q 0 L.toArray:=by
 intro j a;rw[size_flatK,adP] at a;obtain⟨cur,h1,d,f,i,k,g⟩:=eK h;have hc:L.length *sz<=c *sz:=acB _ f;have hk:=OI he.len b L.toArray (j:=j) (by rw[adP];exact a);simp only at hk;rw[<-g,abU,aaK a,abG] at hk;rw[abQ];exact⟨(bC.cell d j _ hk).trans rfl,(cH h j aQ).2⟩
theorem KD(he:eY enc sz)(l:0<sz){base:Nat}{e:TypeId}{c:Nat}{L:List α}(h:bB enc sz w base e q c L)(a:Array α)(hd:a.size=L.length)(m:Nat)(os:Array Obj):
 bB enc sz (sortWorldK enc sz w q 0 m a os) base e q c a.toList/\w.grownBy (sortWorldK enc sz w q 0 m a os) (some q):=by
 obtain⟨cur,h1,f,g,n,o,p⟩:=eK h;have hc:L.length *sz<=c *sz:=acB _ g;have hq:q<w.heap.size:=bC.lt f;have k:∀i,i<w.heap.size->(sortWorldK enc sz w q 0 m a os).heap[i]?=(w.heap.modify q (onCells (putCells id 0 (flatK enc sz a))))[i]?:=λi hi=>by
  show(w.heap.modify q _++os)[i]?=_;rw[adW (by simpa using hi)]
 refine⟨⟨?_, .inr ⟨q,c,putCells id 0 (flatK enc sz a) cur,?_,h1,?_,?_,n,?_,?_⟩⟩,rfl,rfl,rfl,?_,λi hi b=>?_⟩
 .rw[fH he.len]
 .rfl
 .rw[k q hq,adX,aaK rfl,f];rfl
 .rw[adF,hd];exact g
 .unfold putCells;rw[Array.size_mapIdx];exact o
 .rw[adF,hd];apply aeM;intro j;by_cases d:j<L.length *sz
  .rw[abU,aaK d,abG];unfold putCells;rw[Array.getElem?_mapIdx,abE aQ,abL,aaK ⟨aaQ _,by rw[size_flatK,hd,abQ];exact d⟩,Nat.sub_zero];exact(OI he.len l a (by rw[hd];exact d)).symm
  .rw[abZ (by rw[aa9];omega),abZ (by rw[fH he.len,adF,hd];omega)]
 .show w.heap.size<=(w.heap.modify q _++os).size;rw[Array.size_append,Array.size_modify];omega
 .rw[k i hi,adX,aaL (λe=>b (by rw[e]))]
end
structure dK where
 e:Int
 s:Int
 h:Hd
instance:Inhabited dK:=⟨⟨0,0,J9⟩⟩
def wT(p:dK):List aC:= [.int .i64 p.e, .int .i64 p.s, .int .i64 p.h.kd, .int .i64 p.h.ob, .int .i64 p.h.rt, .int .i64 p.h.nu, .int .i64 p.h.pf]
theorem iP:eY wT 7:=⟨λ_=>rfl,λx u hu=>by simp[wT] at hu;rcases hu with rfl|rfl|rfl|rfl|rfl|rfl|rfl <;> rfl⟩
def ZG(x y:dK):Int:=Lib.compareInt x.h.nu y.h.nu
theorem Kw(x y:dK):ltOf ZG x y=decide (x.h.nu<y.h.nu):=by
 unfold ltOf ZG Lib.compareInt;by_cases h1:x.h.nu<y.h.nu
 .simp[h1]
 .by_cases a:y.h.nu<x.h.nu <;> simp[h1,a]
theorem Ya:SWO (ltOf ZG) where
 irrefl x:=by rw[Kw];simp
 trans x y z h1 h2:=by rw[Kw] at *;simp at *;omega
 ntrans x y z h1 h2:=by rw[Kw] at *;simp at *;omega
theorem It(x y:dK)(W:aA):aG prog 272 #[.agg (wT x).toArray, .agg (wT y).toArray] W λe w'=>e= .returned (.int .i64 (ZG x y))/\∃q b,w'=grow (W.drewN q) b:=by
 have a:=λc=>AnyG.cmp_Compare_int Dc x.h.nu y.h.nu c
 change ∀c,aG prog 147 _ _ _ at a
 show aG prog _ _ _ λe w'=>e= .returned (.int .i64 (Lib.compareInt x.h.nu y.h.nu))/\_
 generalize Lib.compareInt x.h.nu y.h.nu=r at a⊢;simp only[wT];obtain⟨d,f,g,i,j,k,l⟩:=x;go_enter func272,ntmps272
 go_wp2_with(go_at_call 147;refine(a _).mono ?_;rintro e w' ⟨rfl,rfl⟩)
 go_ret
 exact⟨rfl,0,_,by rw[alloc_eq_grow,alloc_eq_grow,grow_grow];rfl⟩
theorem Z0(w:aA):aG prog 301 #[bA,aU,aU, .func (.func 272) #[] #[]] w λe w'=>e= .returned (.tuple #[])/\w=w':=by
 go_enter func301,ntmps301
 go_wp2_with fail
 go_loop [8] (λv8=>v8= .int .i64 1) (λ_=>0)
 case atStart=>exact rfl
 case round=>
  subst hrel;go_wp2_with fail
  refine bodyPost_end (v:= .tuple #[]) ?_ rfl ⟨rfl,rfl⟩;simp[results,results301,go_sem]
theorem Am(w:aA):aG prog 297 #[bA,aU,aU,aU, .func (.func 272) #[] #[]] w λe w'=>e= .returned (.tuple #[])/\w=w':=by
 go_enter func297,ntmps297
 go_wp2_with fail
 go_loop [1,2,3] (λv1 v2 v3=>v1= .int .i64 0/\v2= .int .i64 0/\v3= .int .i64 0) (λ_ _ _=>0)
 case atStart=>exact⟨rfl,rfl,rfl⟩
 case round=>
  obtain⟨rfl,rfl,rfl⟩:=hrel;go_wp2_with fail
  refine aS (Z0 _) ?_;rintro e a ⟨rfl,rfl⟩;go_wp2_with fail
  first
   |(refine bodyPost_ret (v:= .tuple #[]) ?_ rfl ⟨rfl,rfl⟩;simp[results,results297,go_sem])
   |(refine bodyPost_end (v:= .tuple #[]) ?_ rfl ⟨rfl,rfl⟩;simp[results,results297,go_sem])
theorem VE(w:aA):aG prog 271 #[bA, .func (.func 272) #[] #[]] w λe w'=>e= .returned (.tuple #[])/\w=w':=by
 have a:aG prog 231 #[cO] w λe w'=>e= .returned (.int .i64 0)/\w'=w:=by
  have h:=Any.bits_Len (SlLaysF0.n15.bits (P:=prog) (ρ:=DZ) {N7 with}) 0 w aQ aQ;exact h
 go_enter func271,ntmps271
 go_wp2_with fail
 with_reducible refine a.mono ?_
 rintro e b ⟨rfl,rfl⟩;go_wp2_with fail
 refine aS (Am _) ?_;rintro e b ⟨rfl,rfl⟩;go_wp2_with fail
 go_end0
 exact⟨rfl,rfl⟩
theorem IA{α:Type}[Inhabited α]{lt:α->α->Bool}{R:α->α->Prop}{d:Array α}(h:SortedIn lt 0 d.size d)(c:∀x y,lt y x=false->R x y):d.toList.Pairwise R:=by
 rw[ab6];intro i j hi a b;rw[adF] at hi a;have h1:=h i j (aaQ _) b a;rw[afD d j a,afD d i hi] at h1;rw[afN,afN];exact c _ _ h1
theorem UX{α:Type}[Inhabited α]{d a:Array α}(h:PermIn 0 d.size d a):a.toList.Perm d.toList/\a.size=d.size:=by
 obtain⟨h1,_,b⟩:=h;rw[Array.extract_size] at b;rw[show a.extract 0 d.size=a by rw[<-h1,Array.extract_size]] at b;exact⟨b,h1⟩
def Ze(base c q:Nat)(L:List dK)(w:aA)(e:aM)(w':aA):Prop:=e= .returned (.tuple #[])/\∃L':List dK,L'.Perm L/\L'.Pairwise (λx y=>x.h.nu<=y.h.nu)/\bB wT 7 w' base 424 q c L'/\w.grownBy w' (some q)
theorem WQ{base c:Nat}{L:List dK}(h:bB wT 7 w base 424 q c L)(k:L.length<=1000000):aG prog 271 #[.slice q L.length c, .func (.func 272) #[] #[]] w (Ze base c q L w):=by
 have a:=AnyQ.slices_SortFunc N7 7 (λw=>by kernel_rfl) (λw=>by kernel_rfl) wT iP.len iP.one ZG Ya 272 #[] q 0 c L.toArray w (enters_of func272 aV rfl) (λ_ _ _ _ x y=>It x y _) (OU iP cD h) (h.lt q rfl).2 (by rw[adP];omega);refine Calls.mono (f:=271) a ?_;rintro e w' ⟨rfl,d,n,os,hp,hs,rfl⟩;obtain⟨h1,i⟩:=UX hp;have j:d.size=L.length:=by rw[i,adP]
 have g:L.toArray.size=d.size:=i.symm;rw[g] at hs;obtain⟨o1,o2⟩:=KD iP cD h d j n os;exact⟨rfl,d.toList,h1,IA hs (λx y b=>by rw[Kw] at b;have:=adJ b;omega),o1,o2⟩
end
end
section
open Go.RowKit Go.Lib Go.Shelf
variable{w:aA}{q g:Nat}{aa:aC}{F:Nat->Prop}{C:Cf}
section
def DV(p:dK):Nat:=p.e.toNat *16+p.s.toNat
def LZ(C:Cf)(p:dK):Cf:={C with S:=C.S.set (DV p) J9}
def Z9(p:dK):aC:= .agg #[p.e,p.s,p.h.kd,p.h.ob,p.h.rt]
def oP(p:dK):List aC:= [.int .i64 p.e, .int .i64 p.s, .int .i64 p.h.kd, .int .i64 p.h.ob, .int .i64 p.h.rt]
theorem fR:eY oP 5:=⟨λ_=>rfl,λx u hu=>by simp[oP] at hu;rcases hu with rfl|rfl|rfl|rfl|rfl <;> rfl⟩
theorem WG:jM prog 151 156 5 40:=gA (z:= .agg #[aU,aU,aU,aU,aU]) underlying151 aV (by simp[Value.cells]) aQ
theorem Yb:jM prog 421 424 7 56:=gA (z:= .agg #[aU,aU,aU,aU,aU,aU,aU]) underlying421 aV (by simp[Value.cells]) aQ
theorem Ey{t:TypeId}{x y z v:aC}(h:bC w q t #[x,y,z,aa,v])(a b c d e:aC):bC (((((w.setCell (q,0) a).setCell (q,1) b).setCell (q,2) c).setCell (q,3) d).setCell (q,4) e) q t #[a,b,c,d,e]/\w.grownBy (((((w.setCell (q,0) a).setCell (q,1) b).setCell (q,2) c).setCell (q,3) d).setCell (q,4) e) (some q):=by
 have h1:=((((h.bQ 0 a).bQ 1 b).bQ 2 c).bQ 3 d).bQ 4 e;refine⟨by simpa using h1,aY (aY (aY (aY (aY (bE w q) 0 a) 1 b) 2 c) 3 d) 4 e⟩
def Xg(F:Nat->Prop)(g:Nat)(C:Cf)(p:dK)(w:aA)(e:aM)(w':aA):Prop:=e= .returned (Z9 p)/\eJ F w' g (LZ C p)/\Kp F w w'
theorem FZ(h:eJ F w g C)(p:dK)(hp:tC p.e p.s=some (DV p)):aG prog 235 #[.pointer g, .agg (wT p).toArray] w (Xg F g C p w):=by
 obtain⟨e,s,kd,ob,rt,nu,pf⟩:=p;simp only[wT];obtain⟨D,a,b,O,r,Z,P,hk⟩:=BV hp;simp only at O r;subst O r;have fl:=h.fl;have t:=aX w (aI #[a,b,kd,ob,rt,nu,pf] 424);have Q:=bC.new w 424 #[a,b,kd,ob,rt,nu,pf];have h1:=(eJ.bX g C).box h fl (aI #[a,b,kd,ob,rt,nu,pf] 424);have K1:=aP (fl.below t);have lF:(w.alloc (aI #[a,b,kd,ob,rt,nu,pf] 424)).heap.size=w.heap.size+1:=aT;have l:DV ⟨(a:Int),(b:Int),⟨kd,ob,rt,nu,pf⟩⟩=a *16+b:=hk;have HC:aH (LZ C ⟨(a:Int),(b:Int),⟨kd,ob,rt,nu,pf⟩⟩={C with S:=C.S.set (a *16+b) J9}):=by unfold aH LZ;rw[l]
 clear h hp l hk D;have u:a *16+b<128:=aQ;have a0:(0:Int)<=a:=aQ;have a1:(a:Int)<8:=aQ;have b0:(0:Int)<=b:=aQ;have b1:(b:Int)<16:=aQ;unfold Xg;simp only[Z9];generalize LZ C ⟨(a:Int),(b:Int),⟨kd,ob,rt,nu,pf⟩⟩=R at *;go_enter func235,ntmps235
 go_upto_region 1 with(fail)
 generalize w.alloc (aI #[a,b,kd,ob,rt,nu,pf] 424)=x at *;generalize hw:w.heap.size=q1 at *;have m:=aX x (aI #[aU,aU,aU,aU,aU] 156);have yb:=bC.new x 156 #[aU,aU,aU,aU,aU];have T:=(eJ.bX g C).box h1 h1.fl (aI #[aU,aU,aU,aU,aU] 156);have K2:=aP (h1.kp m);have i:=Q.keep m;have E:¬Fb F q1 x.heap.size:=λG=>acA _ (h1.fl _ G)
 clear Q h1 m;generalize x.alloc (aI #[aU,aU,aU,aU,aU] 156)=w2 at *;generalize x.heap.size=q2 at *;subst lF;have A:=i.cell 0 (.int .i64 (a:Int)) rfl;have B:=i.cell 1 (.int .i64 (b:Int)) rfl;have H:=aP T;clear T t;have j:=bF A;have k:=bF B;refine bS (bV _) (λ_=>bV) [] (λ_ _ _=>True) [10] [] 23 (cM _) (λ_ _ _ h U=>bZ h U) (λ_ d hd _ v w w' _ h U=>by cases hd) aV aV bK ?_;repeat refine fQ ?_
 refine eL ?_;intro γ V n hT;clear j k;simp only[dG,Act.put,aaI,aaP,aaN];refine eT ?_;have I:=H.o.keep n;obtain⟨J,K⟩:=I.Px u J9;have q:(a *16+b) *5=a *80+b *5:=aQ;rw[q] at J K;have L:=I.there u;rw[q] at L;refine wpList_store_mid rfl 263 _ _ rfl g (a *80+b *5) (xT J9).toArray rfl rfl L aV (all_oneCell_toArray (Dk.one _)) ?_;have M:=aP ((H.o.kp n).trans K);have f:=M.o.aZ i (.inl (.inr rfl));have c:=M.o.aZ yb (.inr rfl);have X:=aP J;clear I J K L hT i yb A B H n q;generalize V.setCells g (a *80+b *5) (xT J9)=w6 at *;clear V;refine cP ?_;try refine dB ?_
 have A:=f.cell 0 (.int .i64 (a:Int)) rfl;have B:=f.cell 1 (.int .i64 (b:Int)) rfl;have x2:=f.cell 2 kd rfl;have x3:=f.cell 3 ob rfl;have x4:=f.cell 4 rt rfl;have y0:=c.cell 0 (.int .i64 0) rfl;have y1:=c.cell 1 (.int .i64 0) rfl;have y2:=c.cell 2 (.int .i64 0) rfl;have y3:=c.cell 3 (.int .i64 0) rfl;have y4:=c.cell 4 (.int .i64 0) rfl;have f0:=c.frozen 0;have f1:=c.frozen 1;have f2:=c.frozen 2;have f3:=c.frozen 3;have f4:=c.frozen 4;go_wp2_with fail
 obtain⟨y,Y⟩:=Ey c (.int .i64 (a:Int)) (.int .i64 (b:Int)) (.int .i64 kd) (.int .i64 ob) (.int .i64 rt);clear A B x2 x3 x4 y0 y1 y2 y3 y4 f0 f1 f2 f3 f4;generalize ((((w6.setCell (q1+1,0) (.int .i64 (a:Int))).setCell (q1+1,1) (.int .i64 (b:Int))).setCell (q1+1,2) kd).setCell (q1+1,3) ob).setCell (q1+1,4) rt=W at *;have z0:=y.cell 0 (.int .i64 (a:Int)) rfl;have z1:=y.cell 1 (.int .i64 (b:Int)) rfl;have z2:=y.cell 2 kd rfl;have z3:=y.cell 3 ob rfl;have z4:=y.cell 4 rt rfl;have z:Ol (Fb F q1) w6:=λb r=>X.o.fl b (.inl r)
 have h7:=(eJ.bX g _).unbox X.o z Y;have N:¬F (q1+1):=λG=>E (.inl G)
 have k7:Kp F w6 W:=Ol.self (λb r=>z b (.inl r)) N Y;refine bodyPost_ret (v:= .agg #[a,b,kd,ob,rt]) ?_ rfl ⟨rfl,by rw[HC.o];exact h7.less,((K1.o.trans K2.o.unbox).trans M.o.unbox.unbox).trans k7⟩;simp[z0,z1,z2,z3,z4,results,results235,go_sem]
end
variable{e:Int}
section
def C2(C:Cf)(e:Int)(k:Nat):List dK:=(List.range k).filterMap λs=>(tQ C e (s:Nat)).map λh=>⟨e,(s:Nat),h⟩
def AA(C:Cf)(e:Int):List dK:=C2 C e 16
theorem Nf{k:Nat}(h:tQ C e (k:Nat)=none):C2 C e (k+1)=C2 C e k:=by
 unfold C2;rw[acT,acS];simp[h]
theorem Je{k:Nat}{x:Hd}(h:tQ C e (k:Nat)=some x):C2 C e (k+1)=C2 C e k++ [⟨e,(k:Nat),x⟩]:=by
 unfold C2;rw[acT,acS];simp[h]
def Zt(L:List dK)(w:aA)(e:aM)(w':aA):Prop:=∃A c,e= .returned (.slice A L.length c)/\bB oP 5 w' w.heap.size 156 A c L/\aD w w w'
theorem RG(h:eJ F w g C)(e:Int):aG prog 41 #[.pointer g,e] w (Zt (AA C e) w):=by
 have I:=aP h;clear h;go_enter func41,ntmps41
 go_wp2_with fail
 go_loopw [5,9] (λv5 v9 wr=>∃(k:Nat) (A:Option aJ) (c n:Nat) (L:List dK),v9= .int .i64 k/\v5= .slice A n c/\k<=16/\n<=k/\aH (n=L.length/\L=C2 C e k/\bB oP 5 wr w.heap.size 156 A c L/\aD w w wr)) (λ_ v9 _=>16 - (aL v9).toNat)
 case atStart=>exact⟨0,none,0,0, [],rfl,rfl,aQ,aaH _,rfl,rfl,bB.nil _ _ _,Below.refl _ _⟩
 case round=>
  obtain⟨k,A,c,n,L,rfl,rfl,hk,K,b⟩:=hrel;by_cases J:k<16
  .have M:(k:Int)<16:=aQ;have d:=L9 (I.o.keep b.o.2.2.2) e (k:Nat);cases l:tQ C e (k:Nat) with
   |none=>
    rw[l] at d;have d:=aP d;have z:=aP (Nf l);clear l;go_wp2_with fail
    refine aR d ?_;rintro x p ⟨rfl,a⟩;simp only[mC,acF];have r:=aP (a.mono (aaH _) |>.trans ((aX p (aI #[aU,aU,aU] 154)).mono a.size));clear a;go_wp2_with fail
    go_roundw
    case rel=>exact⟨k+1,A,c,n,L,by go_num,rfl,aQ,aQ,b.o.1,by rw[z.o];exact b.o.2.1,b.o.2.2.1.keep r.o,b.o.2.2.2.trans (r.o.mono b.o.2.2.2.size)⟩
    case measure=>simp[aL];omega
   |some x=>
    rw[l] at d;have d:=aP d;have z:=aP (Je l);clear l;obtain⟨r0,r1,i,D,E⟩:=x;go_wp2_with fail
    refine aR d ?_;rintro x p ⟨rfl,a⟩;simp only[mC,acE];have s:=aX p (aI #[r0,r1,i] 154);have yb:=bC.new p 154 #[r0,r1,i];have r:=aP (a.trans (s.mono a.size));clear a s;go_upto_region 7 with(fail)
    generalize p.alloc (aI #[r0,r1,i] 154)=w3 at *;generalize p.heap.size=q3 at *;have N:=yb.cell 0 r0 rfl;have O:=yb.cell 1 r1 rfl;have P:=yb.cell 2 i rfl;clear yb;have t:=aX w3 (aI #[e,k,r0,r1,i] 156);have j:=aP (r.o.trans (t.mono r.o.size));have u:=aP (b.o.2.2.1.keep j.o);have v:=aP (aaR b.o.2.2.2.size j.o.size);clear t;go_wp2_with(at_builtin;refine bN _ rfl _ _ rfl WG fR u.o (n:=n) b.o.1.symm rfl (m:=1) rfl (ys:= [⟨e,(k:Int),⟨r0,r1,i,D,E⟩⟩]) rfl (Sl.new fR w3 ⟨e,(k:Int),⟨r0,r1,i,D,E⟩⟩ _ rfl _) dT aQ v.o _ rfl (n+1) rfl ?_;intro A6 c6 Q f y B;(have G:=aP (And.intro f ((b.o.2.2.2.trans (j.o.mono b.o.2.2.2.size)).grown y v.o (λq hq=>(u.o.lt q hq).1))));clear f y B)
    go_roundw
    case rel=>exact⟨k+1,A6,c6,n+1,_,by go_num,rfl,aQ,aQ,by rw[aaT,<-b.o.1];rfl,by rw[z.o,b.o.2.1],G.o.1,G.o.2⟩
    case measure=>simp[aL];omega
  .obtain rfl:k=16:=aQ;go_wp2_with fail
   go_ret
   have h1:=b.o;have H:L=AA C e:=h1.2.1;exact⟨A,c,by rw[<-H,<-h1.1];rfl,by rw[<-H];exact h1.2.2.1,h1.2.2.2⟩
theorem F9(C:Cf)(e:Int):(AA C e).length<=16:=by
 unfold AA C2;exact aaR (ae3 _ _) (by rw[List.length_range];exact aaH _)
def uY(kd ob:Int)(L:List dK):Int:=L.foldl (λr p=>if p.h.kd=kd/\p.h.ob=ob then bits .or .i64 r p.h.rt else r) 0
def PJ(C:Cf)(e kd ob:Int):Int:=uY kd ob (AA C e)
theorem YC(kd ob:Int)(L:List dK)(p:dK):uY kd ob (L++ [p])=if p.h.kd=kd/\p.h.ob=ob then bits .or .i64 (uY kd ob L) p.h.rt else uY kd ob L:=by
 unfold uY;rw[acQ];rfl
theorem Hk(h:eJ F w g C)(e kd ob:Int):aG prog 15 #[.pointer g,e,kd,ob] w λx w'=>x= .returned (.int .i64 (PJ C e kd ob))/\aD w w w':=by
 have O:=aP (RG h e);have D:=F9 C e;unfold PJ;generalize AA C e=L at *;clear h;go_enter func15,ntmps15
 go_wp2_with fail
 refine aR O ?_;rintro x H ⟨A,c,rfl,own,m⟩;obtain⟨n,B⟩:∃n,n=L.length:=⟨_,rfl⟩
 have p:=cZ B own m;rw[<-B];rw[<-B] at D;clear B own m;go_wp2_with fail
 go_loopw [9,16] (λv9 i wr=>∃(k:Nat) (r:Int),i= .int .i64 k/\v9= .int .i64 r/\k<=n/\aH (r=uY kd ob (L.take k))/\aD H H wr) (λ_ i _=>n - (aL i).toNat)
 case atStart=>exact⟨0,0,rfl,rfl,aaQ _,rfl,Below.refl _ _⟩
 case round=>
  obtain⟨k,r,rfl,rfl,hk,I,t⟩:=hrel;by_cases E:k<n
  .have b:k<L.length:=by rw[<-p.o.1];exact E
   have l:=p.o.2.1.keep t;obtain⟨q,rfl⟩:∃q,A=some ⟨q,0,none⟩:=by
    rcases l.shape with⟨_,G,_⟩|G
    .rw[G] at b;simp at b
    .exact G
   have J:=bG fR l b (j:=0) (v:= .int .i64 L[k].e) rfl;have P:=bG fR l b (j:=1) (v:= .int .i64 L[k].s) rfl;have Q:=bG fR l b (j:=2) (v:= .int .i64 L[k].h.kd) rfl;have R:=bG fR l b (j:=3) (v:= .int .i64 L[k].h.ob) rfl;have S:=bG fR l b (j:=4) (v:= .int .i64 L[k].h.rt) rfl;rw[aa3] at J;have Y:(0:Int)<=k:=aQ;have T:(k:Int)<(n:Int):=aQ;clear l;have u:L.take (k+1)=L.take k++ [L[k]]:=by rw[abN,aaG b];rfl
   have d:aH (uY kd ob (L.take (k+1))=if L[k].h.kd=kd/\L[k].h.ob=ob then bits .or .i64 r L[k].h.rt else r):=by unfold aH;rw[u,YC,<-I.o]
   clear u;generalize L[k]=y at *;obtain⟨U,V,K,M,N,Z,y7⟩:=y;simp only at J P Q R S d;have f:=aP (t.alloc t.size (aI #[U,V,K,M,N] 156));clear t;obtain⟨a,W⟩:∃a,bits .or .i64 r N=a:=⟨_,rfl⟩
   rw[W] at d;by_cases hc:K=kd
   .by_cases hd:M=ob
    .have z:aH (uY kd ob (L.take (k+1))=a):=by unfold aH;rw[d.o,aaK ⟨hc,hd⟩]
     clear d;go_wp2_with fail
     go_roundw
     case rel=>exact⟨k+1,a,by go_num,rfl,aQ,z.o.symm,by first|exact f.o|(subst hc;subst hd;exact f.o)⟩
     case measure=>simp[aL];omega
    .have z:aH (uY kd ob (L.take (k+1))=r):=by unfold aH;rw[d.o,aaL (λh=>hd h.2)]
     clear d;go_wp2_with fail
     go_roundw
     case rel=>exact⟨k+1,r,by go_num,rfl,aQ,z.o.symm,by first|exact f.o|(subst hc;exact f.o)⟩
     case measure=>simp[aL];omega
   .have z:aH (uY kd ob (L.take (k+1))=r):=by unfold aH;rw[d.o,aaL (λh=>hc h.1)]
    clear d;go_wp2_with fail
    go_roundw
    case rel=>exact⟨k+1,r,by go_num,rfl,aQ,z.o.symm,f.o⟩
    case measure=>simp[aL];omega
  .obtain rfl:k=n:=aQ;have T:¬(k:Int)<(k:Int):=aQ;go_wp2_with fail
   go_ret
   have X:r=uY kd ob L:=by rw[I.o,aa7 (by rw[<-p.o.1];exact aaH _)]
   exact⟨by rw[<-X];rfl,p.o.2.2.trans (t.mono p.o.2.2.size)⟩
end
variable{A:Option aJ}
section
def uZ(L:List Int)(v:Int):Int:=match L.findIdx? (λx=>decide (x=v)) with
 |some i=>i
 |none=> -1
theorem On{L:List Int}{v:Int}{k:Nat}(hk:k<L.length)(h:∀j,j<k->L[j]?≠some v)(he:L[k]=v):uZ L v=k:=by
 unfold uZ;have h1:L.findIdx? (λx=>decide (x=v))=some k:=by
  rw[aa5];refine⟨hk,by simp[he],λj a=>?_⟩;have:=h j a;have b:j<L.length:=aQ;rw[aaG b] at this;simp;exact λe=>this (by rw[e])
 rw[h1]
theorem Pd{L:List Int}{v:Int}(h:∀j,j<L.length->L[j]?≠some v):uZ L v= -1:=by
 unfold uZ;have h1:L.findIdx? (λx=>decide (x=v))=none:=by
  rw[abP];intro x b;obtain⟨j,a,rfl⟩:=aa2 b;have:=h j a;rw[aaG a] at this;simp;exact λe=>this (by rw[e])
 rw[h1]
theorem Hj(L:List Int)(v:Int):decide (0<=uZ L v)=decide (v∈L):=by
 unfold uZ;cases h:L.findIdx? (λx=>decide (x=v)) with
 |none=>
  have a:=abP.1 h;have:¬v∈L:=λhm=>by
   have:=a v hm;simp at this
  simp[this]
 |some i=>
  obtain⟨hi,hp,_⟩:=aa5.1 h;have:v∈L:=by
   have he:L[i]=v:=by simpa using hp
   rw[<-he];exact aaM hi
  simp[this]
theorem KS{c:Nat}{L:List Int}(h:Sl eI 1 w A L)(s:L.length<=100000000)(v:Int):aG prog 249 #[(A,L.length,c),v] w λe w'=>e= .returned (.int .i64 (uZ L v))/\w=w':=by
 obtain⟨n,g⟩:∃n,n=L.length:=⟨_,rfl⟩
 have i:=bH g h;rw[<-g];rw[<-g] at s;have t:aH (∀k,k<n->(∀j,j<k->L[j]?≠some v)->L[k]?=some v->uZ L v=k):=λk hk d he=>by
  have a:k<L.length:=by rw[<-i.o.1];exact hk
  refine On a d ?_;rw[aaG a] at he;injection he
 have u:aH ((∀j,j<n->L[j]?≠some v)->uZ L v= -1):=λd=>Pd (by rw[<-i.o.1];exact d)
 generalize uZ L v=R at *;clear h g;go_enter func249,ntmps249
 go_wp2_with fail
 go_loop [8] (λv8=>∃k:Nat,v8= .int .i64 k/\k<=n/\aH (∀j,j<k->L[j]?≠some v)) (λv8=>n - (aL v8).toNat)
 case atStart=>exact⟨0,rfl,aaQ _,λj d=>absurd d (acK _)⟩
 case round=>
  obtain⟨k,rfl,hk,l⟩:=hrel;by_cases f:k<n
  .have a:k<L.length:=by rw[<-i.o.1];exact f
   obtain⟨b,off,rfl,z⟩:=i.o.2.EJ a;have B:(0:Int)<=k:=aQ;have y:(k:Int)<(n:Int):=aQ;have r:aH (L[k]?=some L[k]):=aaG a;generalize L[k]=x at *;by_cases m:v=x
   .have p:aH (R=k):=t.o k f l.o (by rw[r.o,m]);subst m;go_wp2_with fail
    go_ret
    exact⟨by rw[p.o];rfl,rfl⟩
   .go_wp2_with fail
    go_round
    case rel=>
     refine⟨k+1,by go_num,aQ,λj d=>?_⟩;by_cases q:j<k
     .exact l.o j q
     .obtain rfl:j=k:=aQ;rw[r.o];intro hc;injection hc with hc;exact m hc.symm
    case measure=>simp[aL];omega
  .obtain rfl:k=n:=aQ;have y:¬(k:Int)<(k:Int):=aQ;have p:aH (R= -1):=u.o l.o;go_wp2_with fail
   go_ret
   exact⟨by rw[p.o];rfl,rfl⟩
theorem OX{c:Nat}{L:List Int}(h:Sl eI 1 w A L)(a:L.length<=100000000)(v:Int):aG prog 236 #[(A,L.length,c),v] w λe w'=>e= .returned (.bool (decide (v∈L)))/\w=w':=by
 have b:=aP (KS (c:=c) h a v);have d:=aP (Hj L v);generalize uZ L v=R at *;generalize decide (v∈L)=T at *;clear h;generalize L.length=n at *;go_enter func236,ntmps236
 go_wp2_with fail
 refine aR b ?_;rintro e f ⟨rfl,rfl⟩;go_wp2_with fail
 go_ret
 exact⟨by rw[<-d.o];rfl,rfl⟩
def SF(C:Cf)(k:Nat):Option dK:=if(cN C k).nu=0 then none else some ⟨((k /16:Nat):Int),((k%16:Nat):Int),cN C k⟩
def vR(C:Cf)(k:Nat):List dK:=(List.range k).filterMap (SF C)
def vH(C:Cf):List dK:=vR C 128
theorem Mu{k:Nat}(h:(cN C k).nu=0):vR C (k+1)=vR C k:=by
 unfold vR;rw[acT,acS];simp[SF,h]
theorem Jn{k:Nat}(h:¬(cN C k).nu=0):vR C (k+1)=vR C k++ [⟨((k /16:Nat):Int),((k%16:Nat):Int),cN C k⟩]:=by
 unfold vR;rw[acT,acS];simp[SF,h]
theorem I1(C:Cf)(k:Nat):(vR C k).length<=k:=by
 unfold vR;exact aaR (ae3 _ _) (by rw[List.length_range];exact aaH _)
def Wz(C:Cf)(w:aA)(e:aM)(w':aA):Prop:=∃(A:Option aJ) (c:Nat) (L:List dK),e= .returned (.slice A L.length c)/\L.Perm (vH C)/\L.Pairwise (λx y=>x.h.nu<=y.h.nu)/\bB wT 7 w' w.heap.size 424 A c L/\aD w w w'
theorem IZ(h:eJ F w g C):aG prog 234 #[.pointer g] w (Wz C w):=by
 have S:=aP h;clear h;go_enter func234,ntmps234
 go_wp2_with fail
 go_loopw [3,7] (λv3 G wr=>∃(i:Nat) (A:Option aJ) (c n:Nat) (L:List dK),G= .int .i64 i/\v3= .slice A n c/\i<=8/\n<=i *16/\aH (n=L.length/\L=vR C (i *16)/\bB wT 7 wr w.heap.size 424 A c L/\aD w w wr)) (λ_ G _=>8 - (aL G).toNat)
 case atStart=>exact⟨0,none,0,0, [],rfl,rfl,aQ,aaH _,rfl,rfl,bB.nil _ _ _,Below.refl _ _⟩
 case round=>
  obtain⟨i,A,c,n,L,rfl,rfl,hi,H,a⟩:=hrel;by_cases T:i<8
  .have i1:(i:Int)<8:=aQ;go_wp2_with fail
   go_loopw [3,10] (λv3 v10 P=>∃(j:Nat) (A:Option aJ) (c n:Nat) (L:List dK),v10= .int .i64 j/\v3= .slice A n c/\j<=16/\n<=i *16+j/\aH (n=L.length/\L=vR C (i *16+j)/\bB wT 7 P w.heap.size 424 A c L/\aD w w P)) (λ_ v10 _=>16 - (aL v10).toNat)
   case atStart=>exact⟨0,A,c,n,L,rfl,rfl,aQ,H,a⟩
   case round=>
    clear a H;obtain⟨j,A,c,n,L,rfl,rfl,W,H,a⟩:=hrel;by_cases U:j<16
    .have X:(j:Int)<16:=aQ;have hid:tC (i:Int) (j:Int)=some (i *16+j):=by unfold tC;rw[aaK aQ];rfl
     have h1:=S.o.keep a.o.2.2.2;have b:=zL h1 (i:Int) (j:Int);have hk:i *16+j<128:=aQ;obtain⟨c0,c1,c2,c3,c4⟩:=h1.at_ hk;by_cases l:(cN C (i *16+j)).nu=0
     .have p:fW C (i:Int) (j:Int)=none:=by unfold fW;rw[hid];exact aaK l
      rw[p] at b;have b:=aP b;have z:=aP (Mu l);clear p l hid h1 c0 c1 c2 c3 c4;go_wp2_with fail
      refine aR b ?_;rintro x B ⟨rfl,rfl⟩;simp only[pW,acU];go_wp2_with fail
      go_roundw
      case rel=>exact⟨j+1,A,c,n,L,by go_num,rfl,aQ,aQ,a.o.1,by rw[<-abV,z.o];exact a.o.2.1,a.o.2.2⟩
      case measure=>simp[aL];omega
     .have p:fW C (i:Int) (j:Int)=some (i *16+j):=by unfold fW;rw[hid];exact aaL l
      rw[p] at b;have b:=aP b;have z:=aP (Jn l);have Q:(i *16+j) /16=i:=aQ;have R:(i *16+j)%16=j:=aQ;rw[Q,R] at z;clear p l hid h1 Q R;generalize cN C (i *16+j)=x at *;obtain⟨r0,r1,I,J,K⟩:=x;simp only at c0 c1 c2 c3 c4;go_wp2_with fail
      refine aR b ?_;rintro x B ⟨rfl,rfl⟩;simp only[pW,abL];go_upto_region 10 with(fail)
      have r:=aX wr (aI #[i,j,r0,r1,I,J,K] 424);have e:=aP r;have s:=aP (a.o.2.2.1.keep e.o);have t:=aP (aaR a.o.2.2.2.size e.o.size);clear r;go_wp2_with(at_builtin;refine bN _ rfl _ _ rfl Yb iP s.o (n:=n) a.o.1.symm rfl (m:=1) rfl (ys:= [⟨(i:Int),(j:Int),⟨r0,r1,I,J,K⟩⟩]) rfl (Sl.new iP wr ⟨(i:Int),(j:Int),⟨r0,r1,I,J,K⟩⟩ _ rfl _) dT aQ t.o _ rfl (n+1) rfl ?_;intro A6 c6 Y d u M;(have D:=aP (And.intro d ((a.o.2.2.2.trans (e.o.mono a.o.2.2.2.size)).grown u t.o (λq hq=>(s.o.lt q hq).1))));clear d u M)
      go_roundw
      case rel=>exact⟨j+1,A6,c6,n+1,_,by go_num,rfl,aQ,aQ,by rw[aaT,<-a.o.1];rfl,by rw[<-abV,z.o,a.o.2.1],D.o.1,D.o.2⟩
      case measure=>simp[aL];omega
    .obtain rfl:j=16:=aQ;go_wp2_with fail
     go_roundw
     case rel=>exact⟨i+1,A,c,n,L,by go_num,rfl,aQ,aQ,a.o.1,by rw[acN,ad0];exact a.o.2.1,a.o.2.2⟩
     case measure=>simp[aL];omega
  .obtain rfl:i=8:=aQ;have v:aH (L=vH C):=a.o.2.1;rcases a.o.2.2.1.shape with⟨rfl,f,rfl⟩|⟨q,rfl⟩
   .have N:n=0:=by rw[a.o.1,f];rfl
    subst N;have O:=aP f;clear f;go_wp2_with fail
    refine aS (VE _) ?_;rintro x B ⟨rfl,rfl⟩;go_wp2_with fail
    go_ret
    exact⟨none,0, [],rfl,by rw[<-v.o,O.o],List.Pairwise.nil,bB.nil _ _ _,a.o.2.2.2⟩
   .have E:=WQ a.o.2.2.1 (by rw[<-a.o.1];omega);rw[<-a.o.1] at E;have E:=aP E;go_wp2_with fail
    refine aR E ?_;rintro x B ⟨rfl,V,hp,hs,FC,y⟩;have D:aH (Wz C w (.returned (.slice q n c)) B):=⟨some ⟨q,0,none⟩,c,V,by rw[hp.length_eq,<-a.o.1],by rw[<-v.o];exact hp,hs,FC,a.o.2.2.2.grown y a.o.2.2.2.size (λk hk=>(a.o.2.2.1.lt k hk).1)⟩
    clear hp hs FC y;go_wp2_with fail
    go_ret
    exact D.o
end
end
end Go.Proofs.YtacgiflhgdaeaaaGreat
