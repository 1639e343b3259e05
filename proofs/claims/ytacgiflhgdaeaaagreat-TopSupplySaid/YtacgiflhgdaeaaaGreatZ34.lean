/- Texts laid as one. -/
import Derived.Test.YtacgiflhgdaeaaaGreatZ30
import Derived.Test.YtacgiflhgdaeaaaGreatZ32
import Derived.Test.YtacgiflhgdaeaaaGreatZ33
set_option linter.unusedVariables false
set_option linter.unusedSimpArgs false
set_option maxRecDepth 100000
set_option maxHeartbeats 20000000
namespace Go.Proofs.YtacgiflhgdaeaaaGreat
open Go.Proofs.Tryz
open Go renaming World->aA,Value->aC,Calls->aG
open Go.RowKit renaming Below->aD,Hid->aH,intOf->aL
open Go.Obj renaming cells->aI
section
open Go.RowKit Go.Lib Go.Shelf dH Fr Up Nt
variable{e N E op:Int}{l:List Gc}{s:Sd}{k':Kv}{i:Nat}{D:List (Int×Int)}{ws:List (Int×Int×Int)}{rn:Rn}
section
theorem EK{x:Int}(h:¬(sR x=true/\E=0)):sH e l (x,(N,E))=l:=by
 unfold sH;split
 .exact modify_id λg=>by unfold IK;rw[aaL h]
 .rfl
theorem QB{x:Int}(a:¬nJ x=15)(b:¬nJ x=16):sH e l (x,(N,E))=l:=by
 unfold sH;split
 .exact modify_id λg=>by unfold IK;split <;> first|rfl|rw[aaL a,aaL b]
 .rfl
theorem Ui(he:0<=e){x:Int}(a:sR x=true)(h:nJ x=15):sH e l (x,(N,0))=l.set e.toNat ⟨cW x,dW x,true,0, []⟩:=by
 unfold sH;rw[aaK he];exact vG λg=>by unfold IK;rw[aaK ⟨a,rfl⟩,aaK h]
theorem Sa(he:0<=e){x:Int}(a:sR x=true)(h:nJ x=16):sH e l (x,(N,0))=l.set e.toNat ⟨0,0,false,0, []⟩:=by
 unfold sH;rw[aaK he];exact vG λg=>by unfold IK;rw[aaK ⟨a,rfl⟩,aaL (by rw[show nJ (x,(N,(0:Int))).1=nJ x from rfl,h];omega),aaK h]
theorem kH.res(g:kH s l)(N:NL s)(he:0<=e/\e<4)(bu pe:Int):kH (kK s e bu pe) (if sP s e bu pe=0 then l.set e.toNat ⟨bu,pe,true,0, []⟩ else l):=by
 have d:FN s e=true:=by unfold FN;rw[N.p4];exact abD aQ
 have h:=N.kK e bu pe;have j:((e.toNat:Nat):Int)=e:=aQ;have m:sP s e bu pe=lI s.b e bu pe:=by unfold sP;rw[aaK d]
 have n:kK s e bu pe=if lI s.b e bu pe=0 then {s with b:=pI s.b e bu pe,P:=s.P.modify e.toNat λp=>{p with sv:=some (lK bu pe)}} else s:=by unfold kK;rw[aaK d];unfold pK;rw[j]
 rw[n] at h;rw[m,n];by_cases f:lI s.b e bu pe=0
 .rw[aaK f] at h;rw[aaK f,aaK f];refine⟨by rw[aaV];exact g.l4,λi x c o=>?_⟩;have u:e.toNat<s.P.length:=by rw[N.p4];omega
  by_cases hi:e.toNat=i
  .subst hi;rw[adC (by have:=g.l4;omega)] at c;injection c with c;subst c;have hp:(s.P.modify e.toNat λp=>{p with sv:=some (lK bu pe)})[e.toNat]?=some {s.P[e.toNat] with sv:=some (lK bu pe)}:=by
    rw[ac3,aaG u];simp
   have hm:=aa1 hp;have q:=(h.i.sv _ hm _ rfl).b;have y:=h.t _ hm _ rfl;refine⟨λz A=>by simp at A,N.i.nw.1,aT,_,_,hp,rfl,rfl,rfl,λk hk=>?_⟩;have hk:k=0:=by simpa using hk
   subst hk;have m:s.nw - ((([]:List Int).length:Int) - ((0:Nat):Int))=s.nw:=aT;show MI (lK bu pe) s.nw (s.nw - ((([]:List Int).length:Int) - ((0:Nat):Int))) 0/\(_->LI (lK bu pe) s.nw (s.nw - ((([]:List Int).length:Int) - ((0:Nat):Int))) 0);rw[m];exact⟨MI.new q _,λ_=>LI.new q y⟩
  .rw[acP hi] at c;obtain⟨p,v,hp,B,r⟩:=(g.a i x c o).v;have G:=g.a i x c o;exact⟨G.r,G.l,G.s0,p,v,by show(List.modify _ _ _)[i]?=_;rw[ac3,hp];simp[hi],B,r⟩
 .rw[aaL f,aaL f];exact g
theorem kH.Wt(g:kH s l)(N:NL s)(he:0<=e/\e<4)(b p:Int):kH (lU s e) (if uB s e=0 then l.set e.toNat ⟨b,p,false,0, []⟩ else l):=by
 have d:FN s e=true:=by unfold FN;rw[N.p4];exact abD aQ
 unfold lU uB;rw[aaK d];cases j:rO s e with
 |none=>
  simp only[acF,abB,ab4];rw[aaL aQ];exact g
 |some v=>
  simp only[acE,acY];refine⟨by rw[aaV];exact g.l4,λi x c f=>?_⟩;by_cases hi:e.toNat=i
  .subst hi;rw[adC (by have:=g.l4;omega)] at c;injection c with c;subst c;cases f
  .rw[acP hi] at c;obtain⟨p,v2,hp,h,r⟩:=(g.a i x c f).v;have G:=g.a i x c f;exact⟨G.r,G.l,G.s0,p,v2,by show(List.modify _ _ _)[i]?=_;rw[ac3,hp];simp[hi],h,r⟩
theorem Q8(k:Kv)(e s:Int):(pS k e s).2.2.s=k.s:=by
 unfold pS;split
 .rfl
 .split
  .rfl
  .split
   .rfl
   .split <;> rfl
theorem P1(k:Kv)(e s a v:Int):(sY k e s a v).2.s=k.s:=by
 unfold sY;split
 .rfl
 .split <;> rfl
theorem UK(k:Kv)(e s p w:Int):(qQ k e s p w).2.s=k.s:=by
 unfold qQ;split
 .rfl
 .split <;> rfl
theorem nV.gv{k:Kv}{x:Int}(r:nV k e (nJ x) (aW x) (bW x) (cW x) (dW x) N E k')(c:NL k.s)(g:kH k.s l)(he:0<=e/\e<4)(j:sR x=true):NL k'.s/\kH k'.s (sH e l (x,(N,E))):=by
 have same:∀{i:Kv} {m n:Int},i.s=k.s->¬nJ x=15->¬nJ x=16->NL i.s/\kH i.s (sH e l (x,(m,n))):=λhs a b=>by
  rw[QB a b,hs];exact⟨c,g⟩
 cases r with
 |alloc h=>exact same (Q8 _ _ _) aQ aQ
 |free h r=>exact same r.s_ aQ aQ
 |read h=>exact same rfl aQ aQ
 |write h=>exact same (P1 _ _ _ _ _) aQ aQ
 |load h=>exact same (UK _ _ _ _ _) aQ aQ
 |ER h=>exact same rfl aQ aQ
 |hand h r=>exact same r.s_ aQ aQ
 |line h=>exact same rfl aQ aQ
 |vM h hm=>exact same rfl aQ aQ
 |time h r=>
  unfold qM at r;by_cases a:nJ x=15
  .rw[aaK a] at r;obtain⟨rfl,rfl⟩:=r;refine⟨c.kK _ _ _,?_⟩;have d:=g.res c he (cW x) (dW x);by_cases f:sP k.s e (cW x) (dW x)=0
   .rw[aaK f] at d;rw[f,Ui he.1 j a];exact d
   .rw[aaL f] at d;rw[EK λh=>f h.2];exact d
  .rw[aaL a] at r;by_cases b:nJ x=16
   .rw[aaK b] at r;obtain⟨rfl,rfl⟩:=r;refine⟨c.lU _,?_⟩;have d:=g.Wt c he 0 0;by_cases f:uB k.s e=0
    .rw[aaK f] at d;rw[f,Sa he.1 j b];exact d
    .rw[aaL f] at d;rw[EK λh=>f h.2];exact d
   .rw[aaL b] at r;rw[QB a b];rcases r with rfl|rfl
    .exact⟨c,g⟩
    .exact⟨c.gS _ _,g.same (TZ.zT _ _ _)⟩
 |send h r=>
  rw[QB aQ aQ];rcases r with rfl|⟨o,rfl⟩
  .exact⟨c,g⟩
  .exact⟨(yQ k o).nl c,(yQ k o).gv g⟩
 |next h p=>exact same rfl aQ aQ
 |null h=>exact same rfl aQ aQ
theorem sO.gv{c:Int}{x:Int}{k:Kv}(r:sO c e i x k N E k')(a:NL k.s)(g:kH k.s l)(he:0<=e/\e<4):NL k'.s/\kH k'.s (sH e l (x,(N,E))):=by
 unfold sO at r;split at r
 .rw[EK (by rw[r.2.1];simp),r.2.2];exact⟨a,g⟩
 .split at r
  .rename_i b;rcases r with r|r
   .exact r.gv a g he b
   .rw[EK (by rw[r.2.1];simp),r.2.2];exact⟨a,g⟩
  .rename_i b;rw[EK (λh=>b h.1),r.2.2];exact⟨a,g⟩
theorem xO.gv{c:Int}{k:Kv}{ws:List Int}(h:xO c e k ws D k')(a:NL k.s)(g:kH k.s l)(he:0<=e/\e<4):NL k'.s/\kH k'.s ((ws.zip D).foldl (sH e) l):=by
 induction h with
 |nil=>exact⟨a,g⟩
 |snoc r x b d=>
  obtain⟨h1,f⟩:=d;have i:=r.len;rw[List.zip_append i.symm,acQ];exact b.gv h1 f he
theorem U0(s:Sd)(e bu pe:Int):(kK s e bu pe).nw=s.nw:=by
 unfold kK;split
 .unfold pK;split <;> rfl
 .rfl
theorem UL(s:Sd)(e:Int):(lU s e).nw=s.nw:=by
 unfold lU;split <;> rfl
theorem nV.nw{k:Kv}{A B C D:Int}(r:nV k e op A B C D N E k'):k'.s.nw=k.s.nw:=by
 cases r with
 |alloc h=>rw[Q8]
 |free h r=>rw[r.s_]
 |read h=>rfl
 |write h=>rw[P1]
 |load h=>rw[UK]
 |ER h=>rfl
 |hand h r=>rw[r.s_]
 |line h=>rfl
 |vM h hm=>rfl
 |time h r=>
  unfold qM at r;split at r
  .rw[r.2];exact U0 _ _ _ _
  .split at r
   .rw[r.2];exact UL _ _
   .rcases r with rfl|rfl
    .rfl
    .exact yL _ _ _
 |send h r=>
  rcases r with rfl|⟨o,rfl⟩
  .rfl
  .exact CG _ _
 |next h a=>rfl
 |null h=>rfl
theorem xO.nw{c:Int}{k:Kv}{ws:List Int}(h:xO c e k ws D k'):k'.s.nw=k.s.nw:=by
 induction h with
 |nil=>rfl
 |snoc r x a b=>
  rw[<-b];unfold sO at a;split at a
  .rw[a.2.2]
  .split at a
   .rcases a with a|a
    .exact a.nw
    .rw[a.2.2]
   .rw[a.2.2]
theorem qI.gv{k:Kv}{c:Int}{xs:List Wd}(h:qI k c ws xs rn D k')(u:NL k.s)(K:k.s.nw<1048576)(g:kH k.s l)(rd:List Bool)(q:∀(i:Nat) (p:Pv),k.s.P[i]?=some p->rd.getD i false=true->p.rd=true):
 NL k'.s/\k'.s.nw=k.s.nw+1/\kH k'.s (((DE xs rn.env).zip D).foldl (sH rn.env) (qH rn rd 4 l))/\∀x∈qH rn rd 4 l,UA x:=by
 obtain⟨b,C,rfl,h⟩:=h;have n:=(Z6 ws k).trans C.rd;have o:=n.nl u;have v:=n.nw;have g2:=n.gv g;have e:b.s.nw<1048576:=aQ;have f:∀(i:Nat) (p:Pv),b.s.P[i]?=some p->rd.getD i false=true->p.rd=true:=λi p hp E=>by
  have hi:i<k.s.P.length:=by
   have h1:=(aaX.1 hp).1;rw[o.p4] at h1;rw[u.p4];exact h1
  obtain⟨L,d,r⟩:=n.rd (aaG hi) (q i _ (aaG hi) E);rw[hp] at d;injection d with d;rw[d];exact r
 have g3:=g2.tick o e rd f;have t:=o.tick e;have y:=tS b.s;have A:∀x∈qH (cI b.s).1 rd 4 l,UA x:=λx F G=>by
  obtain⟨i,hi,rfl⟩:=aa2 F;exact UA.of t (g3.a i _ (aaG hi) G)
 rcases h with⟨i,z,he,H,B⟩|⟨he,rfl,rfl⟩
 .have m:(0:Int)<=(cI b.s).1.env/\(cI b.s).1.env<4:=by
   rcases RH b.s with h|⟨j,h,I⟩
   .omega
   .rw[o.p4] at I;omega
  have hd:DE xs (cI b.s).1.env=z.xs:=by
   unfold DE;rw[aaK m.1,he,aaW,H]
  rw[hd];obtain⟨h1,J⟩:=B.gv t g3 m;exact⟨h1,by rw[B.nw];show(cI b.s).2.nw=_;rw[y,v],J,A⟩
 .refine⟨t,by show(cI b.s).2.nw=_;rw[y,v],?_,A⟩;rw[List.zip_nil_right];exact g3
end
section
def VD:Tk:=⟨1,20,20, [],0⟩
def IW:Lb:=mT [VD] 0
def Lj:Lb:=(oN IW 0 1).2
theorem Qr:qD [VD]=true:=cD
def BU(x:Lb)(gl:Nat)(sv:aC):List Rm:=jT.set 2 (J0 x gl sv 0)
theorem Fs(gl:Nat)(sv:aC):P2 jT 2 [VD] 0 gl sv=BU IW gl sv:=aV
theorem ZC:D0 jT 2 [VD] 0=0:=cD
theorem GB(gl:Nat)(sv:aC):lL (BU IW gl sv) [(2,0,1)]=BU Lj gl sv:=aV
theorem Wj(gl:Nat)(sv:aC):mK (BU Lj gl sv) 2 8=(0,1):=aV
theorem Wf(gl:Nat)(sv:aC):(kV (BU Lj gl sv) 2 8).length=1:=aV
def Rz(s:Sd):Prop:=∃a b d,s.P= [⟨none,a⟩,⟨none,b⟩,⟨some (lK 2 9),true⟩,⟨none,d⟩]/\s.nw=0
theorem Rz.zT(h:Rz s)(e:Int):Rz (gS s e true):=by
 obtain⟨a,b,d,h1,c⟩:=h;unfold gS;split
 .rename_i hi;have hi:=acC hi;rw[h1] at hi;simp only[abM,ab5] at hi;obtain⟨n,rfl⟩:=aaO hi.1;have:n=0\/n=1\/n=2\/n=3:=aQ;have key:∀i,(s.P.modify i λp=>{p with rd:=true})=([⟨none,a⟩,⟨none,b⟩,⟨some (lK 2 9),true⟩,⟨none,d⟩]:List Pv).modify i λp=>{p with rd:=true}:=λi=>by rw[h1]
  rcases this with rfl|rfl|rfl|rfl
  .exact⟨true,b,d,(key 0).trans rfl,c⟩
  .exact⟨a,true,d,(key 1).trans rfl,c⟩
  .exact⟨a,b,d,(key 2).trans rfl,c⟩
  .exact⟨a,b,true,(key 3).trans rfl,c⟩
 .exact⟨a,b,d,h1,c⟩
theorem Rz.tick(h:Rz s):(cI s).1.env=2/\(cI s).1.ch=true:=by
 obtain⟨a,b,d,h1,c⟩:=h;have e:(dC s).P= [⟨none,a⟩,⟨none,b⟩,⟨some (dE (lK 2 9) 0 true),true⟩,⟨none,d⟩]:=by
  show s.P.map (iS s.nw)=_;rw[h1,c];rfl
 have f:fU (dC s).P s.P.length=some (2,9):=by
  rw[e,h1];rfl
 unfold cI;rw[f];exact⟨rfl,rfl⟩
theorem Rz.tJ(l:List Int):∀{k:Kv},Rz k.s->Rz (eZ k l).s:=by
 induction l with
 |nil=>intro k h;exact h
 |cons e l a=>
  intro k h;refine a ?_;unfold fI;split
  .exact h.zT e
  .exact h
theorem Rz.before{k:Kv}(h:Rz k.s)(c:k.b= [])(r:jV k k'):Rz k'.s:=by
 obtain⟨l1,d,T,e,a,ho,rfl⟩:=r;rw[c] at a;have:T= []:=by
  have:=a.length_eq;simpa[iV] using this
 subst this;cases ho;exact Rz.tJ d (Rz.tJ l1 h)
def N9:Sd:=kK (qW 4) 2 2 9
theorem Vg:sP (qW 4) 2 2 9=0:=cD
theorem Sq(gl:Nat)(sv:aC):Rz (lY N9 (BU Lj gl sv) 8):=⟨true,true,true,aV,aV⟩
end
theorem TG:gE (wR 4):=by
 refine⟨cD,λp hp v a=>?_,⟨λx v h=>(by cases h),λp hp=>(by cases hp),cD,cD⟩,cD,cD,cD,cD,λi p hp=>?_,λi hi=>rfl⟩
 .have:p=⟨none,false⟩:=abI (n:=4) hp;rw[this] at a;cases a
 .have:p=⟨none,false⟩:=abI (n:=4) (aa1 hp);rw[this];rfl
theorem vL:∀n,gE (qW n)/\(qW n).P.length=4
 |0=>⟨TG,rfl⟩
 |n+1=>GM (vL n).1 (vL n).2 _ _
theorem Ll(p:Nat×Nat):KI (pY p) 9:=by
 exact⟨(vL 4).1,(vL 4).2,(show 0<=(AM 2).n/\(AM 2).n<=((9:Nat):Int) by decide),aaQ _,List.Pairwise.nil,λx a=>(by cases a),List.Pairwise.nil,rfl,aaQ _⟩
theorem Yw(p0):KI {pY p0 with s:=N9} 9:=(Ll p0).LH (GZ (vL 4).1 (vL 4).2 2 2 9).1 (GZ (vL 4).1 (vL 4).2 2 2 9).2
theorem Ym(gl sv):xP (BU IW gl sv) 0 0:=λi x a=>by
 by_cases hi:i=2
 .subst hi;have:(bT (BU IW gl sv) 2).l=some IW:=rfl;rw[this] at a;injection a with a;subst a;exact⟨Mt 0 Qr,ab0 _⟩
 .exfalso
  unfold BU at a;rw[GX (ae5 hi)] at a;unfold bT at a;rw[aaU] at a;unfold jT at a;rw[List.getElem?_replicate] at a;split at a <;> cases a
def Xi:Prop:=∀(F:Nat->Prop) (w:aA) (hb m g q:Nat) p0 gl sv,cE F w hb m g 3 {pY p0 with s:=N9} (BU IW gl sv)->Sl kR 3 w q [(2,0,1)]->(∀b,jU q 1=some b->F b)->
 aG prog 16 #[.pointer hb, .agg #[bA,bA,bA, .slice q 1 1]] w (Mh F hb m g 3 {pY p0 with s:=N9} (BU IW gl sv) 9 0 [] [] [(2,0,1)] w)
theorem Aj(K:Xi)(w:aA):aG prog 7 #[] w λr w'=>r= .returned (.bool true)/\aD w w w':=by
 have L:=aP (LM w 3 aQ);go_enter func7,ntmps7
 go_wp2_with fail
 refine aR L ?_;rintro r w2 ⟨q,m,g,p0,rfl,M,f⟩;have t:=RJ M (vL 4).1 2 2 9;have G:CO (pY p0) 2 2 9=0:=Vg;have N:lV (pY p0) 2 2 9={pY p0 with s:=N9}:=rfl;rw[G,N] at t;have t:=aP t;have d:=aP f;have lF:=f.size;clear M f L G N;go_wp2_with fail
 refine aR t ?_;rintro r k ⟨rfl,O,l⟩;have h:aH (aD w w k):=⟨l.os.trans d.o.os,l.tape.trans d.o.tape,l.output.trans d.o.output,aaR lF l.size,λi hi=>(l.block i hi).trans (d.o.block i hi)⟩
 have P:=aP O;clear O l t d lF;go_wp2_with fail
 have u:=aX k (aI #[.int .i64 1, .int .i64 20, .int .i64 20,bA,aU] 125);have Q:wS (k.alloc (aI #[.int .i64 1, .int .i64 20, .int .i64 20,bA,aU] 125)) (some ⟨k.heap.size,0,none⟩) [⟨VD,none,0⟩]:=⟨Sl.new oI k ⟨VD,none,0⟩ _ rfl _,λx v=>by rw[aaZ.1 v];exact Sl.nil _ _,λx v=>by rw[aaZ.1 v];exact aaH _⟩
 have e:=Bv (P.o.below u).1 2 1 Q cD (λx v=>by rw[aaZ.1 v];exact aaQ _) 0;simp only[adL,ae9,Fs,ZC,abM,ab5,abQ] at e;have e:=aP e;have a:aH (aD w w (k.alloc (aI #[.int .i64 1, .int .i64 20, .int .i64 20,bA,aU] 125))):=h.o.alloc h.o.size _;clear u Q P h;refine aR e ?_;rintro r H ⟨gl,sv,rfl,T,n⟩;have j:aH (aD w w H):=⟨n.os.trans a.o.os,n.tape.trans a.o.tape,n.output.trans a.o.output,aaR a.o.size n.size,λi hi=>(n.block i hi).trans (a.o.block i hi)⟩
 have I:=aP T;clear T n e a;go_wp2_with fail
 have U:=(cE.bX q m g 3 {pY p0 with s:=N9} (BU IW gl sv)).box I.o I.o.fl (aI #[.int .i64 2,aU, .int .i64 1] 126);have o8:=K _ _ _ _ _ _ _ _ _ U (Sl.new uW H (2,0,1) _ rfl _) (MJ (λb q=> .inr (by injection q with q;exact q.symm)) 1);simp only[abM,ab5,abQ] at o8;have o8:=aP o8;have c:aH (aD w w (H.alloc (aI #[.int .i64 2,aU, .int .i64 1] 126))):=j.o.alloc j.o.size _;clear U I j K;refine aR o8 ?_;rintro r X ⟨o,D,AS,k',Y,rfl,Z,J, -, -, -, -, -, -,p⟩;obtain⟨G,⟨k2,⟨kb,B,C, -⟩, -⟩,hj,hn⟩:=Z;have V:Rz kb.s:=Rz.before (by show Rz (lY N9 (lL (BU IW gl sv) [(2,0,1)]) 8);rw[GB];exact Sq gl sv) rfl B;obtain⟨E,z2⟩:=V.tick;rw[<-C] at E z2;rw[GB,E,Wj] at hj;rw[GB,E,Wf] at hn;obtain⟨⟨env,ch⟩,S,R,W,A,tk,nu,⟨TA,Tn,Tc⟩,st,x,y,z⟩:=o;simp only at E z2 hj hn;obtain⟨rfl,rfl⟩:=Prod.mk.inj hj;subst E z2 hn;have F:aH (aD w w X):=⟨p.os.trans c.o.os,p.tape.trans c.o.tape,p.output.trans c.o.output,aaR c.o.size p.size,λi hi=>(p.block i (.inl hi)).trans (c.o.block i hi)⟩
 clear p B C V J hj G o8 c;simp only[jK];go_wp2_with fail
 go_ret
 exact⟨rfl,F.o.alloc F.o.size _⟩
def Mj(a:Ac):aC:= .agg #[a.kd,a.env, .int .u8 a.n,a.bu,a.pe,(a.TA,a.ts.length,a.Tc), .int .u8 a.od,(a.CA,a.cs.length,a.Cc),(a.RA,a.rs.length,a.Rc),(a.WA,a.ws.length,a.Wc),(a.XA,a.xs.length,a.Xc),(a.QA,a.qs.length,a.Qc)]
section
variable{F:Nat->Prop}{w w':aA}{hb m g:Nat}{c:Int}{k:Kv}{rs:List Rm}
theorem Jm(h:cE F w hb m g c k rs)(e:gE k.s)(a:Ac)(hk:a.kd=1):aG prog 12 #[.pointer hb,Mj a] w (ES F hb m g c (lV k a.env a.bu a.pe) rs (.int .i64 (CO k a.env a.bu a.pe)) w):=by
 obtain⟨kd,env,n,bu,pe,TA,Tc,ts,od,CA,Cc,cs,RA,Rc,d,WA,Wc,ws,XA,Xc,xs,QA,Qc,qs⟩:=a;simp only at hk;subst hk;simp only[Mj];have f:=(cE.bX hb m g c k rs).box h h.fl (aI #[.int .i64 1,env, .int .u8 n,bu,pe,(TA,ts.length,Tc), .int .u8 od,(CA,cs.length,Cc),(RA,d.length,Rc),(WA,ws.length,Wc),(XA,xs.length,Xc),(QA,qs.length,Qc)] 44);have H1:aH (Kp F w (w.alloc (aI #[.int .i64 1,env, .int .u8 n,bu,pe,(TA,ts.length,Tc), .int .u8 od,(CA,cs.length,Cc),(RA,d.length,Rc),(WA,ws.length,Wc),(XA,xs.length,Xc),(QA,qs.length,Qc)] 44))):=(h.below (aX w _)).2;have i:=aP (RJ f e env bu pe);clear h f e;go_enter func12,ntmps12
 go_wp2_with fail
 refine aR i ?_;rintro r j ⟨rfl,l,p⟩;have q:aH (cE F j hb m g c (lV k env bu pe) rs/\Kp F w j):=⟨l.less λb hb=> .inl hb,H1.o.trans p.unbox⟩
 clear l p i H1;go_wp2_with fail
 go_ret
 exact⟨rfl,q.o⟩
theorem Jq(h:cE F w hb m g c k rs)(e:gE k.s)(a:Ac)(hk:a.kd=2):aG prog 12 #[.pointer hb,Mj a] w (ES F hb m g c (mN k a.env) rs (.int .i64 (EW k a.env)) w):=by
 obtain⟨kd,env,n,bu,pe,TA,Tc,ts,od,CA,Cc,cs,RA,Rc,d,WA,Wc,ws,XA,Xc,xs,QA,Qc,qs⟩:=a;simp only at hk;subst hk;simp only[Mj];have f:=(cE.bX hb m g c k rs).box h h.fl (aI #[.int .i64 2,env, .int .u8 n,bu,pe,(TA,ts.length,Tc), .int .u8 od,(CA,cs.length,Cc),(RA,d.length,Rc),(WA,ws.length,Wc),(XA,xs.length,Xc),(QA,qs.length,Qc)] 44);have H1:aH (Kp F w (w.alloc (aI #[.int .i64 2,env, .int .u8 n,bu,pe,(TA,ts.length,Tc), .int .u8 od,(CA,cs.length,Cc),(RA,d.length,Rc),(WA,ws.length,Wc),(XA,xs.length,Xc),(QA,qs.length,Qc)] 44))):=(h.below (aX w _)).2;have i:=aP (Km f e env);clear h f e;go_enter func12,ntmps12
 go_wp2_with fail
 refine aR i ?_;rintro r j ⟨rfl,l,p⟩;have q:aH (cE F j hb m g c (mN k env) rs/\Kp F w j):=⟨l.less λb hb=> .inl hb,H1.o.trans p.unbox⟩
 clear l p i H1;go_wp2_with fail
 go_ret
 exact⟨rfl,q.o⟩
end
variable{rs:List Rm}{qs:List (Int×Int×Int)}{AS:List Int}{tk nu:Int}{nT:Nat}
section
theorem Ht:NL (wR 4):=by
 have a:∀p∈(wR 4).P,p=⟨none,false⟩:=λp hp=>abI hp
 refine⟨TG,rfl,cD,λp hp v b=>?_,λd hd=>⟨λ_=>0, [],rfl,λx c=>(by cases c),λi p hp=>?_,cD⟩⟩
 .rw[a p hp] at b;cases b
 .rw[a p (aa1 hp)];unfold PH;simp
theorem TW:∀n,NL (qW n)
 |0=>Ht
 |n+1=>(TW n).gS _ _
theorem U8:∀n,(qW n).nw=0
 |0=>rfl
 |n+1=>(yL _ _ _).trans (U8 n)
def Zn:Gc:=⟨0,0,false,0, []⟩
theorem kH.start(p:Nat×Nat):kH (pY p).s (List.replicate 4 Zn):=⟨rfl,λi x b a=>by
 have:=aa1 b;rw[abI this] at a;cases a⟩
theorem BG(i:Nat):bT jT i=PS:=by
 rcases(show i=0\/i=1\/i=2\/i=3\/i=4\/i=5\/i=6\/i=7\/8<=i by omega) with rfl|rfl|rfl|rfl|rfl|rfl|rfl|rfl|h;iterate 8 rfl
 unfold bT;rw[aaU,abZ (by simp[jT];omega)];rfl
theorem I8(qs:List (Int×Int×Int)):lL jT qs=jT:=by
 unfold lL;induction qs with
 |nil=>rfl
 |cons a l b=>
  rw[ac7];have:vC jT a.1 a.2.1 a.2.2=jT:=by
   unfold vC;split
   .rw[BG];rfl
   .rfl
  rw[this];exact b
theorem RQ(s:Sd):∀n,lY s jT n=s
 |0=>rfl
 |n+1=>by
  unfold lY;rw[BG];exact RQ s n
theorem RC(e:Int):∀n,iA jT e n=jT
 |0=>rfl
 |n+1=>by
  unfold iA;rw[RC e n];unfold BO;rw[BG];rfl
theorem o8.plain{c:Int}{k:Kv}{xs:List Wd}(h:o8 c k jT ws xs qs rn D AS tk nu nT k' rs):qI k c ws xs rn D k'/\rs=jT:=by
 obtain⟨e,h1,b⟩:=h.t;rw[I8,RQ] at h1;rw[I8] at b;rcases b with⟨i,_,_,a,_⟩|⟨_,a,d⟩
 .rw[BG] at a;cases a
 .rw[RC] at d;subst a;exact⟨h1,d⟩
theorem kH.QS{k:Kv}(g:kH k.s l)(N:NL k.s)(e bu pe:Int):NL (lV k e bu pe).s/\(lV k e bu pe).s.nw=k.s.nw/\kH (lV k e bu pe).s (if CO k e bu pe=0/\(0<=e/\e<4) then l.set e.toNat ⟨bu,pe,true,0, []⟩ else l):=by
 unfold lV CO;by_cases he:0<=e/\e<4
 .rw[aaK he,aaK he];refine⟨N.kK _ _ _,U0 _ _ _ _,?_⟩;have h:=g.res N he bu pe;by_cases a:sP k.s e bu pe=0
  .rw[aaK a] at h;rw[aaK ⟨a,he⟩];exact h
  .rw[aaL a] at h;rw[aaL λh=>a h.1];exact h
 .rw[aaL he,aaL he,aaL λh=>he h.2];exact⟨N,rfl,g⟩
theorem kH.Q6{k:Kv}(g:kH k.s l)(N:NL k.s)(e bu pe:Int):NL (mN k e).s/\(mN k e).s.nw=k.s.nw/\kH (mN k e).s (if EW k e=0/\(0<=e/\e<4) then l.set e.toNat ⟨bu,pe,false,0, []⟩ else l):=by
 unfold mN EW;by_cases he:0<=e/\e<4
 .rw[aaK he,aaK he];refine⟨N.lU _,UL _ _,?_⟩;have h:=g.Wt N he bu pe;by_cases a:uB k.s e=0
  .rw[aaK a] at h;rw[aaK ⟨a,he⟩];exact h
  .rw[aaL a] at h;rw[aaL λh=>a h.1];exact h
 .rw[aaL he,aaL he,aaL λh=>he h.2];exact⟨N,rfl,g⟩
end
variable{F:Nat->Prop}{w:aA}{hb m g:Nat}
section
theorem gO.bX(q:Nat)(gs:List Gv):dV (λF w=>gO F w q gs):=λF G H w w' h x a fl hH=>⟨h.l,Ob.bX _ F G H w w' h.ob x a fl hH,h.n⟩
def Qd(q:Nat)(gs:List Gv):Pt:=⟨λF w=>gO F w q gs,gO.bX q gs⟩
structure jB(F:Nat->Prop)(w:aA)(hb m g:Nat)(c:Int)(k:Kv)(q:Nat)(gs:List Gv):Prop where
 ob:Ob [NQ hb m g c k jT,Qd q gs] F w
section
variable{F G:Nat->Prop}{w w':aA}{hb m g q:Nat}{c:Int}{k:Kv}{gs:List Gv}
theorem jB.fl(h:jB F w hb m g c k q gs):Ol F w:=h.ob.fl
theorem jB.less(h:jB F w hb m g c k q gs)(a:∀b,G b->F b):jB G w hb m g c k q gs:=⟨h.ob.PL a⟩
theorem jB.below(h:jB F w hb m g c k q gs)(b:aD w w w'):jB F w' hb m g c k q gs/\Kp F w w':=⟨⟨h.ob.below b⟩,h.ob.NH b⟩
theorem jB.grow(h:jB F w hb m g c k q gs)(hw:aD w w w'):jB (Nw F w w') w' hb m g c k q gs:=⟨dV.grow (Ob.bX _) h.ob h.ob.fl hw⟩
theorem jB.box(h:jB F w hb m g c k q gs)(x:Obj):jB (Fb F w) (w.alloc x) hb m g c k q gs:=⟨(Ob.bX _).box h.ob h.ob.fl x⟩
theorem jB.Yz(h:jB F w hb m g c k q gs):∃G,cE G w hb m g c k jT:=by
 obtain⟨G,a,_⟩:=h.ob.use 0 _ rfl;exact⟨G,a⟩
theorem jB.ho(h:jB F w hb m g c k q gs):∃G,(∀b,F b->G b)/\cE G w hb m g c k jT/\∀(k':Kv) (w':aA) (X:Nat->Prop),(∀b,X b->w.heap.size<=b)->cE (λb=>G b\/X b) w' hb m g c k' jT->Kp G w w'->jB (λb=>F b\/X b) w' hb m g c k' q gs/\Kp F w w':=by
 obtain⟨G,hs,d,back⟩:=h.ob.OZ 0 _ rfl;refine⟨G,hs,d,λk' w' X e a f=>?_⟩;obtain⟨b1,b2⟩:=back (NQ hb m g c k' jT) w' X e a (cE.fl a) f;exact⟨⟨b1⟩,b2⟩
theorem jB.gv(h:jB F w hb m g c k q gs):∃G,(∀b,F b->G b)/\gO G w q gs/\∀(a:List Gv) (w':aA),gO G w' q a->Kp G w w'->jB F w' hb m g c k q a/\Kp F w w':=by
 obtain⟨G,hs,e,back⟩:=h.ob.OZ 1 _ rfl;refine⟨G,hs,e,λa w' d f=>?_⟩;obtain⟨b1,b2⟩:=back (Qd q a) w' (λ_=>False) (λ_ h=>h.elim) (gO.less d λb hb=>hb.elim id False.elim) (λb hb=>hb.elim (gO.fl d b) False.elim) f;exact⟨⟨b1.PL λb hb=> .inl hb⟩,b2⟩
end
def BM:List Gv:=List.replicate 4 Zl
theorem jB.start{c:Int}{k:Kv}(h:cE F w hb m g c k jT):jB F (w.alloc (aI (BM.flatMap oU).toArray 115)) hb m g c k w BM/\Kp F w (w.alloc (aI (BM.flatMap oU).toArray 115)):=by
 have a:=aX w (aI (BM.flatMap oU).toArray 115);have e:gO (λb=>b<w.heap.size) (w.alloc (aI (BM.flatMap oU).toArray 115)) w BM:=by
  refine⟨rfl,?_,λx d=>by rw[abI d];rfl⟩;have ol:Ol (λb=>b<w.heap.size) (w.alloc (aI (BM.flatMap oU).toArray 115)):=λb hb=>aaJ hb a.size
  have h1:=Ob.single (p:=PB w.heap.size 115 (BM.flatMap oU).toArray) (PB.mk (bC.new w _ _) ol (acA _)) ol;exact Ob.XM (BM.map BX) _ h1 (λp hp G f=>by
   obtain⟨x,d,rfl⟩:=ac1.1 hp;rw[abI d];exact fT.nil f)
 have i:=(Ob.single (p:=NQ hb m g c k jT) h h.fl).add (p:=Qd w BM) e a;exact⟨⟨i⟩,(h.below a).2⟩
end
variable{n0 cR cX cQ:Nat}{AR AW AX AQ:Option Addr}{ls:List Int}
section
variable{F:Nat->Prop}{w w0 w':aA}{hb m g:Nat}{c:Int}{k:Kv}{rs:List Rm}
theorem J1(h:cE F w hb m g c k rs){M nl:Nat}(hI:KI k n0)(hM:n0+M+40<999999/\M<=50000)(hc:1<=c/\c<=64)(hnw:k.s.nw<1048576){cW:Nat}{xs:List Wd}(J:xQ F w AR ls AW ws AX xs)(hq:Sl kR 3 w AQ qs)(hqF:∀b,jU AQ qs.length=some b->F b)
 (hlr:ls.length<=1000/\ws.length<=1000/\xs.length<=1000) (hxM:∀z∈xs,z.xs.length<=M) (hnr:∀i,i<4->(bT (lL rs qs) i).ru=false) (hL:xP rs nl k.s.nw) (hn:nl+qs.length<=2700):
 aG prog 16 #[.pointer hb, .agg #[(AR,ls.length,cR),(AW,ws.length,cW),(AX,xs.length,cX),(AQ,qs.length,cQ)]] w (Mh F hb m g c k rs n0 M ws xs qs w):=by
 have hb1:=aX w (aI #[(AR,ls.length,cR),(AW,ws.length,cW),(AX,xs.length,cX),(AQ,qs.length,cQ)] 87);have hb2:=hb1.alloc hb1.size (aI (jK (sZ 0)).toArray 79);have hz2:((w.alloc (aI #[(AR,ls.length,cR),(AW,ws.length,cW),(AX,xs.length,cX),(AQ,qs.length,cQ)] 87)).alloc (aI (jK (sZ 0)).toArray 79)).heap.size=w.heap.size+1+1:=aT;have ib:=(bC.new w 87 #[(AR,ls.length,cR),(AW,ws.length,cW),(AX,xs.length,cX),(AQ,qs.length,cQ)]).keep (aX _ (aI (jK (sZ 0)).toArray 79));have rb:=bC.gK (w.alloc (aI #[(AR,ls.length,cR),(AW,ws.length,cW),(AX,xs.length,cX),(AQ,qs.length,cQ)] 87)) 79 (jK (sZ 0)).toArray (g:=w.heap.size+1) aT;have HIn:=cZ J hq hqF;have HFl:=aP h.fl;have HKI:=cZ hI hM.1 hxM;have HLb:=bH hL hn;have HB2:=aP hb2;have K:aH (cE (Gk F w) ((w.alloc (aI #[(AR,ls.length,cR),(AW,ws.length,cW),(AX,xs.length,cX),(AQ,qs.length,cQ)] 87)).alloc (aI (jK (sZ 0)).toArray 79)) hb m g c k rs/\Kp F w ((w.alloc (aI #[(AR,ls.length,cR),(AW,ws.length,cW),(AX,xs.length,cX),(AQ,qs.length,cQ)] 87)).alloc (aI (jK (sZ 0)).toArray 79))):=by
  refine⟨(dV.grow (cE.bX hb m g c k rs) h h.fl hb2).less λb hb=>?_,(h.below hb2).2⟩;rcases hb with hb|hb|hb
  .exact .inl hb
  .exact .inr ⟨aQ,aQ⟩
  .exact .inr ⟨aQ,aQ⟩
 have H8:=aP h.l8;have HNW:=aP hnw;have HNR0:=aP hnr;clear hnr;have HMM:=aP hM.2;have HZ:aH (∀b,(F b\/b=w.heap.size\/b=w.heap.size+1)->b<w.heap.size+1+1):=λb hb=>by
  rcases hb with hb|rfl|rfl
  .have:=h.fl b hb;omega
  .omega
  .omega
 have HN1:aH (¬F w.heap.size/\¬F (w.heap.size+1)):=⟨λhb=>by have:=h.fl _ hb;omega,λhb=>by have:=h.fl _ hb;omega⟩
 have hin0:=ib.cell 3 (.slice AQ qs.length cQ) rfl;have HX2:=bH ib rb;simp only[jK,sZ,nU] at K hb2 hz2 HB2 HX2 hin0;obtain⟨l1,l2,l3⟩:=hlr;obtain⟨c1,c2⟩:=hc;clear h hb1 hb2 ib rb J hq hqF hI hM hL hn hxM;go_enter func16,ntmps16
 go_upto_region 1 with(fail)
 generalize ((w.alloc (aI #[(AR,ls.length,cR),(AW,ws.length,cW),(AX,xs.length,cX),(AQ,qs.length,cQ)] 87)).alloc (aI #[aU,false,bA,bA,bA,bA,aU,aU,bA,aU,aU,aU,cO] 79))=w2 at *;have c0:=K.o.1.c0;unfold pA at c0;obtain⟨G0,gs,hs,d0,d6,_⟩:=K.o.1.sd;have HNw:=aP (wK hs);clear hs;go_wp2_with(go_at_call 11;(refine aS (rI d0) ?_);rintro x w3 ⟨rfl,rfl⟩)
 refine aR HNw ?_;rintro x w3 ⟨rfl,rfl⟩;clear HNw;have HT:=aP (dZ.start K.o.1 (-1));simp only[jK,sZ,nU] at HT;go_upto_region 7 with(fail)
 generalize w2.alloc (aI #[aU,false,bA,bA,bA,bA, .int .i64 (-1),aU,bA,aU,aU,aU,cO] 79)=w3 at *;have H3:aH (dZ (Gk F w) w3 hb m g c k rs w2 (sZ (-1)) [] []/\Kp (Gk F w) w2 w3):=HT.o;rw[hz2] at H3;have HK2:aH (Kp F w w2):=K.o.2;have hlw:w2.heap.size<=w3.heap.size:=H3.o.2.size;rw[hz2] at hlw;clear HT K hin0 c0 d0 d6 hz2 hnw HB2;generalize hq1:w.heap.size=q1 at *;have HQ1:=aP hq1;clear hq1;have HX3:aH (bC w3 q1 87 #[(AR,ls.length,cR),(AW,ws.length,cW),(AX,xs.length,cX),(AQ,qs.length,cQ)]/\bC w3 (q1+1) 79 #[aU,false,bA,bA,bA,bA,aU,aU,bA,aU,aU,aU,cO]):=⟨H3.o.2.aZ HX2.o.1 (.inr (.inl rfl)),H3.o.2.aZ HX2.o.2 (.inr (.inr rfl))⟩
 have HK3:aH (Kp F w w3):=HK2.o.trans (H3.o.2.mono λb hb=> .inl hb);have HIn3:aH (xQ F w3 AR ls AW ws AX xs/\Sl kR 3 w3 AQ qs/\∀b,jU AQ qs.length=some b->F b):=⟨HIn.o.1.kp HK3.o,HIn.o.2.1.xC HK3.o HIn.o.2.2,HIn.o.2.2⟩
 have HKF:aH (∀W W',Kp (Gk F q1) W W'->Kp F W W'):=λW W' h=>h.mono λb hb=> .inl hb
 have i3:=HX3.o.1.cell 3 (.slice AQ qs.length cQ) rfl;clear HX2 HIn HK2;go_wp2_with fail
 go_loopw [48] (λv48 wr=>∃i:Nat,v48= .int .i64 i/\i<=qs.length/\aH (∃A cA,dZ (Gk F q1) wr hb m g c k (lL rs (qs.take i)) (q1+1+1) ((sZ (-1)).sA ⟨A,i,cA⟩) (tU rs (qs.take i)) []/\Kp (Gk F q1) w3 wr/\∀b,aZ A=some b->q1<=b)) (λv48 _=>qs.length - (aL v48).toNat)
 case atStart=>exact⟨0,rfl,aaQ _,none,0,H3.o.1,Kp.refl _ _,λb h=>by cases h⟩
 case round=>
  clear H3 i3;obtain⟨i,rfl,hi,HR⟩:=hrel;obtain⟨A,cA,hR,hkR,hnR⟩:=HR.o;have HR:=cZ hR hkR hnR;by_cases J:i<qs.length
  .obtain⟨b,off,rfl,hc0,hc1,hc2⟩:=(HIn3.o.2.1.xC (HKF.o _ _ hkR) HIn3.o.2.2).GU J;have j0:(0:Int)<=i:=aQ;have j1:(i:Int)<(qs.length:Int):=aQ;have HT:aH (qs.take (i+1)=qs.take i++ [qs[i]]):=(abS J).symm;generalize qs[i]=x at *;obtain⟨xe,xo,xg⟩:=x;simp only at hc0 hc1 hc2;have c5:=hR.bk.cell 5 (.slice A i cA) rfl;clear hR hkR hnR;go_upto_region 10 with(fail)
   have c6:(wr.alloc (aI #[xe,xo,xg] 126)).cell? (q1+1+1,5)=some (.slice A i cA):=bD (aX wr _) c5;have Q:=aP (bC.new wr 126 #[xe,xo,xg]);have y0:=Q.o.cell 0 xe rfl;have y1:=Q.o.cell 1 xo rfl;have y2:=Q.o.cell 2 xg rfl;have HBx:aH (aD wr wr (wr.alloc (aI #[xe,xo,xg] 126))):=aX wr _;have HLi:aH (∀x,(bT (lL rs (qs.take i)) xe.toNat).l=some x->∃n,n<=2900/\lN x n):=λx hx=>by
    have:=HLb.o.1.asks (qs.take i) H8.o _ x hx;exact⟨_,by rw[aa9];have:=HLb.o.2;omega,this.1⟩
   clear hc0 hc1 hc2 c5 Q;generalize (wr.alloc (aI #[xe,xo,xg] 126))=U at *;have HRs:aH (∀W,aD U U W->aG prog 42 #[.pointer hb, .agg #[xe,xo,xg]] W λr w'=>∃v:Int,r= .returned (.int .i64 v)/\aH (v=JA (lL rs (qs.take i)) xe xo xg/\dZ (Gk F q1) w' hb m g c k (lL rs (qs.take (i+1))) (q1+1+1) ((sZ (-1)).sA ⟨A,i,cA⟩) (tU rs (qs.take i)) []/\Kp (Gk F q1) w3 w')/\w'.cell? (q1+1+1,5)=some (.slice A i cA)/\∀o,(w'.alloc o).cell? (q1+1+1,5)=some (.slice A i cA)):=λW hW=>by
    have hbb:=HR.o.1.below (HBx.o.trans (hW.mono HBx.o.size));obtain⟨G,Y,back⟩:=hbb.1.ho;refine(Js Y xe xo xg HLi.o).mono ?_;rintro r w' ⟨rfl,h2,C⟩;obtain⟨b1,b2⟩:=back _ _ w' h2 C;have this:=b1.bk.cell 5 (.slice A i cA) rfl;rw[HT.o,Bt];exact⟨_,rfl,⟨rfl,b1,HR.o.2.1.trans (hbb.2.trans b2)⟩,this,λo=>bD (aX w' o) this⟩
   have HDl:aH ((tU rs (qs.take i)).length=i):=(RB _ _).trans (by rw[aa9];omega);have hil:i<=1000000:=by have:=HLb.o.2;omega
   clear HLi HBx;go_region_law (first|(refine lO _ rfl (.tmp 53) (.tmp 57) rfl Ia fX (base:=0) (xs:=tU rs (qs.take i)) (HR6.o.2.1.FC.alloc _) (n:=i) HDl.o rfl (m:=1) rfl (ys:= [v]) rfl (Sl.gK fX w6 v _ rfl _ aT) dT aQ (aaQ _) _ rfl (i+1) rfl ?_;intro A9 c9 w9 own9 hg9 at9;(obtain⟨b9,f9,HO9,HK9⟩:=(HR6.o.2.1.below (aX w6 (aI #[v] 45))).1.Gu own9 hg9 at9 (n:=i+1) (by rw[aaT,HDl.o];rfl));obtain⟨b9v,b9⟩:=b9)|(go_simp;(refine aS (HRs.o _ (Below.refl _ _).drew) ?_);rintro r w6 ⟨v,rfl,HR6,c36,c37⟩))
   all_goals (
    have HO:aH (dZ (Gk F q1) (w9.setCell (q1+1+1,5) (.slice A9 (i+1) c9)) hb m g c k (lL rs (qs.take (i+1))) (q1+1+1) ((sZ (-1)).sA ⟨A9,i+1,c9⟩) (tU rs (qs.take (i+1))) []/\Kp (Gk F q1) w3 (w9.setCell (q1+1+1,5) (.slice A9 (i+1) c9))/\∀b,aZ A9=some b->q1<=b):=by
     refine⟨?_,HR6.o.2.2.trans ((HR6.o.2.1.below (aX w6 _)).2.trans HK9),λb hb=>?_⟩
     .have e:tU rs (qs.take (i+1))=tU rs (qs.take i)++ [v]:=by rw[HT.o,OT,HR6.o.1]
      rw[e];exact HO9
     .rcases at9 with e|e
      .exact HR.o.2.2 b (e.symm.trans hb)
      .rw[e] at hb;injection hb with hb;have:=HR6.o.2.2.size;simp at hb;omega
    clear HO9 HK9 b9 f9 hg9 at9 own9 HR6 HRs c36 c37 c6 y0 y1 y2;generalize (w9.setCell (q1+1+1,5) (.slice A9 (i+1) c9))=w10 at *;clear w9;go_wp2_with fail
    exact⟨⟨i+1,rfl,aQ,A9,c9,HO.o⟩,by simp only[aL];omega⟩)
  .have j1:¬(i:Int)<(qs.length:Int):=aQ;have hT:qs.take i=qs:=aa7 aQ;rw[hT] at hR HR;obtain rfl:i=qs.length:=aQ;obtain⟨f,hrs1⟩:∃r,r=lL rs qs:=⟨_,rfl⟩
   have HRS:=aP hrs1;have HNR:aH (∀i,i<4->(bT f i).ru=false):=by rw[hrs1];exact HNR0.o
   have HL1:aH (xP f (nl+qs.length) k.s.nw/\f.length=8):=by rw[hrs1];exact⟨HLb.o.1.asks qs H8.o,(Fx _ _).trans H8.o⟩
   obtain⟨DA,hDA⟩:∃r,r=tU rs qs:=⟨_,rfl⟩
   have HDA:=aP hDA;rw[<-hrs1,<-hDA] at HR;have HLb2:aH (nl+qs.length<=2700):=HLb.o.2;clear hR hT hrs1 hDA J hi HLb;go_wp2_with fail
   go_loopw [61] (λv61 wr2=>∃j:Nat,v61= .int .i64 j/\j<=8/\aH (dZ (Gk F q1) wr2 hb m g c {k with s:=lY k.s f j} f (q1+1+1) ((sZ (-1)).sA ⟨A,qs.length,cA⟩) DA []/\Kp (Gk F q1) w3 wr2)) (λv61 _=>8 - (aL v61).toNat)
   case atStart=>exact⟨0,rfl,aQ,HR.o.1,HR.o.2.1⟩
   case round=>
    obtain⟨j,rfl,hj,K⟩:=hrel;by_cases Z:j<8
    .obtain⟨G,Y,_⟩:=K.o.1.ho;have r0:=Y.TK (n:=j) Z;have jj0:(0:Int)<=j:=aQ;have jj1:(j:Int)<8:=aQ;cases hl:(bT f j).l with
     |none=>
      have HE:aH (lY k.s f (j+1)=lY k.s f j):=by unfold aH;show(match(bT f j).l with|none=>_|some x=>_)=_;rw[hl]
      rw[hl] at r0;simp only[EL,acU] at r0;clear Y;go_wp2_with fail
      exact⟨⟨j+1,rfl,aQ,by rw[HE.o];exact K.o⟩,by simp only[aL];omega⟩
     |some x=>
      have HE:aH (lY k.s f (j+1)=gS (lY k.s f j) j (nF x).isSome):=by unfold aH;show(match(bT f j).l with|none=>_|some x=>_)=_;rw[hl]
      have HLx:=HL1.o.1 j x hl;rw[hl] at r0;simp only[EL,abL] at r0;obtain⟨_,gs2,_,_,d6,_⟩:=Y.sd;have HRd:aH (∀W,aD wr wr W->aG prog 44 #[.pointer (some ⟨(bT f j).g,0,none⟩)] W λr w'=>r= .returned (.bool (nF x).isSome)/\aD W.heap.size W w'):=λW hW=>by
       obtain⟨G3,y3,hlb,_⟩:=(Y.below hW).1.Lo Z hl;exact XK hlb HLx.1.SG (by have:=HLb2.o;omega)
      have HSR:aH (∀W,aD wr wr W->aG prog 43 #[.pointer gs2,j, .bool (nF x).isSome] W λr w'=>∃v:Int,r= .returned (.int .i64 v)/\aH (dZ (Gk F q1) w' hb m g c {k with s:=lY k.s f (j+1)} f (q1+1+1) ((sZ (-1)).sA ⟨A,qs.length,cA⟩) DA []/\Kp (Gk F q1) w3 w')/\w'.cell? (g,6)=some (.pointer gs2)):=λW hW=>by
       have hbb:=K.o.1.below hW;obtain⟨G3,h3,back3⟩:=hbb.1.ho;obtain⟨G4,gs4,hs4,_,e6,back4⟩:=h3.sd;have e:=(bD hW d6).symm.trans e6;injection e with e;injection e with e;injection e with e;injection e with e;subst e;refine(F7 hs4 (by have:=(MF HKI.o.1.sd HKI.o.1.p4 f j).2.1;show(lY k.s f j).P.length<=8;omega) j _).mono ?_;rintro r w' ⟨rfl,hs5,k5⟩;obtain⟨⟨b1,b2⟩,_,b6⟩:=back4 _ w' hs5 k5;obtain⟨u1,u2⟩:=back3 _ _ w' b1 b2;exact⟨_,rfl,⟨by rw[HE.o];exact u1,K.o.2.trans (hbb.2.trans u2)⟩,b6⟩
      clear Y hl HLx HE;generalize (bT f j).g=gl at *;generalize (nF x).isSome=bv at *;go_upto_region 17 with(fail)
      clear r0;go_region_held3 (λW=>W.cell? (g,6)=some (.pointer gs2)) (first|exact d6|assumption) ((first|(go_at_call 44;(refine aS (HRd.o _ (Below.refl _ _).drew) ?_);rintro r w4 ⟨rfl,hb4⟩;(have B4:aD wr wr w4:=(Below.refl wr wr).drew.trans hb4);(have d64:w4.cell? (g,6)=some (.pointer gs2):=bD hb4 d6))|(go_at_call 43;(refine aS (HSR.o _ B4) ?_);rintro r w5 ⟨v,rfl,H5,d65⟩)))
      go_wp2_with fail
      exact⟨⟨j+1,rfl,aQ,H5.o⟩,by simp only[aL];omega⟩
    .obtain rfl:j=8:=aQ;have E:aH (dZ (Gk F q1) wr hb m g c {k with s:=lY k.s f 8} f (q1+1+1) ((sZ (-1)).sA ⟨A,qs.length,cA⟩) DA []/\Kp (Gk F q1) w3 wr/\∀b,aZ A=some b->q1<=b):=⟨K.o.1,K.o.2,HR.o.2.2⟩
     clear HR K;go_wp2_with fail
     have HKN:aH (KI {k with s:=lY k.s f 8} n0/\({k with s:=lY k.s f 8}:Kv).s.nw<1048576):=by
      obtain⟨z1,z2,z3⟩:=MF HKI.o.1.sd HKI.o.1.p4 f 8;exact⟨HKI.o.1.LH z1 z2,by show(lY k.s f 8).nw<_;rw[z3];exact HNW.o⟩
     obtain⟨kN,hkN⟩:∃r,r=({k with s:=lY k.s f 8}:Kv):=⟨_,rfl⟩
     have HkN:=aP hkN;rw[<-hkN] at E HKN;clear hkN;obtain⟨o1,ho1⟩:∃r,r=(sZ (-1)).sA ⟨A,qs.length,cA⟩:=⟨_,rfl⟩
     have HO1:=aP ho1;rw[<-ho1] at E;clear ho1;have p:=E.o.2.1.aZ HX3.o.1 (.inr (.inl rfl));have p0:=p.cell 0 (.slice AR ls.length cR) rfl;have p1:=p.cell 1 (.slice AW ws.length cW) rfl;have p2:=p.cell 2 (.slice AX xs.length cX) rfl;obtain⟨G,Y,_⟩:=E.o.1.ho;have e0:=Y.c0;unfold pA at e0;have HFL:aH (Ol (Gk F q1) wr):=E.o.1.ob.fl;have hgA:hb≠wr.heap.size:=by have:=Y.bk.lt;omega
     have hqA:q1≠wr.heap.size:=by have:=p.lt;omega
     have hqs:q1+1+1<=wr.heap.size:=aaR hlw E.o.2.1.size;have HTc:aH (∀W,aD wr wr W->aG prog 45 #[.pointer m, .agg #[(AR,ls.length,cR),(AW,ws.length,cW),(AX,xs.length,cX)]] W λr w'=>∃(rn:Rn) (S t u:uL) (D:List (Int×Int)) (C:Kv),r= .returned (.tuple #[.agg #[rn.env,rn.ch,(S.A,S.n,S.c),(t.A,t.n,t.c),(u.A,u.n,u.c)],aU])/\aH (S.n=D.length/\qI kN c ws xs rn D C/\KI C (n0+M))/\aH (bB sU 2 w' W.heap.size 227 S.A S.c D/\dZ (cB (Nw (Gk F q1) wr.heap.size W) S.A) w' hb m g c C f (q1+1+1) o1 DA []/\Kp (Nw (Gk F q1) wr.heap.size W) W w')/\w'.cell? (hb,0)=some (.pointer m)/\w'.cell? (q1,0)=some (.slice AR ls.length cR)/\w'.cell? (q1,1)=some (.slice AW ws.length cW)/\w'.cell? (q1,2)=some (.slice AX xs.length cX)):=λW hW=>by
      have hg:=E.o.1.grow hW;obtain⟨G3,sG,h3,back3⟩:=hg.st;have NH:Kp F w3 W:=HKF.o _ _ (E.o.2.1.trans (E.o.1.below hW).2);have hi:=(HIn3.o.1.kp NH).up (λb hb=>sG b (.inl (.inl hb)));refine(Og h3 HKN.o.1 (by have:=HKI.o.2.1;omega) HKN.o.2 hi ⟨l1,l2,l3⟩ HKI.o.2.2).mono ?_;rintro r w' ⟨rn,SA,A2,A3,nA,cA2,n2,c2',n3,c3,D,C,rfl,hnA,ht,hki,own,hst,kp⟩;obtain⟨b1,b2⟩:=back3 C SA w' (λb hb=>(own.lt b hb).1) hst kp;obtain⟨G4,h4,_⟩:=b1.ho;have hc0:=h4.c0;have hF1:Nw (Gk F q1) wr.heap.size W q1:= .inl (.inr (.inl rfl));exact⟨rn,⟨SA,nA,cA2⟩,⟨A2,n2,c2'⟩,⟨A3,n3,c3⟩,D,C,rfl,⟨hnA,ht,hki⟩,⟨own,b1,b2⟩,hc0,b2.cell (bD hW p0) hF1,b2.cell (bD hW p1) hF1,b2.cell (bD hW p2) hF1⟩
     have hqs':q1<=wr.heap.size:=aQ;have HBA:aH (∀o,aD wr wr (wr.alloc o).drew):=λo=>(aX wr o).drew
     clear Y p;go_cut [12,13] (λs12 s13 U=>∃(a6:Nat) (rn:Rn) (S t u:uL) (D:List (Int×Int)) (C:Kv),s12= .pointer a6/\s13= .int .i64 0/\aH (S.n=D.length/\qI kN c ws xs rn D C/\KI C (n0+M))/\aH (bC U a6 73 #[rn.env,rn.ch,(S.A,S.n,S.c),(t.A,t.n,t.c),(u.A,u.n,u.c)])/\aH (bB sU 2 U q1 227 S.A S.c D/\dZ (Fb (cB (Gk F q1) S.A) a6) U hb m g c C f (q1+1+1) o1 DA []/\Kp (Gk F q1) wr U/\wr.heap.size<=a6))
     case first=>
      go_region_held3 (λW=>W.cell? (hb,0)=some (.pointer m)/\W.cell? (q1,0)=some (.slice AR ls.length cR)/\W.cell? (q1,1)=some (.slice AW ws.length cW)/\W.cell? (q1,2)=some (.slice AX xs.length cX)) (first|with_reducible exact⟨‹_›,‹_›,‹_›,‹_›⟩|exact⟨by simp only[gN hgA,gN hgB];with_reducible assumption,by simp only[gN hqA,gN hqB];with_reducible assumption,by simp only[gN hqA,gN hqB];with_reducible assumption,by simp only[gN hqA,gN hqB];with_reducible assumption⟩|exact⟨bD (aX wr _).drew e0,bD (aX wr _).drew p0,bD (aX wr _).drew p1,bD (aX wr _).drew p2⟩|exact⟨bD (aX _ _) e0,bD (aX _ _) p0,bD (aX _ _) p1,bD (aX _ _) p2⟩|exact⟨bD (aX _ _) ‹_›,bD (aX _ _) ‹_›,bD (aX _ _) ‹_›,bD (aX _ _) ‹_›⟩|exact⟨e0,p0,p1,p2⟩|fail) ((go_at_call 45;first|((refine aS (HTc.o _ (Below.refl _ _).drew) ?_);rintro r w6 ⟨rn,S,t,u,D,C,rfl,a1,I,g0,z0,z1,z2⟩;(have hgB:hb≠w6.heap.size:=by have:=World.block_lt_of_cell? w6 _ g0;simp only at this;omega);(have hqB:q1≠w6.heap.size:=by have:=World.block_lt_of_cell? w6 _ z0;simp only at this;omega))|((refine aS (HTc.o _ (HBA.o _)) ?_);rintro r w6 ⟨rn,S,t,u,D,C,rfl,a1,I,g0,z0,z1,z2⟩;(have zb:bC w6 wr.heap.size 73 #[aU,false,bA,bA,bA]:=I.o.2.2.aZ (bC.new wr 73 #[aU,false,bA,bA,bA]) (.inr ⟨aaH _,(show wr.heap.size<(wr.alloc (aI #[aU,false,bA,bA,bA] 73)).heap.size by simp)⟩));(have ZB:=aP zb);(have y0:=zb.cell 0 _ rfl);(have y1:=zb.cell 1 _ rfl);(have y2:=zb.cell 2 _ rfl);(have y3:=zb.cell 3 _ rfl);(have y4:=zb.cell 4 _ rfl);(have f0:=zb.frozen 0);(have f1:=zb.frozen 1);(have f2:=zb.frozen 2);(have f3:=zb.frozen 3);(have f4:=zb.frozen 4);(have hgB:=hgA);(have hqB:=hqA);clear zb)|fail))
      all_goals
       go_wp2_with fail
       go_meet
       first
        |(have:=ZB;exact⟨_,rn,S,t,u,D,C,rfl,rfl,a1,((((ZB.o.bQ 0 _).bQ 1 _).bQ 2 _).bQ 3 _).bQ 4 _,Uy I.o.1 (aY (aY (aY (aY (aY (bE _ _) 0 _) 1 _) 2 _) 3 _) 4 _) hqs',(Sf HFL.o I.o.2.1 I.o.2.2 (aY (aY (aY (aY (aY (bE _ _) 0 _) 1 _) 2 _) 3 _) 4 _)).1,(Sf HFL.o I.o.2.1 I.o.2.2 (aY (aY (aY (aY (aY (bE _ _) 0 _) 1 _) 2 _) 3 _) 4 _)).2,aaH _⟩)
        |exact⟨_,rn,S,t,u,D,C,rfl,rfl,a1,bC.new w6 _ _,((I.o.1.from_ hqs').alloc _),(Sx I.o.2.1 I.o.2.2 _).1,(Sx I.o.2.1 I.o.2.2 _).2,I.o.2.2.size⟩
     case rest=>
     obtain⟨a6,rn,S,t,u,D,C,rfl,rfl,a1,L,HX⟩:=hcut;clear e0 p0 p1 p2 hgA hqA HTc HBA;have y:=HX.o.2.1;have x0:=L.o.cell 0 rn.env rfl;have x1:=L.o.cell 1 (.bool rn.ch) rfl;have x2:=L.o.cell 2 (.slice S.A S.n S.c) rfl;have x3:=L.o.cell 3 (.slice t.A t.n t.c) rfl;have x4:=L.o.cell 4 (.slice u.A u.n u.c) rfl;have y0:=y.bk.cell 0 o1.rn.env rfl;have y1:=y.bk.cell 1 (.bool o1.rn.ch) rfl;have y2:=y.bk.cell 2 (.slice o1.S.A o1.S.n o1.S.c) rfl;have y3:=y.bk.cell 3 (.slice o1.R.A o1.R.n o1.R.c) rfl;have y4:=y.bk.cell 4 (.slice o1.W.A o1.W.n o1.W.c) rfl;have f0:=y.bk.frozen 0;have f1:=y.bk.frozen 1;have f2:=y.bk.frozen 2;have f3:=y.bk.frozen 3;have f4:=y.bk.frozen 4;clear y;go_upto_region 23 with(fail)
     have hgg:wc.grownBy (((((wc.setCell (q1+1+1,0) rn.env).setCell (q1+1+1,1) (.bool rn.ch)).setCell (q1+1+1,2) (.slice S.A S.n S.c)).setCell (q1+1+1,3) (.slice t.A t.n t.c)).setCell (q1+1+1,4) (.slice u.A u.n u.c)) (some (q1+1+1)):=aY (aY (aY (aY (aY (bE _ _) 0 _) 1 _) 2 _) 3 _) 4 _;have H7:=aP (HX.o.2.1.put (o1.sS rn S t u) rfl rfl (((((HX.o.2.1.bk.bQ 0 rn.env).bQ 1 (.bool rn.ch)).bQ 2 (.slice S.A S.n S.c)).bQ 3 (.slice t.A t.n t.c)).bQ 4 (.slice u.A u.n u.c)) hgg);have HS7:aH (bB sU 2 (((((wc.setCell (q1+1+1,0) rn.env).setCell (q1+1+1,1) (.bool rn.ch)).setCell (q1+1+1,2) (.slice S.A S.n S.c)).setCell (q1+1+1,3) (.slice t.A t.n t.c)).setCell (q1+1+1,4) (.slice u.A u.n u.c)) q1 227 S.A S.c D):=HX.o.1.kp H7.o.2 (λb hb=> .inl (.inr hb));have HB7:aH (bC (((((wc.setCell (q1+1+1,0) rn.env).setCell (q1+1+1,1) (.bool rn.ch)).setCell (q1+1+1,2) (.slice S.A S.n S.c)).setCell (q1+1+1,3) (.slice t.A t.n t.c)).setCell (q1+1+1,4) (.slice u.A u.n u.c)) a6 73 #[rn.env,rn.ch,(S.A,S.n,S.c),(t.A,t.n,t.c),(u.A,u.n,u.c)]):=H7.o.2.aZ L.o (.inr rfl);obtain⟨O,hF5⟩:∃X,X=Fb (cB (Gk F q1) S.A) a6:=⟨_,rfl⟩
     have N:aH ((∀b,Gk F q1 b->O b)/\(∀b,aZ S.A=some b->O b)/\O a6):=by rw[hF5];exact⟨λb hb=> .inl (.inl hb),λb hb=> .inl (.inr hb), .inr rfl⟩
     rw[<-hF5] at H7;have HK7:aH (Kp (Gk F q1) w3 (((((wc.setCell (q1+1+1,0) rn.env).setCell (q1+1+1,1) (.bool rn.ch)).setCell (q1+1+1,2) (.slice S.A S.n S.c)).setCell (q1+1+1,3) (.slice t.A t.n t.c)).setCell (q1+1+1,4) (.slice u.A u.n u.c))/\q1+1+1<a6):=⟨(E.o.2.1.trans HX.o.2.2.1).trans (H7.o.2.mono N.o.1),by have:=HX.o.2.2.2;have:=E.o.1.bk.lt;omega⟩
     have HNA:aH (∀b,aZ A=some b->q1<=b):=E.o.2.2;clear HX L hF5 x0 x1 x2 x3 x4 y0 y1 y2 y3 y4 f0 f1 f2 f3 f4 hgg E HFL;generalize ((((wc.setCell (q1+1+1,0) rn.env).setCell (q1+1+1,1) (.bool rn.ch)).setCell (q1+1+1,2) (.slice S.A S.n S.c)).setCell (q1+1+1,3) (.slice t.A t.n t.c)).setCell (q1+1+1,4) (.slice u.A u.n u.c)=w7 at *;have HLT:aH (nl+qs.length<=2700/\k.s.nw<1048576):=⟨HLb2.o,HNW.o⟩
     go_wp2_with fail
     go_loopw [98] (λv98 wr=>∃j:Nat,v98= .int .i64 j/\j<=8/\aH (∃T cT,dZ O wr hb m g c C (iA f rn.env j) (q1+1+1) (((o1.sS rn S t u).sJ (mK f rn.env j).1 (mK f rn.env j).2).sT ⟨T,(kV f rn.env j).length,cT⟩) DA (kV f rn.env j)/\Kp O w7 wr/\(kV f rn.env j).length<=4000000000 *j)) (λv98 _=>8 - (aL v98).toNat)
     case atStart=>exact⟨0,rfl,aQ,none,0,by have e:=HO1.o;subst e;exact H7.o.1,Kp.refl _ _,by simp[kV]⟩
     case round=>
      clear H7;obtain⟨j,rfl,hj,K⟩:=hrel;obtain⟨T,cT,h2,k27,hTl⟩:=K.o;have HTl:=aP hTl;have K:=bH h2 k27;by_cases Z:j<8
      .obtain⟨G,Y,_⟩:=h2.ho;have r0:=Y.TK (n:=j) Z;have jj0:(0:Int)<=j:=aQ;have jj1:(j:Int)<8:=aQ;have hle:(bT (iA f rn.env j) j).l=(bT f j).l:=by rw[(LV (rs:=f) (e:=rn.env) j j (by rw[HL1.o.2];omega)).1,aaL aQ]
       rw[hle] at r0;cases hl:(bT f j).l with
       |none=>
        have HE:aH (iA f rn.env (j+1)=iA f rn.env j/\kV f rn.env (j+1)=kV f rn.env j/\mK f rn.env (j+1)=mK f rn.env j):=by
         rw[hl] at hle;refine⟨?_,?_,?_⟩
         .show BO (iA f rn.env j) rn.env j=_;unfold BO;rw[hle]
         .show kV f rn.env j++ZV (iA f rn.env j) rn.env j=_;unfold ZV;rw[hle];simp
         .show Af (iA f rn.env j) rn.env j (mK f rn.env j)=_;unfold Af;rw[hle]
        rw[hl] at r0;simp only[EL,acU] at r0;clear Y h2 k27 hle hTl;go_wp2_with fail
        exact⟨⟨j+1,rfl,aQ,T,cT,by rw[HE.o.1,HE.o.2.1,HE.o.2.2];exact⟨K.o.1,K.o.2,by have:=HTl.o;omega⟩⟩,by simp only[aL];omega⟩
       |some x=>
        rw[hl] at hle;have HLx:=HL1.o.1 j x hl;have HX:aH (lN x (nl+qs.length)/\x.nw<1048576/\x.lg.length<=4000000000):=⟨HLx.1,by have:=HLx.2;have:=HLT.o.2;omega,by have:=HLx.1.lg;have:=HLT.o.1;omega⟩
        have x0:=(k27.aZ HB7.o N.o.2.2).cell 0 rn.env rfl;rw[hl] at r0;simp only[EL,abL] at r0;have HT1:aH (∀gv,gv=decide (rn.env=(j:Int))->iA f rn.env (j+1)=rT (tD (rT (iA f rn.env j) j x) j (jF x gv)) j (jF x gv)/\kV f rn.env (j+1)=kV f rn.env j++(wG (tD (rT (iA f rn.env j) j x) j (jF x gv)) j (jF x gv)).map (λv=>((j:Int),v))/\mK f rn.env (j+1)=if gv=true then qY x (oM x gv) else mK f rn.env j):=λgv a7=>by
         subst a7;refine⟨?_,?_,?_⟩
         .show BO (iA f rn.env j) rn.env j=_;unfold BO;rw[hle];rfl
         .show kV f rn.env j++ZV (iA f rn.env j) rn.env j=_;unfold ZV;rw[hle];rfl
         .show Af (iA f rn.env j) rn.env j (mK f rn.env j)=_;unfold Af;rw[hle];simp only[afE]
        have HRl:aH ((iA f rn.env j).length=8):=(JM _ _ _).trans HL1.o.2;clear Y hl h2 k27 HLx hTl;go_upto_region 28 with(fail)
        go_cut [16] (λs16 U=>s16= .bool (decide (rn.env=(j:Int)))/\U=wr)
        case first=>
         by_cases a7:rn.env=(j:Int)
         .rw[a7] at x0;go_wp2_with fail
          go_meet
          exact⟨by simp[a7],rfl⟩
         .go_wp2_with fail
          go_meet
          exact⟨by simp[a7],rfl⟩
        case rest=>
        obtain⟨rfl,rfl⟩:=hcut;obtain⟨gv,a7⟩:∃gv,gv=decide (rn.env=(j:Int)):=⟨_,rfl⟩
        have HGV:=aP (HT1.o gv a7);rw[<-a7];clear HT1 a7 x0 r0;generalize iA f rn.env j=R at *;generalize kV f rn.env j=TT at *;generalize mK f rn.env j=JJ at *;have HNs:=aP (K.o.1.news Z hle HX.o.2.2);go_wp2_with fail
        refine aR HNs ?_;rintro r w4 ⟨B4,d4,rfl,_,h4,k4⟩;have H4:aH (dZ O w4 hb m g c C (rT R j x) (q1+1+1) (((o1.sS rn S t u).sJ JJ.1 JJ.2).sT ⟨T,TT.length,cT⟩) DA TT/\Kp O w7 w4):=⟨h4.less λb hb=> .inl hb,K.o.2.trans k4⟩
        have hl4:(bT (rT R j x) j).l=some x:=by rw[(KR (j:=j) (x:=x) (by rw[HRl.o];exact Z)).1,hle]
        have r4:=H4.o.1.r0 Z hl4;have o8:=aP (H4.o.1.Uw Z hl4 HX.o.1 (by have:=HLT.o.1;omega) HX.o.2.1 gv);have HR4:aH ((rT R j x).length=8):=by unfold aH rT Q5;rw[aaV];exact HRl.o
        clear h4 k4 HNs K;go_wp2_with fail
        refine aR o8 ?_;rintro r w5 ⟨rfl,h5,k5⟩;have H5:aH (dZ O w5 hb m g c C (tD (rT R j x) j (jF x gv)) (q1+1+1) (((o1.sS rn S t u).sJ JJ.1 JJ.2).sT ⟨T,TT.length,cT⟩) DA TT/\Kp O w7 w5):=⟨h5,H4.o.2.trans k5⟩
        clear h5 k5 o8 H4 r4;generalize qY x (oM x gv)=pp at *;obtain⟨pp1,pp2⟩:=pp;simp only;have hl5:(bT (tD (rT R j x) j (jF x gv)) j).l=some (jF x gv):=by unfold tD;rw[yX (by rw[HR4.o];exact Z)]
        have HX5:aH ((jF x gv).lg.length<=4000000000):=by have:=(HX.o.1.tick HX.o.2.1 (by have:=HLT.o.1;omega) gv).lg;have:=HLT.o.1;unfold aH;omega
        have HR5:aH ((tD (rT R j x) j (jF x gv)).length=8):=by unfold aH tD;rw[aaV];exact HR4.o
        clear HX HRl HR4 hl4 hle;generalize tD (rT R j x) j (jF x gv)=R5 at *;generalize jF x gv=x5 at *;go_upto_if 128 with(fail)
        go_cut [] (λU=>aH (dZ O U hb m g c C R5 (q1+1+1) (((o1.sS rn S t u).sJ (if gv=true then(pp1,pp2) else JJ).1 (if gv=true then(pp1,pp2) else JJ).2).sT ⟨T,TT.length,cT⟩) DA TT/\Kp O w7 U))
        case first=>
         cases gv
         .go_wp2_with fail
          go_meet
          exact H5.o
         .have y6:=H5.o.1.bk.cell 6 JJ.1 rfl;have y7:=H5.o.1.bk.cell 7 JJ.2 rfl;have f6:=H5.o.1.bk.frozen 6;have f7:=H5.o.1.bk.frozen 7;go_wp2_with fail
          go_meet
          have h6:=H5.o.1.put (((o1.sS rn S t u).sJ pp1 pp2).sT ⟨T,TT.length,cT⟩) rfl rfl ((H5.o.1.bk.bQ 6 pp1).bQ 7 pp2) (aY (aY (bE _ _) 6 _) 7 _);exact⟨h6.1,H5.o.2.trans h6.2⟩
        case rest=>
        clear H5;have HNs:=aP (hcut.o.1.news Z hl5 HX5.o);have HC:=aP hcut.o.2;clear hcut;generalize (if gv=true then(pp1,pp2) else JJ)=J2 at *;go_wp2_with fail
        refine aR HNs ?_;rintro r w6 ⟨B,d,rfl,own6,h6,k6⟩;have H6:=bH h6 (HC.o.trans k6);have HO6:=aP own6;have HVl:aH ((wG R5 j x5).length<=4000000000):=aaR (Ha _ _ _) HX5.o;clear h6 k6 own6 HNs HC hl5 HX5;generalize wG R5 j x5=V at *;generalize rT R5 j x5=R6 at *;go_wp2_with fail
        go_loopw [136] (λv136 wr=>∃i:Nat,v136= .int .i64 i/\i<=V.length/\aH (∃T' cT',dZ (cB O B) wr hb m g c C R6 (q1+1+1) (((o1.sS rn S t u).sJ J2.1 J2.2).sT ⟨T',TT.length+i,cT'⟩) DA (TT++(V.take i).map (λv=>((j:Int),v)))/\Kp O w7 wr/\Kp (cB O B) w6 wr)) (λv136 _=>V.length - (aL v136).toNat)
        case atStart=>exact⟨0,rfl,aaQ _,T,cT,by rw[aeS,ae9,acX];exact H6.o.1,H6.o.2,Kp.refl _ _⟩
        case round=>
         obtain⟨i,rfl,hi,HV⟩:=hrel;obtain⟨T',cT',hv,kv7,kv6⟩:=HV.o;have HV:=cZ hv kv7 kv6;by_cases J:i<V.length
         .obtain⟨qB,hqB⟩:=wC HO6.o aQ;have HT:aH (V.take (i+1)=V.take i++ [V[i]]):=(abS J).symm;have ho:=HO6.o.kp kv6 (λb hb=> .inr hb);subst hqB;generalize hVi:V[i]=ev at *;have e0:=bG wU ho J (j:=0) (v:= .int .i64 ev.kd) (by rw[hVi];rfl);have e1:=bG wU ho J (j:=1) (v:= .int .i64 ev.tk) (by rw[hVi];rfl);have e2:=bG wU ho J (j:=2) (v:= .int .i64 ev.jb) (by rw[hVi];rfl);have e3:=bG wU ho J (j:=3) (v:= .int .i64 ev.at_) (by rw[hVi];rfl);rw[aa3] at e0;have c8:=hv.bk.cell 8 (.slice T' (TT.length+i) cT') rfl;have ii0:(0:Int)<=i:=aQ;have ii1:(i:Int)<(V.length:Int):=aQ;clear ho hVi hv kv7 kv6;go_upto_region 36 with(fail)
          have Q:=aP (bC.new wr 165 #[ev.kd,ev.tk,ev.jb,ev.at_]);have y0:=Q.o.cell 0 ev.kd rfl;have y1:=Q.o.cell 1 ev.tk rfl;have y2:=Q.o.cell 2 ev.jb rfl;have y3:=Q.o.cell 3 ev.at_ rfl;have d8:=bD (aX wr (aI #[ev.kd,ev.tk,ev.jb,ev.at_] 165)) c8;have HRx:=aP (HV.o.1.below (aX wr (aI #[ev.kd,ev.tk,ev.jb,ev.at_] 165)));have HDl:aH ((TT++(V.take i).map (λv=>((j:Int),v))).length=TT.length+i):=by unfold aH;rw[aaT,abT,aa9];omega
          have hbd:TT.length+i<=40000000000:=by have:=HTl.o;have:=HVl.o;omega
          clear e0 e1 e2 e3 c8 Q;generalize wr.alloc (aI #[ev.kd,ev.tk,ev.jb,ev.at_] 165)=U at *;go_wp2_with(refine bN _ rfl (.tmp 141) (.tmp 145) rfl Xv By (base:=0) (xs:=TT++(V.take i).map (λv=>((j:Int),v))) (HRx.o.1.yR.alloc _) (n:=TT.length+i) HDl.o rfl (m:=1) rfl (ys:= [((j:Int),ev)]) rfl (Sl.gK By U ((j:Int),ev) _ rfl _ aT) dT aQ (aaQ _) _ rfl (TT.length+i+1) rfl ?_;intro A9 c9 w9 own9 hg9 at9;(obtain⟨b9,f9,HO9,HK9⟩:=(HRx.o.1.below (aX U (aI #[j,ev.kd,ev.tk,ev.jb,ev.at_] 167))).1.Jr own9 hg9 at9 (n:=TT.length+i+1) (by rw[aaT,HDl.o];rfl));obtain⟨b9v,b9⟩:=b9)
          have HKx:=HRx.o.2.trans ((HRx.o.1.below (aX U (aI #[j,ev.kd,ev.tk,ev.jb,ev.at_] 167))).2.trans HK9);exact⟨⟨i+1,rfl,aQ,A9,c9,by rw[HT.o,aeJ,<-abA];exact HO9,HV.o.2.1.trans (HKx.mono λb hb=> .inl hb),HV.o.2.2.trans HKx⟩,by simp only[aL];omega⟩
         .obtain rfl:i=V.length:=aQ;have hT:V.take V.length=V:=acJ;rw[hT] at hv;have HE:aH (∃T cT,dZ O wr hb m g c C (iA f rn.env (j+1)) (q1+1+1) (((o1.sS rn S t u).sJ (mK f rn.env (j+1)).1 (mK f rn.env (j+1)).2).sT ⟨T,(kV f rn.env (j+1)).length,cT⟩) DA (kV f rn.env (j+1))/\Kp O w7 wr/\(kV f rn.env (j+1)).length<=4000000000 *(j+1)):=by
           rw[HGV.o.1,HGV.o.2.1,HGV.o.2.2,aaT,abT];exact⟨T',cT',hv.less λb hb=> .inl hb,kv7,by have:=HTl.o;have:=HVl.o;omega⟩
          have ii1:¬(V.length:Int)<(V.length:Int):=aQ;clear hv kv7 kv6 hT HV HGV;go_wp2_with fail
          obtain⟨T9,cT9,z1,z2,z3⟩:=HE.o;exact⟨⟨_,_,_,_,_,_,_,_,⟨j+1,rfl,aQ,⟨T9,cT9,z1⟩,z2,z3⟩,rfl,rfl,rfl,rfl,rfl,rfl,rfl,rfl⟩,by simp only[aL];omega⟩
      .obtain rfl:j=8:=aQ;have H8T:aH (dZ O wr hb m g c C (iA f rn.env 8) (q1+1+1) (((o1.sS rn S t u).sJ (mK f rn.env 8).1 (mK f rn.env 8).2).sT ⟨T,(kV f rn.env 8).length,cT⟩) DA (kV f rn.env 8)/\Kp O w7 wr):=⟨h2,k27⟩
       clear h2 k27 K hTl HTl;go_wp2_with fail
       have b12:=H8T.o.2.aZ HB7.o N.o.2.2;have x0:=b12.cell 0 rn.env rfl;have x2:=b12.cell 2 (.slice S.A S.n S.c) rfl;obtain⟨G,Y,_⟩:=H8T.o.1.ho;have c1':=Y.c1;have HEN:=a1.o.2.1.Qn HKN.o.1;have HRU:aH (∀n:Nat,n<8->wr.cell? ⟨hb,2+n *15+14,none⟩=some (.bool (bT f n).ru)):=λn hn=>by
        have:=Y.Xo (n:=n) hn;rw[(LV (rs:=f) (e:=rn.env) n 8 (by rw[HL1.o.2];omega)).2] at this;exact this
       clear Y b12;go_cut [164] (λs U=>∃bv:Bool,s= .bool bv/\aH ((bv=true/\∃i:Nat,rn.env=i/\i<4/\(bT f i).ru=true)\/(bv=false/\(rn.env<0\/∃i:Nat,rn.env=i/\i<4/\(bT f i).ru=false)))/\aD wr wr U)
       case first=>
        rcases HEN with hen|⟨i,hen,hi4⟩
        .rw[hen] at x0;go_quiet (fail)
         go_wp2_with fail
         go_meet
         exact⟨false,rfl, .inr ⟨rfl, .inl aQ⟩,below_drewN _ _⟩
        .have r14:=HRU.o i aQ;have i0:(0:Int)<=i:=aQ;have i8:(i:Int)<8:=aQ;rw[hen] at x0;cases hru:(bT f i).ru
         .rw[hru] at r14;have HH:=cZ hen hi4 hru;clear hen hru;go_quiet (fail)
          go_wp2_with fail
          go_meet
          exact⟨false,rfl, .inr ⟨rfl, .inr ⟨i,HH.o⟩⟩,below_drewN _ _⟩
         .rw[hru] at r14;have HH:=cZ hen hi4 hru;clear hen hru;go_quiet (fail)
          go_wp2_with fail
          go_meet
          exact⟨true,rfl, .inl ⟨rfl,i,HH.o⟩,below_drewN _ _⟩
       case rest=>
       obtain⟨bv,rfl,HBV,hbw⟩:=hcut;have H9:aH (dZ O wc hb m g c C (iA f rn.env 8) (q1+1+1) (((o1.sS rn S t u).sJ (mK f rn.env 8).1 (mK f rn.env 8).2).sT ⟨T,(kV f rn.env 8).length,cT⟩) DA (kV f rn.env 8)/\Kp O w7 wc):=⟨(H8T.o.1.below hbw).1,H8T.o.2.trans (H8T.o.1.below hbw).2⟩
       replace x0:=bD hbw x0;replace x2:=bD hbw x2;replace c1':=bD hbw c1';have HKE:aH (KI C (n0+M)):=a1.o.2.2;have hDl:S.n<=50000:=by rw[a1.o.1];exact aaR (a1.o.2.1.To HKI.o.2.2) HMM.o
       clear hbw H8T HRU;obtain⟨e8,he8⟩:∃e,e=((o1.sS rn S t u).sJ (mK f rn.env 8).1 (mK f rn.env 8).2).sT ⟨T,(kV f rn.env 8).length,cT⟩:=⟨_,rfl⟩
       have HE8:=aP he8;rw[<-he8] at H9;clear he8;go_upto_if 164 with(fail)
       go_cut [] (λU=>aH (∃(st x y z:Int) (k4:Kv) (rs4:List Rm),dZ O U hb m g c k4 rs4 (q1+1+1) (e8.sB st x y z) DA (kV f rn.env 8)/\Kp O w7 U/\KI k4 (n0+M+40)/\((∃i:Nat,rn.env=i/\i<4/\(bT f i).ru=true/\yT i C k4/\Qo (iA f rn.env 8) rs4 i)\/((rn.env<0\/∃i:Nat,rn.env=i/\i<4/\(bT f i).ru=false)/\k4=C/\rs4=iA f rn.env 8))))
       case first=>
        rcases HBV.o with⟨rfl,i,hen,hi4,hru⟩|⟨rfl,hno⟩
        .exact absurd (hru.symm.trans (HNR.o i hi4)) cD
        .have zN:=aP hno;clear hno;go_wp2_with fail
         go_meet
         refine⟨e8.st,e8.x,e8.y,e8.z,C,_,H9.o.1,H9.o.2,HKE.o.mono aQ, .inr ⟨zN.o,rfl,rfl⟩⟩
       case rest=>
       obtain⟨st,x,y,z,k4,rs4,hF,kF,kiF,hcs⟩:=hcut.o;have HF:=cZ hF kF (And.intro kiF hcs);have hAA:aH (e8.A=⟨A,qs.length,cA⟩/\e8.rn=rn/\e8.S=S/\(e8.tk,e8.nu)=mK f rn.env 8/\e8.T.n=(kV f rn.env 8).length):=by rw[HE8.o,HO1.o];exact⟨rfl,rfl,rfl,rfl,rfl⟩
       obtain⟨o9,ho9⟩:∃o,o=e8.sB st x y z:=⟨_,rfl⟩
       have H9o:aH (o9.A=⟨A,qs.length,cA⟩/\o9.rn=rn/\o9.S=S/\(o9.tk,o9.nu)=mK f rn.env 8/\o9.T.n=(kV f rn.env 8).length):=by rw[ho9];exact hAA.o
       rw[<-ho9] at HF hF;have HRg:=aP hF.bk.range;have HOi:=aP (Mn o9);have zb:=kF.aZ (HK7.o.1.aZ HX3.o.2 (.inr (.inr rfl))) (N.o.1 _ (.inr (.inr rfl)));have HTh:=aP (zb.there (n:=(jK o9).toArray.size) (afS rfl));have HZb:=aP (zb.laid (M:=jK o9) rfl);have HZr:=aP HZb.o.range;have HZ0:=aP zb;have HGz:=aP (iR (q1+1) (jK o9) 0 wc wc (bE wc (q1+1)));have HOn:=aP (Tv o9);clear hF kF kiF hcs hcut ho9 zb H9 HBV x0 x2 c1' hAA HE8;go_wp2_with(first|(refine wpList_load_mid rfl 79 _ rfl (q1+1+1) 0 rfl (jK o9) _ HRg.o underlying79 rfl HOi.o ?_)|(refine wpList_store_mid rfl 79 _ _ rfl (q1+1) 0 (jK o9).toArray rfl rfl HTh.o (by simpa using HOi.o) HOn.o ?_))
       have k1:Kp F w wc:=HK3.o.trans ((HKF.o _ _ HK7.o.1).trans (HF.o.2.1.mono λb hb=>N.o.1 b (.inl hb)));have oS:=HS7.o.kp HF.o.2.1 N.o.2.1;have oA:=HF.o.1.FC;have nS:=UP oS HZ0.o cD;have nA:=UP oA HZ0.o cD;have e1:=H9o.o.1;have hAe:o9.A.A=A:=by rw[e1]
       have hSe:=H9o.o.2.2.1;have k2':Kp F wc (wc.setCells (q1+1) 0 (jK o9)):=Kp.grown HGz.o λb hb=>⟨HF.o.1.ob.fl b (N.o.1 b (.inl hb)),λe=>HN1.o.2 (by injection e with e;exact e ▸ hb)⟩
       have oS':=oS.kept HGz.o (.inr nS);have oA':=oA.kept HGz.o (.inr nA);have Y:=dV.gr (cE.bX hb m g c k4 rs4) (H:=cB (cB F o9.S.A) o9.A.A) HF.o.1.o HGz.o (λq hq=>by injection hq with hq;exact .inl (hq ▸ N.o.1 _ (.inr (.inr rfl)))) (λb hb=>by
        refine aaJ ?_ HGz.o.size;rcases hb with(hb|hb)|hb
        .exact HF.o.1.ob.fl b (N.o.1 b (.inl hb))
        .rw[hSe] at hb;exact(oS.lt b hb).2
        .exact(oA.lt b hb).2) (λb _ hb=>by
        rcases hb with(hb|hb)|hb
        .exact .inl (N.o.1 b (.inl hb))
        .rw[hSe] at hb;exact .inl (N.o.2.1 b hb)
        .exact .inr hb)
       refine bodyPost_ret (results_cell_tmp rfl _ _ (q1+1) (jK o9) _ rfl HZr.o underlying79 rfl HOi.o) rfl ⟨o9,D,DA,k4,rs4,rfl,⟨HDA.o,?_,?_,?_⟩,HF.o.2.2.1,?_,HF.o.1.a,?_,oA',?_,Y,k1.trans k2'⟩
       .refine⟨C,?_,?_⟩
        .rw[H9o.o.2.1,<-HRS.o,<-HkN.o];exact a1.o.2.1
        .rw[H9o.o.2.1,<-HRS.o];exact HF.o.2.2.2
       .rw[H9o.o.2.2.2.1,H9o.o.2.1,HRS.o]
       .rw[H9o.o.2.2.2.2,H9o.o.2.1,HRS.o]
       .rw[hSe];exact a1.o.1
       .rw[hSe,HQ1.o];exact oS'
       .rw[hAe,HQ1.o];exact HNA.o
end
end
end Go.Proofs.YtacgiflhgdaeaaaGreat
