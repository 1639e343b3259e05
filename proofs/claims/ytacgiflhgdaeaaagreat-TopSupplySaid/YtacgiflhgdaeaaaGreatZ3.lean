/- Texts laid as one. -/
import Derived.Test.YtacgiflhgdaeaaaGreatZ2
set_option linter.unusedVariables false
set_option linter.unusedSimpArgs false
set_option maxRecDepth 100000
set_option maxHeartbeats 20000000
namespace Go.Proofs.YtacgiflhgdaeaaaGreat
open Go.Proofs.Tryz
open Go renaming World->aA,Value->aC,Oper->aK,Program->aO
section
open Go.RowKit
structure CW(C:aA->Prop) where
 w:aA
 ok:C w
variable{ga:Act->Prop}{n:Nat}
section
variable{P:aO}{C:aA->Prop}{Z:Nat->aA->aA->Prop}{made T:List Nat}{S:Nat->aC->aA->Prop}{ops:Array aK}
def BL(P:aO)(R:aA->aA->Prop)(U:aC->aA->Prop)(w:aA):Result Next->Prop
 | .ok (.value v) w'=>R w w'/\U v w'
 | .ok .skip w'=>R w w'/\U undef w'
 | .ok (.enter f args) w'=>w'=w/\Calls P f args w λe w''=>∃v,e= .returned v/\R w w''/\U v w''
 |_=>False
def yG(made:List Nat)(_ops:Array aK)(o:aK):Bool:=jS o&&(pN made o).isNone
def PW(P:aO)(C:aA->Prop)(Z:Nat->aA->aA->Prop)(made:List Nat)(S:Nat->aC->aA->Prop)(ops:Array aK)(i:Nat)(o:aK)(a:Act)(v:aC):Prop:=
 match pN made o with
 |some d=>v=undef/\∀(γ:Nat->aC) (w:aA),C w->(∀k∈l7 made ops o,S k (γ k) w)->BL P (Z i) (S d) w ((execOp (dG γ (l7 made ops o) a).eval o).run P w)
 |none=>
  if l7 made ops o= [] then
   (if jS o then ∀w,(∃n:CQ,w=n.w)->o.quietAt P a (λw=>∃n:CQ,w=n.w) w v
   else if oD o then ∀n:CW C,SH P (Z i) n.w v ((execOp a.eval o).run P n.w)
   else ∀w,(∃n:CW C,w=n.w)->o.quietAt P a (λw=>∃n:CW C,w=n.w) w v)
  else if jS o then ∀(γ:Nat->aC) (w:aA),C w->(∀k∈l7 made ops o,S k (γ k) w)->∀w2,BL P (λa b=>b=a) (λu _=>u=v) w2 ((execOp (dG γ (l7 made ops o) a).eval o).run P w2)
  else ∀(γ:Nat->aC) (w:aA),C w->(∀k∈l7 made ops o,S k (γ k) w)->BL P (Z i) (λu _=>u=v) w ((execOp (dG γ (l7 made ops o) a).eval o).run P w)
def Wv(C:aA->Prop)(made:List Nat)(S:Nat->aC->aA->Prop)(o:aK):Prop:=∀d,pN made o=some d->∀w,C w->S d undef w
def oR(P:aO)(ops:Array aK)(T:List Nat)(C:aA->Prop)(Z:Nat->aA->aA->Prop)(made:List Nat)(S:Nat->aC->aA->Prop)(Q:Act->Prop):Nat->List aK->Act->Prop
 |_, [],a=>Q a
 |i,o::rest,a=>
  if T.contains i then oR P ops T C Z made S Q (i+1) rest (a.put o.dst undef)
  else if Region.wanted o (yielded ops a.tmps)=true then ∃v,PW P C Z made S ops i o a v/\oR P ops T C Z made S Q (i+1) rest (a.put o.dst v)
  else Wv C made S o/\oR P ops T C Z made S Q (i+1) rest (a.put o.dst undef)
def Kr(P:aO)(ops:Array aK)(T:List Nat)(C:aA->Prop)(Z:Nat->aA->aA->Prop)(made:List Nat)(S:Nat->aC->aA->Prop)(i:Nat)(o:aK)(a:Act)(v:aC):Prop:=
 (T.contains i=true)\/(Region.wanted o (yielded ops a.tmps)=true/\PW P C Z made S ops i o a v)\/(Region.wanted o (yielded ops a.tmps)=false/\v=undef/\Wv C made S o)
theorem Lc:∀(l:List aK) (i:Nat) (a:Act),oR P ops T C Z made S ga i l a->
 ∃vals:Nat->aC,(∀j o,l[j]?=some o->Kr P ops T C Z made S (i+j) o (fD a l vals j) (vals j))/\ga (fD a l vals l.length)
 | [],i,a,h=>⟨λ_=>undef,λj o b=>by simp at b,h⟩
 |o::l,i,a,h=>by
  have key:∀v,Kr P ops T C Z made S i o a v->oR P ops T C Z made S ga (i+1) l (a.put o.dst v)->∃vals:Nat->aC,(∀j c,(o::l)[j]?=some c->Kr P ops T C Z made S (i+j) c (fD a (o::l) vals j) (vals j))/\ga (fD a (o::l) vals (o::l).length):=by
   intro v d e;obtain⟨g,h1,k⟩:=Lc l (i+1) _ e;refine⟨λi=>match i with|0=>v|i+1=>g i,λj c b=>?_,?_⟩
   .cases j with
    |zero=>
     simp at b;subst b;exact d
    |succ j=>
     rw[tZ,show i+(j+1)=i+1+j by omega];exact h1 j c b
   .rw[abM,tZ];exact k
  unfold oR at h;by_cases f:T.contains i=true
  .rw[aaK f] at h;exact key undef (.inl f) h
  .rw[aaL f] at h;by_cases hw:Region.wanted o (yielded ops a.tmps)=true
   .rw[aaK hw] at h;obtain⟨v,d,e⟩:=h;exact key v (.inr (.inl ⟨hw,d⟩)) e
   .rw[aaL hw] at h;exact key undef (.inr (.inr ⟨by simpa using hw,rfl,h.1⟩)) h.2
def GR(ops:Array aK):List Nat->Bool
 |x::y::r=>Region.waitsFor .any ops x y&&GR ops (y::r)
 |_=>true
def PY(T made:List Nat)(pt:List (List Nat))(N:Nat)(ops:Array aK):Bool:=
 Region.noSelect ops&&
 ((List.range ops.size).all λi=>(List.range ops.size).all λj=>i==j || (eW ops i).isNone || eW ops i !=eW ops j)&&
 ((List.range ops.size).all λi=>GG ops i)&&
 ((List.range ops.size).all λi=>GF ops i)&&
 ((List.range ops.size).all λi=>match ops[i]? with
  |some o=>if T.contains i then o.guard.isNone&&(o.looksAt ops).all λk=>(List.range ops.size).all λj=>eW ops j !=some k || (decide (j<i)&&Region.waitsFor .any ops i j)
   else((o.looksAt ops).all λk=>(List.range ops.size).all λj=>eW ops j !=some k || !T.contains j)&&
    ((o.looksAt ops).all λk=>!made.contains k || (List.range i).any λj=>eW ops j==some k&&Region.waitsFor .any ops i j)&&
    (match o.guard with|some (g,_)=>(match eW ops g with|some k=>!made.contains k|none=>true)|none=>true)&&
    (plain o || oD o || (pN made o).isSome || !(l7 made ops o).isEmpty)&&
    (yG made ops o || T.isEmpty || Region.waitsFor .any ops (T.headD 0) i || pt.any λp=>p.head?==some (T.headD 0)&&p.getLast?==some i&&GR ops p)
  |none=>true)&&
 ((List.range (T.length - 1)).all λk=>Region.waitsFor .any ops (T.getD (k+1) 0) (T.getD k 0))&&
 (T.all λt=>decide (t<ops.size))&&
 (made.all λd=>(List.range ops.size).any λi=>eW ops i==some d&&!T.contains i)&&
 ((List.range ops.size).all λj=>match eW ops j with|some s=>decide (s<N)|none=>true)&&
 (made.all λd=>decide (d<N))
structure UH(T made:List Nat)(pt:List (List Nat))(N:Nat)(ops:Array aK):Prop where
 KL:∀(j:Nat) (o:aK) cs b,ops[j]?=some o->o.op≠ .select cs b
 lB:∀(i j:Nat) (oi oj:aK) (k:Nat),ops[i]?=some oi->ops[j]?=some oj->oi.dst=some k->oj.dst=some k->i=j
 back:∀(i:Nat) (o:aK),ops[i]?=some o->∀e∈o.after,Region.binds .any e=true->e.on<i
 look:∀(i j:Nat) (oi oj:aK) (k:Nat),ops[i]?=some oi->ops[j]?=some oj->k∈oi.looksAt ops->oj.dst=some k->(j<i/\Region.waitsFor .any ops i j=true)\/(i<j/\Region.waitsFor .any ops j i=true)
 tg:∀(i:Nat) (o:aK),ops[i]?=some o->i∈T->o.guard=none
 tl:∀(i j:Nat) (o oj:aK) (k:Nat),ops[i]?=some o->i∈T->k∈o.looksAt ops->ops[j]?=some oj->oj.dst=some k->Region.waitsFor .any ops i j=true
 nl:∀(i j:Nat) (o oj:aK) (k:Nat),ops[i]?=some o->i∉T->k∈o.looksAt ops->ops[j]?=some oj->oj.dst=some k->j∉T
 Vh:∀(i:Nat) (o:aK) (k:Nat),ops[i]?=some o->i∉T->k∈o.looksAt ops->k∈made->∃(j:Nat) (oj:aK),ops[j]?=some oj/\oj.dst=some k/\Region.waitsFor .any ops i j=true
 Yu:∀(i:Nat) (o:aK) (g:Nat) (b:Bool) (k:Nat),ops[i]?=some o->i∉T->o.guard=some (g,b)->eW ops g=some k->k∉made
 pl:∀(i:Nat) (o:aK),ops[i]?=some o->i∉T->plain o=true\/oD o=true\/(pN made o).isSome=true\/l7 made ops o≠[]
 fr:∀(i:Nat) (o:aK),ops[i]?=some o->i∉T->yG made ops o=true\/T= []\/Region.waitsFor .any ops (T.headD 0) i=true\/∃p∈pt,p.head?=some (T.headD 0)/\p.getLast?=some i/\GR ops p=true
 row:∀k,k+1<T.length->Region.waitsFor .any ops (T.getD (k+1) 0) (T.getD k 0)=true
 SJ:∀t∈T,t<ops.size
 has:∀d∈made,∃(j:Nat) (oj:aK),ops[j]?=some oj/\oj.dst=some d/\j∉T
 size:∀(j:Nat) (o:aK) (s:Nat),ops[j]?=some o->o.dst=some s->s<N
 KE:∀d∈made,d<N
theorem YD{pt:List (List Nat)}(h:PY T made pt n ops=true):UH T made pt n ops:=by
 simp only[PY,abJ,abR,ab3] at h;obtain⟨⟨⟨⟨⟨⟨⟨⟨⟨u,h1⟩,h2⟩,h3⟩,h4⟩,h5⟩,h6⟩,h7⟩,h8⟩,a⟩:=h;refine⟨Region.noSelect_spec u,?_,?_,?_,?_,?_,?_,?_,?_,?_,?_,?_,?_,?_,?_,?_⟩
 .intro i j v m k hi c x l;have:=h1 i (bU hi) j (bU c);simp[eW,hi,c,x,l] at this;exact this
 .intro i o hi e he y;have:=h2 i (bU hi);unfold GG at this;rw[hi] at this;have:=Array.all_eq_true'.1 this e he;simp[y] at this;exact this
 .intro i j v m k hi c hk l;have:=h3 i (bU hi);unfold GF at this;rw[hi] at this;have:=abR.1 (abR.1 this k hk) j (ab3.2 (bU c));simp[eW,c,l] at this;exact this
 .intro i o hi f;have:=h4 i (bU hi);rw[hi] at this;simp only[acH,abD f,acY,abJ,adG] at this;exact this.1
 .intro i j o m k hi f hk c l;have:=h4 i (bU hi);rw[hi] at this;simp only[acH,abD f,acY,abJ] at this;have:=abR.1 (abR.1 this.2 k hk) j (ab3.2 (bU c));simp[eW,c,l] at this;exact this.2
 .intro i j o m k hi f hk c l;have:=h4 i (bU hi);rw[hi] at this;simp only[acH,aa0 f,abB,ab4,abJ] at this;have:=abR.1 (abR.1 this.1.1.1.1 k hk) j (ab3.2 (bU c));simp[eW,c,l] at this;exact this
 .intro i o k hi f hk hm;have:=h4 i (bU hi);rw[hi] at this;simp only[acH,aa0 f,abB,ab4,abJ,abR,ae4,adI] at this;rcases this.1.1.1.2 k hk with a|⟨j,c,a,q⟩
  .simp[hm] at a
  .obtain⟨m,r,hd⟩:=PZ a;exact⟨j,m,r,hd,q⟩
 .intro i o g b k hi f z hd;have:=h4 i (bU hi);rw[hi] at this;simp only[acH,aa0 f,abB,ab4,abJ,z,hd] at this;simpa using this.1.1.2
 .intro i o hi f;have:=h4 i (bU hi);rw[hi] at this;simp only[acH,aa0 f,abB,ab4,abJ,ae4] at this;rcases this.1.2 with((a|a)|a)|a
  .exact .inl a
  .exact .inr (.inl a)
  .exact .inr (.inr (.inl a))
  .refine .inr (.inr (.inr λe=>?_));rw[e] at a;simp at a
 .intro i o hi f;have:=h4 i (bU hi);rw[hi] at this;simp only[acH,aa0 f,abB,ab4,abJ,ae4,adI] at this;rcases this.2 with((a|a)|a)|⟨p,hp,a⟩
  .exact .inl a
  .exact .inr (.inl (by simpa using a))
  .exact .inr (.inr (.inl a))
  .exact .inr (.inr (.inr ⟨p,hp,by simpa using a.1.1,by simpa using a.1.2,a.2⟩))
 .intro k hk;exact h5 k aQ
 .intro t f;simpa using h6 t f
 .intro d hd;obtain⟨i,_,hi⟩:=by simpa only[adI] using h7 d hd
  rw[abJ] at hi;obtain⟨o,ho,hk⟩:=PZ hi.1;exact⟨i,o,ho,hk,by simpa using hi.2⟩
 .intro j o s c hd;have:=h8 j (bU c);simp[eW,c,hd] at this;exact this
 .intro d hd;simpa using a d hd
end
variable{ops:Array aK}{ia:Array Bool}{id:Nat}{w0 W w w':aA}{P:aO}{U:aC->aA->Prop}
section
section
variable{P:aO}{C:aA->Prop}{Z:Nat->aA->aA->Prop}{made T:List Nat}{S:Nat->aC->aA->Prop}{l:List aK}{a0:Act}{vals:Nat->aC}{N:Nat}{Q:Exit->Act->aA->Prop}{pt:List (List Nat)}
structure Rh(P:aO)(T made:List Nat)(C:aA->Prop)(S:Nat->aC->aA->Prop)(l:List aK)(a0:Act)(vals:Nat->aC)(N:Nat)(Q:Exit->Act->aA->Prop)(listed:Array Bool)(a:Act)(w:aA)(γ:Nat->aC)(p:Nat)(b:Act):Prop where
 size:listed.size=l.toArray.size
 closed:∀(j:Nat) (oj:aK),l.toArray[j]?=some oj->listed.getD j false=true->∀e∈oj.after,Region.binds .any e=true->listed.getD e.on false=true
 tK:a.tmps.size=N
 pl:p<=T.length
 KN:∀k,k<p->listed.getD (T.getD k 0) false=true
 off:∀k,p<=k->k<T.length->listed.getD (T.getD k 0) true=false
 new:∀(j:Nat) (o:aK) (s:Nat),l.toArray[j]?=some o->j∉T->o.dst=some s->listed.getD j false=true->a.tmps[s]?=some (if s∈made then γ s else vals j)
 oX:∀s:Nat,(∀(j:Nat) (o:aK),l.toArray[j]?=some o->listed.getD j false=true->o.dst≠some s)->a.tmps[s]?=a0.tmps[s]?
 z:p=0->C w/\a.defers=a0.defers/\∀d∈made,wL l.toArray listed d->S d (γ d) w
 Ql:∃w1,C w1/\∀d∈made,wL l.toArray listed d->S d (γ d) w1
 n:0<p->b.tmps.size=N/\a.defers=b.defers/\(∀(j:Nat) (o:aK) (s:Nat),l.toArray[j]?=some o->j∉T->o.dst=some s->b.tmps[s]?=some (if s∈made then γ s else vals j))/\
  (∀s:Nat,(∀(j:Nat) (o:aK),l.toArray[j]?=some o->o.dst≠some s)->b.tmps[s]?=a0.tmps[s]?)/\
  (∀(j:Nat) (o:aK) (s:Nat),l.toArray[j]?=some o->j∈T->o.dst=some s->listed.getD j false=true->a.tmps[s]?=b.tmps[s]?)/\
  wpList P l.toArray (iE Q) ((T.drop p).filterMap λt=>l[t]?) b w
theorem AP(hc:∀(j:Nat) (g:aK),ops[j]?=some g->ia.getD j false=true->∀e∈g.after,Region.binds .any e=true->ia.getD e.on false=true):∀(p:List Nat) (x y:Nat),p.head?=some x->p.getLast?=some y->GR ops p=true->ia.getD x false=true->ia.getD y false=true
 | [],x,y,h,_,_,_=>by simp at h
 | [z],x,y,h1,h2,_,h=>by simp at h1 h2;subst h1 h2;exact h
 |u::v::r,x,y,h1,h2,h3,h=>by
  simp at h1;subst h1;rw[GR,abJ] at h3;obtain⟨m,b,he⟩:=Region.waitsFor_spec h3.1;obtain⟨e,c,d,f⟩:=he;have k:=hc u m b h e c d;rw[f] at k;refine AP hc (v::r) v y rfl ?_ h3.2 k;rw[List.getLast?_cons_cons] at h2;exact h2
theorem Y9(hZ:∀i w w',C w->Z i w w'->C w')(hS:∀i,∀d∈made,eW l.toArray i≠some d->∀v w w',C w->S d v w->Z i w w'->S d v w')(ok:UH T made pt N l.toArray)(hN:a0.tmps.size=N)
 (hok:∀(j:Nat) (o:aK),l[j]?=some o->Kr P l.toArray T C Z made S j o (fD a0 l vals j) (vals j))
 (hQ:∀(γ:Nat->aC) (w:aA),C w->(∀d∈made,S d (γ d) w)->wpList P l.toArray (iE Q) (T.filterMap λt=>l[t]?) (dG γ made (fD a0 l vals l.length)) w):
 ∀(fuel:Nat) (q:Array Bool) (a:Act) (w:aA) (γ:Nat->aC) (p:Nat) (b:Act),Rh P T made C S l a0 vals N Q q a w γ p b->nP q=fuel->wpAny P .any l.toArray Q fuel q a w:=by
 have hli:∀j:Nat,l.toArray[j]?=l[j]?:=λj=>aaY
 have b0n:∀(γ:Nat->aC) (j:Nat) (o:aK) (s:Nat),l.toArray[j]?=some o->o.dst=some s->(dG γ made (fD a0 l vals l.length)).tmps[s]?=some (if s∈made then γ s else vals j):=λγ j o s A hd=>by
  have hj':l[j]?=some o:=by rw[<-hli];exact A
  by_cases hm:s∈made
  .rw[aaK hm,JI γ s made _ hm (by rw[(jE a0 l vals _).1,hN];exact ok.KE s hm)]
  .rw[aaL hm,zB γ s made _ hm];exact uM a0 l vals s j o hj' hd (by rw[hN];exact ok.size j o s A hd) (λj' o' h' D J=>D (ok.lB j' j o' o s (by rw[hli];exact h') A J hd)) l.length (aaX.1 hj').1
 have b0o:∀(γ:Nat->aC) (s:Nat),(∀(j:Nat) (o:aK),l.toArray[j]?=some o->o.dst≠some s)->(dG γ made (fD a0 l vals l.length)).tmps[s]?=a0.tmps[s]?:=λγ s hs=>by
  have hm:s∉made:=λhm=>by
   obtain⟨j,B,A,hd,_⟩:=ok.has s hm;exact hs j B A hd
  rw[zB γ s made _ hm];exact oH a0 l vals s l.length (λj o _ A=>hs j o (by rw[hli];exact A))
 have fin:∀(q:Array Bool) (a:Act) (w:aA) (γ:Nat->aC) (p:Nat) (b:Act),Rh P T made C S l a0 vals N Q q a w γ p b->(∀i,i<q.size->q.getD i false=true)->Q .normal a w:=by
  intro q a w γ p b inv L;have all:∀(j:Nat) (o:aK),l.toArray[j]?=some o->q.getD j false=true:=λj o A=>L j (by rw[inv.size];exact bU A)
  have hp:p=T.length:=by
   rcases ac0 p T.length with h|h
   .exfalso
    have h1:=inv.off p (aaH _) h;have M:T.getD p 0<q.size:=by
     rw[inv.size];refine ok.SJ _ ?_;rw[kQ h];exact aaM h
    have H:=p7 (L _ M);rw[h1] at H;cases H
   .exact afO inv.pl h
  have same:∀b':Act,(∀(j:Nat) (o:aK) (s:Nat),l.toArray[j]?=some o->o.dst=some s->a.tmps[s]?=b'.tmps[s]?)->(∀s:Nat,(∀(j:Nat) (o:aK),l.toArray[j]?=some o->o.dst≠some s)->b'.tmps[s]?=a0.tmps[s]?)->a.defers=b'.defers->a=b':=by
   intro b' h1 M H;have Y:a.tmps=b'.tmps:=by
    apply aeD;intro k;by_cases hex:∃(j:Nat) (B:aK),l.toArray[j]?=some B/\B.dst=some k
    .obtain⟨j,B,A,dj⟩:=hex;exact h1 j B k A dj
    .have a1:∀(j:Nat) (B:aK),l.toArray[j]?=some B->B.dst≠some k:=λj B A hd=>hex ⟨j,B,A,hd⟩
     rw[inv.oX k (λj B A _=>a1 j B A),M k a1]
   obtain⟨t1,d1⟩:=a;obtain⟨t2,d2⟩:=b';simp only at Y H;subst Y H;rfl
  by_cases F:p=0
  .have hT:T= []:=abO aQ;obtain⟨hC,hd,O⟩:=inv.z F;have:=hQ γ w hC (λd hd=>O d hd (by obtain⟨j,B,A,hk,_⟩:=ok.has d hd;exact⟨j,B,A,hk,all j B A⟩));rw[hT] at this;rw[same (dG γ made (fD a0 l vals l.length)) (λj o s A hds=>by rw[inv.new j o s A (by rw[hT];simp) hds (all j o A),b0n γ j o s A hds]) (b0o γ) (by rw[(xH γ made _).2,(jE a0 l vals _).2];exact hd)];exact this
  .obtain⟨_,hd,hbn,hbo,hag,hst⟩:=inv.n aQ;rw[hp,afA (aaH _)] at hst;rw[same b (λj o s A hds=>by
    by_cases E:j∈T
    .exact hag j o s A E hds (all j o A)
    .rw[inv.new j o s A E hds (all j o A),hbn j o s A E hds]) hbo hd]
   exact hst
 intro fuel;induction fuel with
 |zero=>
  intro q a w γ p b inv hc;have L:∀i,i<q.size->q.getD i false=true:=λi hi=>JO hc i hi
  refine⟨?_,fin q a w γ p b inv L⟩;rw[List.eq_nil_iff_forall_not_mem];intro i hi;obtain⟨h1,o,ho,_⟩:=mem_ready.1 hi;have M:=L i (by rw[inv.size];exact bU ho);rw[getD_both h1] at M;cases M
 |succ fuel ih=>
  intro q a w γ p b inv hc;constructor
  .intro hr;exfalso
   have hex:∃i,i<q.size/\q.getD i false=false:=by
    refine aa4 λD=>?_
    have L:∀i,i<q.size->q.getD i false=true:=λi hi=>by
     cases h:q.getD i false with
     |true=>rfl
     |false=>exact absurd ⟨i,hi,h⟩ D
    have:nP q=0:=by
     unfold nP;rw[ad6,aeC];intro b hb;obtain⟨i,hi,he⟩:=aeP.1 hb;have h1:=L i (by simpa using hi);have hi':i<q.size:=by simpa using hi
     simp[hi'] at h1;simp at he;rw[<-he,h1];simp
    omega
   obtain⟨i0,hi0,hu0⟩:=hex;have hmin:∃i,i<q.size/\q.getD i false=false/\∀j,j<i->q.getD j false=true:=by
    induction i0 using Nat.strongRecOn with
    |_ i0 ihm=>
     by_cases h:∃j,j<i0/\q.getD j false=false
     .obtain⟨j,A,hju⟩:=h;exact ihm j A aQ hju
     .refine⟨i0,hi0,hu0,λj A=>?_⟩;cases hjv:q.getD j false with
      |true=>rfl
      |false=>exact absurd ⟨j,A,hjv⟩ h
   obtain⟨i,hi,hu,hlt⟩:=hmin;have hil:i<l.toArray.size:=by rw[<-inv.size];exact hi
   have:i∈Region.ready .any l.toArray q:=mem_ready.2 ⟨getD_in hi hu,l.toArray[i],by simp[abE hil],λe he hb=>hlt _ (ok.back i _ (abE hil) e he hb)⟩;rw[hr] at this;cases this
  .intro i hi;obtain⟨hun,o,ho,L⟩:=mem_ready.1 hi;have hol:l[i]?=some o:=by rw[<-aaY];exact ho
   have hcn:nP (q.setIfInBounds i true)=fuel:=by have:=JG hun;omega
   have lF:i<q.size:=by rw[inv.size];exact bU ho
   have G:∀j,Region.waitsFor .any l.toArray i j=true->q.getD j false=true:=λj hw=>by
    obtain⟨e,he,hb,hon⟩:=o4 ho hw;have:=L e he hb;rw[hon] at this;exact this
   have X:∀(j:Nat) (B:aK),l.toArray[j]?=some B->Region.waitsFor .any l.toArray j i=true->q.getD j false=true->False:=λj B A hw V=>by
    obtain⟨e,he,hb,hon⟩:=o4 A hw;have:=inv.closed j B A V e he hb;rw[hon,getD_both hun] at this;cases this
   have closed':∀(j:Nat) (B:aK),l.toArray[j]?=some B->(q.setIfInBounds i true).getD j false=true->∀e∈B.after,Region.binds .any e=true->(q.setIfInBounds i true).getD e.on false=true:=λj B A V e he hb=>by
    by_cases I:i=j
    .subst I;rw[ho] at A;injection A with A;subst A;exact getD_set_true (L e he hb)
    .rw[getD_set_ne false I] at V;exact getD_set_true (inv.closed j B A V e he hb)
   by_cases hT:i∈T
   ·
    obtain⟨k,hkl,hki⟩:=aa2 hT;have hkD:T.getD k 0=i:=by rw[kQ hkl,hki]
    have hpk:p<=k:=by
     rcases ac0 k p with h|h
     .have:=p7 (inv.KN k h);rw[hkD,hun] at this;cases this
     .exact h
    have hkp:k=p:=by
     refine afO ?_ hpk;refine aa4 λhlt=>?_
     have hk1:k - 1+1=k:=aQ;have h1:=ok.row (k - 1) aQ;rw[hk1,hkD] at h1;have M:=p7 (G _ h1);rw[inv.off (k - 1) aQ aQ] at M;cases M
    subst hkp;have hB:∃b:Act,b.tmps.size=N/\a.defers=b.defers/\(∀(j:Nat) (o:aK) (s:Nat),l.toArray[j]?=some o->j∉T->o.dst=some s->b.tmps[s]?=some (if s∈made then γ s else vals j))/\
     (∀s:Nat,(∀(j:Nat) (o:aK),l.toArray[j]?=some o->o.dst≠some s)->b.tmps[s]?=a0.tmps[s]?)/\
     (∀(j:Nat) (o:aK) (s:Nat),l.toArray[j]?=some o->j∈T->o.dst=some s->q.getD j false=true->a.tmps[s]?=b.tmps[s]?)/\
     wpList P l.toArray (iE Q) ((T.drop k).filterMap λt=>l[t]?) b w:=by
     by_cases hk0:k=0
     .subst hk0;obtain⟨hC,hd,O⟩:=inv.z rfl;have h0:T.headD 0=T.getD 0 0:=by cases T <;> rfl
      have hlT:∀(j:Nat) (B:aK),l.toArray[j]?=some B->j∈T->q.getD j false=true->False:=λj B A E V=>by
       obtain⟨m,hml,hmi⟩:=aa2 E;have h1:=inv.off m (aaQ _) hml;rw[kQ hml,hmi] at h1;have M:=p7 V;rw[h1] at M;cases M
      have hmade:∀d∈made,wL l.toArray q d:=λd hd=>by
       obtain⟨j,B,A,hk,E⟩:=ok.has d hd;refine⟨j,B,A,hk,?_⟩;rcases ok.fr j B A E with h|h|h|⟨pp,_,h1,M,H⟩
       .exfalso
        unfold yG at h;rw[abJ] at h;have:=h.2;rw[YE hk hd] at this;cases this
       .rw[h] at hT;cases hT
       .rw[h0,hkD] at h;exact G j h
       .rw[h0,hkD] at h1;match pp,h1,M,H with
        | [x],h1,M,_=>
         simp at h1 M;subst h1 M;exact absurd hT E
        |x::y::r,h1,M,H=>
         simp at h1;subst h1;rw[GR,abJ] at H;rw[List.getLast?_cons_cons] at M;exact AP inv.closed (y::r) y j rfl M H.2 (G y H.1)
      refine⟨dG γ made (fD a0 l vals l.length),by rw[(xH γ made _).1,(jE a0 l vals _).1];exact hN,by rw[(xH γ made _).2,(jE a0 l vals _).2];exact hd,λj o s A _ hds=>b0n γ j o s A hds,b0o γ,λj o s A E _ V=>(hlT j o A E V).elim,?_⟩;rw[aeQ];exact hQ γ w hC (λd hd=>O d hd (hmade d hd))
     .exact⟨b,inv.n aQ⟩
    obtain⟨b,hbs,hbd,hbn,hbo,hbt,hst⟩:=hB;have hag:∀s∈o.looksAt l.toArray,a.tmps[s]?=b.tmps[s]?:=λs hs=>by
     by_cases hex:∃(j:Nat) (B:aK),l.toArray[j]?=some B/\B.dst=some s
     .obtain⟨j,B,A,dj⟩:=hex;have hlj:=G j (ok.tl i j o B s ho hT hs A dj);by_cases E:j∈T
      .exact hbt j B s A E dj hlj
      .rw[inv.new j B s A E dj hlj,hbn j B s A E dj]
     .have a1:∀(j:Nat) (B:aK),l.toArray[j]?=some B->B.dst≠some s:=λj B A hd=>hex ⟨j,B,A,hd⟩
      rw[inv.oX s (λj B A _=>a1 j B A),hbo s a1]
    have hx:=pF o (λcs b=>ok.KL i o cs b ho) hag;have hgd:=ok.tg i o ho hT;have hdrop:(T.drop k).filterMap (λt=>l[t]?)=o::(T.drop (k+1)).filterMap (λt=>l[t]?):=by
     rw[acG hkl,aeV,hki,hol]
    rw[hdrop] at hst;unfold wpList at hst;rw[aaK (by unfold Region.wanted;rw[hgd])] at hst;have hwp:o.wp P b w (wpList P l.toArray (iE Q) ((T.drop (k+1)).filterMap λt=>l[t]?)) (iE Q):=hst.resolve_right (λh=>zQ h.2);have witT:∃w1,C w1/\∀d∈made,wL l.toArray (q.setIfInBounds i true) d->S d (γ d) w1:=by
     obtain⟨w1,hC1,hs1⟩:=inv.Ql;refine⟨w1,hC1,λd hd hL=>hs1 d hd (JW ho (λe=>?_) hL)⟩;obtain⟨j,B,A,hk,E⟩:=ok.has d hd;exact E (ok.lB i j o B d ho A e hk ▸ hT)
    have next:∀(ds:List _) (v:aC) (w':aA),wpList P l.toArray (iE Q) ((T.drop (k+1)).filterMap λt=>l[t]?) ({b with defers:=ds}.put o.dst v) w'->wpAny P .any l.toArray Q fuel (q.setIfInBounds i true) ({a with defers:=ds}.put o.dst v) w':=by
     intro ds v w' h;refine ih _ _ _ γ (k+1) ({b with defers:=ds}.put o.dst v) ⟨by simp[inv.size],closed',by rw[kW];exact inv.tK,hkl,λk' hk'=>?_,λk' hk' hk2=>?_,λj B s A E hd V=>?_,λs hs=>?_,λh=>absurd h aQ,witT,λ_=>⟨by rw[kW];exact hbs,by rw[mA,mA],λj B s A E hd=>?_,λs hs=>?_,λj B s A E hd V=>?_,h⟩⟩ hcn
     .by_cases e:k'=k
      .subst e;rw[hkD];simp[lF]
      .exact getD_set_true (inv.KN k' aQ)
     .have D:i≠T.getD k' 0:=λe=>by
       have M:∀m,k<m->m<T.length->T.getD m 0≠i:=by
        intro m hm hml e2;have H:=ok.row (m - 1) aQ;rw[show m - 1+1=m by omega,e2] at H;have h4:=p7 (G _ H);rw[inv.off (m - 1) aQ aQ] at h4;cases h4
       exact M k' aQ hk2 e.symm
      rw[getD_set_ne true D];exact inv.off k' aQ hk2
     .have I:i≠j:=λe=>E (by rw[<-e];exact hT)
      rw[getD_set_ne false I] at V;have D:o.dst≠some s:=λe=>I (ok.lB i j o B s ho A e hd)
      rw[gB _ _ _ _ D];exact inv.new j B s A E hd V
     .have h1:o.dst≠some s:=hs i o ho (by simp[lF]);rw[gB _ _ _ _ h1];exact inv.oX s λj B A V=>hs j B A (getD_set_true V)
     .have I:i≠j:=λe=>E (by rw[<-e];exact hT)
      have D:o.dst≠some s:=λe=>I (ok.lB i j o B s ho A e hd)
      rw[gB _ _ _ _ D];exact hbn j B s A E hd
     .rw[gB _ _ _ _ (hs i o ho)];exact hbo s hs
     .by_cases I:i=j
      .subst I;rw[ho] at A;injection A with A;subst A;rw[hd,qZ _ _ _ (by show s<a.tmps.size;rw[inv.tK];exact ok.size i o s ho hd),qZ _ _ _ (by show s<b.tmps.size;rw[hbs];exact ok.size i o s ho hd)]
      .rw[getD_set_ne false I] at V;have D:o.dst≠some s:=λe=>I (ok.lB i j o B s ho A e hd)
       rw[gB _ _ _ _ D,gB _ _ _ _ D];exact hbt j B s A E hd V
    unfold wpOp;simp only[ho];rw[aaK (by unfold Region.wanted;rw[hgd])];left
    unfold Oper.wp at hwp⊢;rw[hx];have ea:∀v,a.put o.dst v=({a with defers:=a.defers}:Act).put o.dst v:=λv=>rfl
    have eb:∀v,b.put o.dst v=({b with defers:=a.defers}:Act).put o.dst v:=λv=>by rw[hbd]
    generalize (execOp b.eval o).run P w=r at *;cases r with
    |ok n w'=>
     cases n <;> simp only[Oper.upon] at hwp⊢
     case value u=>rw[ea];exact next _ _ _ (by rw[<-eb];exact hwp)
     case skip=>rw[ea];exact next _ _ _ (by rw[<-eb];exact hwp)
     case row r args=>exact hwp.mono λv w'' h=>by rw[ea];exact next _ _ _ (by rw[<-eb];exact h)
     case enter f args=>
      refine hwp.mono λe w'' h=>?_
      cases e with
      |returned v=>simp only at h⊢;rw[ea];exact next _ _ _ (by rw[<-eb];exact h)
      |panicked c=>simp only[iE] at h
      |outgrown=>exact absurd h zQ
     rw[hbd];exact next _ _ _ hwp
    |halt x w'=>
     cases x <;> simp only[Oper.upon,iE] at hwp
   ·
    have hO:=hok i o hol;have hnT:∀k,k<T.length->T.getD k 0≠i:=λk hk e=>hT (by rw[<-e,kQ hk];exact aaM hk)
    have agree:∀s∈o.looksAt l.toArray,s∉made->a.tmps[s]?=(fD a0 l vals i).tmps[s]?:=λs hs hsm=>by
     by_cases hex:∃(j:Nat) (B:aK),l.toArray[j]?=some B/\B.dst=some s
     .obtain⟨j,B,A,dj⟩:=hex;have E:=ok.nl i j o B s ho hT hs A dj;rcases ok.look i j o B s ho A hs dj with⟨hlt,hw⟩|⟨hlt,hw⟩
      .rw[inv.new j B s A E dj (G j hw),aaL hsm];rw[uM a0 l vals s j B (by rw[<-hli];exact A) dj (by rw[hN];exact ok.size j B s A dj) (λj' o' hj' D J=>D (ok.lB j' j o' B s (by rw[hli];exact hj') A J dj)) i hlt]
      .have hnl:q.getD j false=true->False:=X j B A hw;rw[inv.oX s (λj' o' hj' hl' J=>by have:=ok.lB j' j o' B s hj' A J dj;subst this;exact hnl hl'),
        oH a0 l vals s i (λj' o' hlt' hj' J=>by have:=ok.lB j' j o' B s (by rw[hli];exact hj') A J dj;omega)]
     .have a1:∀(j:Nat) (B:aK),l.toArray[j]?=some B->B.dst≠some s:=λj B A hd=>hex ⟨j,B,A,hd⟩
      rw[inv.oX s (λj B A _=>a1 j B A),oH a0 l vals s i (λj B _ A=>a1 j B (by rw[hli];exact A))]
    have hlk:∀k∈l7 made l.toArray o,k∈made/\k∈o.looksAt l.toArray:=λk hk=>by
     have:=acW.1 hk;exact⟨this.1,by simpa using this.2⟩
    have hwr:∀k∈l7 made l.toArray o,wL l.toArray q k/\a.tmps[k]?=some (γ k):=λk hk=>by
     obtain⟨h1,M⟩:=hlk k hk;obtain⟨j,B,A,dj,hw⟩:=ok.Vh i o k ho hT M h1;have V:=G j hw;have E:=ok.nl i j o B k ho hT M A dj;refine⟨⟨j,B,A,dj,V⟩,?_⟩;rw[inv.new j B k A E dj V,aaK h1]
    have hag:∀k∈o.looksAt l.toArray,a.tmps[k]?=(dG γ (l7 made l.toArray o) (fD a0 l vals i)).tmps[k]?:=λk hk=>by
     by_cases hkm:k∈made
     .have hk2:k∈l7 made l.toArray o:=acW.2 ⟨hkm,by simpa using hk⟩;rw[(hwr k hk2).2,JI γ k _ _ hk2 (by rw[(jE a0 l vals i).1,hN];exact ok.KE k hkm)]
     .rw[zB γ k _ _ (λh=>hkm (hlk k h).1)];exact agree k hk hkm
    have hx:=pF o (λcs b=>ok.KL i o cs b ho) hag;have hw:Region.wanted o (yielded l.toArray a.tmps)=Region.wanted o (yielded l.toArray (fD a0 l vals i).tmps):=by
     unfold Region.wanted;cases hg:o.guard with
     |none=>rfl
     |some gb=>
      obtain⟨g,bb⟩:=gb;have:yielded l.toArray a.tmps g=yielded l.toArray (fD a0 l vals i).tmps g:=by
       unfold yielded;cases hd:(l.toArray[g]?).bind (·.dst) with
       |none=>rfl
       |some k=>
        have hk:k∈o.looksAt l.toArray:=by
         have hd2:=hd;simp only[aaY] at hd2;unfold Oper.looksAt;simp[hg,hd2]
        simp only[aeU,agree k hk (ok.Yu i o g bb k ho hT hg hd)]
      simp only[this]
    have hpz:yG made l.toArray o=false->p=0:=λhf=>by
     refine aa4 λD=>?_
     have h1:=inv.KN 0 aQ;have hT0:0<T.length:=by have:=inv.pl;omega
     have hh:T.headD 0=T.getD 0 0:=by cases T <;> rfl
     have hin:T.headD 0∈T:=by rw[hh,kQ hT0];exact aaM hT0
     rw[<-hh] at h1;rcases ok.fr i o ho hT with h|h|h|⟨pp,_,M,H,h4⟩
     .rw[hf] at h;cases h
     .rw[h] at hT0;cases hT0
     .exact X (T.headD 0) _ (abE (ok.SJ _ hin)) h h1
     .have:=AP inv.closed pp _ _ M H h4 h1;have h5:=p7 this;rw[hun] at h5;cases h5
    have cont:∀(v:aC) (γ':Nat->aC) (w':aA),(∀s,o.dst=some s->v=if s∈made then γ' s else vals i)->(∀d,o.dst≠some d->γ' d=γ d)->
     (p=0->C w'/\∀d∈made,wL l.toArray (q.setIfInBounds i true) d->S d (γ' d) w')->(0<p->w'=w/\γ'=γ)->wpAny P .any l.toArray Q fuel (q.setIfInBounds i true) (a.put o.dst v) w':=by
     intro v γ' w' hv hγ h0 h1;have wit':∃w1,C w1/\∀d∈made,wL l.toArray (q.setIfInBounds i true) d->S d (γ' d) w1:=by
      by_cases F:p=0
      .exact⟨w',(h0 F).1,(h0 F).2⟩
      .obtain⟨_,e2⟩:=h1 aQ;obtain⟨w1,hC1,hs1⟩:=inv.Ql;rw[e2];exact⟨w1,hC1,λd hd hL=>hs1 d hd (JW ho (λe=>F (hpz (by unfold yG;rw[YE e hd];simp))) hL)⟩
     refine ih _ _ _ γ' p b ⟨by simp[inv.size],closed',by rw[kW];exact inv.tK,inv.pl,λk' hk'=>getD_set_true (inv.KN k' hk'),λk' hk' hk2=>?_,λj B s A E hd V=>?_,λs hs=>?_,λF=>⟨(h0 F).1,by rw[mA];exact(inv.z F).2.1,(h0 F).2⟩,wit',λF=>?_⟩ hcn
     .rw[getD_set_ne true (λe=>hnT k' hk2 e.symm)];exact inv.off k' hk' hk2
     .by_cases I:i=j
      .subst I;rw[ho] at A;injection A with A;subst A;rw[hd,qZ _ _ _ (by rw[inv.tK];exact ok.size i o s ho hd),hv s hd]
      .rw[getD_set_ne false I] at V;have D:o.dst≠some s:=λe=>I (ok.lB i j o B s ho A e hd)
       rw[gB _ _ _ _ D,inv.new j B s A E hd V,hγ s D]
     .have h1:o.dst≠some s:=hs i o ho (by simp[lF]);rw[gB _ _ _ _ h1];exact inv.oX s λj B A V=>hs j B A (getD_set_true V)
     .obtain⟨Y,e2⟩:=h1 F;obtain⟨m1,m2,m3,m4,m5,m6⟩:=inv.n F;rw[Y,e2];refine⟨m1,by rw[mA];exact m2,m3,m4,λj B s A E hd V=>?_,m6⟩;have I:i≠j:=λe=>hT (by rw[e];exact E)
      rw[getD_set_ne false I] at V;have D:o.dst≠some s:=λe=>I (ok.lB i j o B s ho A e hd)
      rw[gB _ _ _ _ D];exact m5 j B s A E hd V
    have spw:∀d∈made,o.dst≠some d->wL l.toArray (q.setIfInBounds i true) d->wL l.toArray q d:=λd _ D h=>JW ho D h
    have same:(∀s,o.dst=some s->s∉made)->wpAny P .any l.toArray Q fuel (q.setIfInBounds i true) (a.put o.dst (vals i)) w:=λK=>
     cont (vals i) γ w (λs hs=>by rw[aaL (K s hs)]) (λ_ _=>rfl) (λF=>⟨(inv.z F).1,λd hd h=>(inv.z F).2.2 d hd (spw d hd (λe=>K d e hd) h)⟩) (λ_=>⟨rfl,rfl⟩)
    unfold wpOp;simp only[ho];rcases hO with hO|⟨hw1,hq⟩|⟨hw1,hv,a1⟩
    .exact absurd (by simpa using hO) hT
    .rw[aaK (hw.trans hw1)];left
     unfold Oper.wp;rw[hx];unfold PW at hq;have MR:p=0->∀U:aC->aA->Prop,(∀v w',Z i w w'->U v w'->wpAny P .any l.toArray Q fuel (q.setIfInBounds i true) (a.put o.dst v) w')->(∀v,U v w->wpAny P .any l.toArray Q fuel (q.setIfInBounds i true) (a.put o.dst v) w)->
      BL P (Z i) U w ((execOp (dG γ (l7 made l.toArray o) (fD a0 l vals i)).eval o).run P w)->
      Oper.upon P o a (wpAny P .any l.toArray Q fuel (q.setIfInBounds i true)) Q ((execOp (dG γ (l7 made l.toArray o) (fD a0 l vals i)).eval o).run P w):=by
      intro _ U hU _ hn;generalize (execOp (dG γ (l7 made l.toArray o) (fD a0 l vals i)).eval o).run P w=r at *;cases r with
      |ok n w'=>
       cases n <;> simp only[BL] at hn <;> simp only[Oper.upon]
       case value u=>exact hU u w' hn.1 hn.2
       case skip=>exact hU undef w' hn.1 hn.2
       case enter f args=>obtain⟨Y,hc1⟩:=hn;rw[Y];exact hc1.mono λe w'' ⟨v,he,h1,M⟩=>by subst he;exact hU v w'' h1 M
      |halt x w'=>simp only[BL] at hn
     have turned:∀w',Z i w w'->C w->C w':=λw' hz hC=>hZ i w w' hC hz
     cases hnd:pN made o with
     |some d=>
      rw[hnd] at hq;simp only at hq;obtain⟨hd,hm⟩:=Mp hnd;have F:=hpz (by unfold yG;rw[hnd];simp);obtain⟨hC,_,O⟩:=inv.z F;have go:∀v w',Z i w w'->S d v w'->wpAny P .any l.toArray Q fuel (q.setIfInBounds i true) (a.put o.dst v) w':=λv w' hz hs=>
       cont v (λW=>if o.dst=some W then v else γ W) w' (λs R=>by rw[hd] at R;injection R with R;subst R;rw[aaK hm,aaK hd]) (λW D=>by rw[aaL D])
        (λ_=>⟨turned w' hz hC,λW J hL=>by
         by_cases e:o.dst=some W
         .rw[aaK e];rw[hd] at e;injection e with e;subst e;exact hs
         .rw[aaL e];exact hS i W J (by simp[eW,hol];exact e) _ _ _ hC (O W J (spw W J e hL)) hz⟩) (λh=>absurd h aQ)
      exact MR F (S d) go (λv hs=>cont v (λW=>if o.dst=some W then v else γ W) w (λs R=>by rw[hd] at R;injection R with R;subst R;rw[aaK hm,aaK hd]) (λW D=>by rw[aaL D])
       (λ_=>⟨hC,λW J hL=>by
        by_cases e:o.dst=some W
        .rw[aaK e];rw[hd] at e;injection e with e;subst e;exact hs
        .rw[aaL e];exact O W J (spw W J e hL)⟩) (λh=>absurd h aQ)) (hq.2 γ w hC (λk hk=>O k (hlk k hk).1 (hwr k hk).1))
     |none=>
      rw[hnd] at hq;simp only at hq;have K:∀s,o.dst=some s->s∉made:=λs hs=>Mr hnd hs
      have keepZ:p=0->∀w',Z i w w'->wpAny P .any l.toArray Q fuel (q.setIfInBounds i true) (a.put o.dst (vals i)) w':=λF w' hz=>by
       obtain⟨hC,_,O⟩:=inv.z F;exact cont (vals i) γ w' (λs hs=>by rw[aaL (K s hs)]) (λ_ _=>rfl) (λ_=>⟨turned w' hz hC,λd hd h=>by
        have D:o.dst≠some d:=λe=>K d e hd
        exact hS i d hd (by simp[eW,hol];exact D) _ _ _ hC (O d hd (spw d hd D h)) hz⟩) (λh=>absurd h aQ)
      by_cases hlk0:l7 made l.toArray o= []
      .rw[aaK hlk0] at hq;rw[hlk0];simp only[dG];by_cases hf:jS o=true
       .rw[aaK hf] at hq;have H:=hq w ⟨⟨w⟩,rfl⟩;have hpl:=CX hf;unfold Oper.quietAt at H;have D:=λw' f args=>nH (P:=P) hpl (fD a0 l vals i).eval w w' f args
        generalize (execOp (fD a0 l vals i).eval o).run P w=r at *;cases r with
        |ok n w'=>
         cases n <;> simp only[Oper.quietUpon] at H <;> simp only[Oper.upon]
         case value u=>obtain⟨Y,e2⟩:=H;rw[Y,e2];exact same K
         case skip=>obtain⟨Y,e2⟩:=H;rw[Y,<-e2];exact same K
         case enter f args=>exact absurd rfl (D w' f args)
        |halt x w'=>simp only[Oper.quietUpon] at H
       .rw[aaL hf] at hq;have F:=hpz (by unfold yG;simp at hf;rw[hf];rfl);obtain⟨hC,_,O⟩:=inv.z F;by_cases hc:oD o=true
        .rw[aaK hc] at hq;have H:SH P (Z i) w (vals i) ((execOp (fD a0 l vals i).eval o).run P w):=hq ⟨w,hC⟩;generalize (execOp (fD a0 l vals i).eval o).run P w=r at *;cases r with
         |ok n w'=>
          cases n <;> simp only[SH] at H <;> simp only[Oper.upon]
          case value u=>obtain⟨Y,e2⟩:=H;rw[Y,e2];exact same K
          case enter f args=>
           obtain⟨Y,hc1⟩:=H;rw[Y];exact hc1.mono λe w'' ⟨he,hb⟩=>by subst he;exact keepZ F w'' hb
         |halt x w'=>simp only[SH] at H
        .rw[aaL hc] at hq;have H:=hq w ⟨⟨w,hC⟩,rfl⟩;have hpl:plain o=true:=by
          rcases ok.pl i o ho hT with h|h|h|h
          .exact h
          .exact absurd h hc
          .rw[hnd] at h;cases h
          .exact absurd hlk0 h
         unfold Oper.quietAt at H;have D:=λw' f args=>nH (P:=P) hpl (fD a0 l vals i).eval w w' f args
         generalize (execOp (fD a0 l vals i).eval o).run P w=r at *;cases r with
         |ok n w'=>
          cases n <;> simp only[Oper.quietUpon] at H <;> simp only[Oper.upon]
          case value u=>obtain⟨Y,e2⟩:=H;rw[Y,e2];exact same K
          case skip=>obtain⟨Y,e2⟩:=H;rw[Y,<-e2];exact same K
          case enter f args=>exact absurd rfl (D w' f args)
         |halt x w'=>simp only[Oper.quietUpon] at H
      .rw[aaL hlk0] at hq;by_cases hf:jS o=true
       .rw[aaK hf] at hq;obtain⟨w1,hC1,hs1⟩:=inv.Ql;have H:=hq γ w1 hC1 (λk hk=>hs1 k (hlk k hk).1 (hwr k hk).1) w;have hpl:=CX hf;have D:=λw' f args=>nH (P:=P) hpl (dG γ (l7 made l.toArray o) (fD a0 l vals i)).eval w w' f args
        generalize (execOp (dG γ (l7 made l.toArray o) (fD a0 l vals i)).eval o).run P w=r at *;cases r with
        |ok n w'=>
         cases n <;> simp only[BL] at H <;> simp only[Oper.upon]
         case value u=>obtain⟨Y,e2⟩:=H;rw[Y,e2];exact same K
         case skip=>obtain⟨Y,e2⟩:=H;rw[Y,e2];exact same K
         case enter f args=>exact absurd rfl (D w' f args)
        |halt x w'=>simp only[BL] at H
       rw[aaL hf] at hq;have F:=hpz (by unfold yG;simp at hf;rw[hf];rfl);obtain⟨hC,_,O⟩:=inv.z F;exact MR F (λu _=>u=vals i) (λv w' hz hv=>by rw[hv];exact keepZ F w' hz) (λv hv=>by rw[hv];exact same K) (hq γ w hC (λk hk=>O k (hlk k hk).1 (hwr k hk).1))
    .rw[aaL (by rw[hw,hw1];simp)];by_cases K:∃d,o.dst=some d/\d∈made
     .obtain⟨d,hd,hm⟩:=K;have hnd:=YE hd hm;have F:=hpz (by unfold yG;rw[hnd];simp);obtain⟨hC,_,O⟩:=inv.z F;exact cont undef (λW=>if o.dst=some W then undef else γ W) w (λs R=>by rw[hd] at R;injection R with R;subst R;rw[aaK hm,aaK hd]) (λW D=>by rw[aaL D])
       (λ_=>⟨hC,λW J hL=>by
        by_cases e:o.dst=some W
        .rw[aaK e];rw[hd] at e;injection e with e;subst e;exact a1 d hnd w hC
        .rw[aaL e];exact O W J (spw W J e hL)⟩) (λh=>absurd h aQ)
     .have:=same (λs hs hm=>K ⟨s,hs,hm⟩);rw[hv] at this;exact this
theorem bS{a:Act}(C:aA->Prop)(Z:Nat->aA->aA->Prop)(made:List Nat)(S:Nat->aC->aA->Prop)(T:List Nat)(pt:List (List Nat))(N:Nat)(n:C w0.drew)(q:∀i w w',C w->Z i w w'->C w')
 (r:∀i,∀d∈made,eW l.toArray i≠some d->∀v w w',C w->S d v w->Z i w w'->S d v w') (hm:P.follows .mixedOrders=true) (u:PY T made pt N l.toArray=true) (p:a.tmps.size=N)
 (h:oR P l.toArray T C Z made S (λx=>∀(γ:Nat->aC) (w:aA),C w->(∀d∈made,S d (γ d) w)->wpList P l.toArray (iE Q) (T.filterMap λt=>l[t]?) (dG γ made x) w) 0 l a):
 (Code.region id l.toArray true).wp P Q a w0:=by
 have ok:=YD u;obtain⟨vals,g,c⟩:=Lc l 0 a h;refine wp_region_any hm ?_;have e:∀j,(Array.replicate l.toArray.size false).getD j false=true->False:=λj f=>by rw[getD_replicate_false] at f;cases f
 refine Y9 (vals:=vals) q r ok p (λj o f=>by have:=g j o f;rwa [abQ] at this) c l.toArray.size _ a _ (λ_=>undef) 0 a ⟨aT,λj y _ b=>(e j b).elim,p,aaQ _,λk hk=>absurd hk (acK _),λk _ hk=>?_,λj o s _ _ _ b=>(e j b).elim,λs _=>rfl,λ_=>⟨n,rfl,λd _ ⟨j,o,_,_,b⟩=>(e j b).elim⟩,⟨_,n,λd _ ⟨j,o,_,_,b⟩=>(e j b).elim⟩,λh=>absurd h (acA _)⟩ (by simp[nP]);have m:T.getD k 0<l.toArray.size:=ok.SJ _ (by rw[kQ hk];exact aaM hk);exact getD_in (by simpa using m) (getD_replicate_false _ _)
variable{ops:Array aK}{Qf:Act->Prop}{o:aK}{rest:List aK}{a:Act}{i:Nat}
theorem ZD(b:T.contains i=true)(h:oR P ops T C Z made S Qf (i+1) rest (a.put o.dst undef)):oR P ops T C Z made S Qf i (o::rest) a:=by
 unfold oR;rw[aaK b];exact h
theorem UY(b:T.contains i=false)(hk:pN made o=none)(c:l7 made ops o= [])(d:jS o=true)(hw:Region.wanted o (yielded ops a.tmps)=true)(h:∀K:Act->Prop,(∀a,oR P ops T C Z made S Qf (i+1) rest a->K a)->o.quiet P a (λw=>∃n:CQ,w=n.w) K):oR P ops T C Z made S Qf i (o::rest) a:=by
 obtain⟨v,h1,e⟩:=h _ (λ_ h=>h);unfold oR;rw[aaL (by rw[b];simp),aaK hw];refine⟨v,?_,e⟩;unfold PW;rw[hk];simp only;rw[aaK c,aaK d];exact h1
theorem Pu(b:T.contains i=false)(hk:pN made o=none)(c:l7 made ops o= [])(d:jS o=false)(hc:oD o=false)(hw:Region.wanted o (yielded ops a.tmps)=true)(h:∀K:Act->Prop,(∀a,oR P ops T C Z made S Qf (i+1) rest a->K a)->o.quiet P a (λw=>∃n:CW C,w=n.w) K):oR P ops T C Z made S Qf i (o::rest) a:=by
 obtain⟨v,h1,e⟩:=h _ (λ_ h=>h);unfold oR;rw[aaL (by rw[b];simp),aaK hw];refine⟨v,?_,e⟩;unfold PW;rw[hk];simp only;rw[aaK c,d,hc];exact h1
theorem VC(b:T.contains i=false)(hk:pN made o=none)(c:l7 made ops o= [])(hc:oD o=true)(hw:Region.wanted o (yielded ops a.tmps)=true)(h:∀K:Act->Prop,(∀a,oR P ops T C Z made S Qf (i+1) rest a->K a)->∃v,(∀n:CW C,SH P (Z i) n.w v ((execOp a.eval o).run P n.w))/\K (a.put o.dst v)):oR P ops T C Z made S Qf i (o::rest) a:=by
 obtain⟨v,h1,d⟩:=h _ (λ_ h=>h);unfold oR;rw[aaL (by rw[b];simp),aaK hw];refine⟨v,?_,d⟩;unfold PW;rw[hk];simp only;have e:jS o=false:=by
  obtain⟨dst,op,ty,pos,after,guard⟩:=o;cases op <;> simp_all[jS,oD]
 rw[aaK c,e,aaL aT,aaK hc];exact h1
theorem Lr(b:T.contains i=false)(hk:pN made o=none)(hw:Region.wanted o (yielded ops a.tmps)=false)(h:oR P ops T C Z made S Qf (i+1) rest (a.put o.dst undef)):oR P ops T C Z made S Qf i (o::rest) a:=by
 unfold oR;rw[aaL (by rw[b];simp),aaL (by rw[hw];simp)];exact⟨(λd hd=>by rw[hk] at hd;cases hd),h⟩
theorem JT(d:Nat)(ks:List Nat)(b:T.contains i=false)(hk:pN made o=some d)(c:l7 made ops o=ks)(hw:Region.wanted o (yielded ops a.tmps)=true)
 (h1:∀(γ:Nat->aC) (w:aA),C w->(∀k∈ks,S k (γ k) w)->BL P (Z i) (S d) w ((execOp (dG γ ks a).eval o).run P w)) (h:oR P ops T C Z made S Qf (i+1) rest (a.put o.dst undef)):oR P ops T C Z made S Qf i (o::rest) a:=by
 subst c;unfold oR;rw[aaL (by rw[b];simp),aaK hw];refine⟨undef,?_,h⟩;unfold PW;rw[hk];exact⟨rfl,h1⟩
theorem eL(h:Qf a):oR P ops T C Z made S Qf i [] a:=h
end
theorem bF{p:Addr}{v:aC}(c:W.cell? p=some v):∀n:CW (bV W),n.w.cell? p=some v:=λn=>bD n.ok c
instance Wh (W:aA):Nonempty (CW (bV W)):=⟨⟨W,Below.refl _ _⟩⟩
theorem cM(W:aA):bV W W.drew:=(Below.refl W W).drew
theorem bZ{a b c:aA}(h:bV a b)(k:bV b c):bV a c:=dQ h (aaH _) k
theorem DD{R:aA->aA->Prop}{v:aC}(h1:R w w')(b:U v w'):BL P R U w (.ok (.value v) w'):=⟨h1,b⟩
end
end
end Go.Proofs.YtacgiflhgdaeaaaGreat
