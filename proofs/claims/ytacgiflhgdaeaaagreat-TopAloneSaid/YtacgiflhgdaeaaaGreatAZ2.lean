/- Texts laid as one. -/
import Derived.Lib.SlicesDelete
import Derived.Lib.SliceRun
import Derived.Laws.IdiomCopy
import Derived.Deep.RegionLaw
import Derived.Deep.MidRow
import Derived.StillTail
import Derived.Test.YtacgiflhgdaeaaaGreatAZ1
set_option linter.unusedVariables false
set_option linter.unusedSimpArgs false
set_option maxRecDepth 100000
set_option maxHeartbeats 20000000
namespace Go.Proofs.YtacgiflhgdaeaaaGreat
open Go.Proofs.Tryz
open Go renaming World->aA,Value->aC,Oper->aK,TypeId->aN,Program->aO,Calls->aG
open Go.RowKit renaming Below->aD
section
open Go.RowKit Go.Lib
variable{w:aA}{g:Nat}{P:aO}
section
theorem iX(g:Nat)(t:aN):∀(a:List aC) (o:Nat) (w:aA) (cur:Array aC),w.heap[g]?=some (.cells cur t (0,0))->(w.setCells g o a).heap[g]?=some (.cells (lay cur o a) t (0,0))
 | [],_,_,_,h=>h
 |v::r,o,w,cur,h=>by
  rw[World.setCells,lay];exact iX g t r (o+1) _ _ (by simp[World.setCell,adN,h])
theorem fJ(g:Nat):∀(b:List aC) (o:Nat) (a w:aA),a.grownBy w (some g)->a.grownBy (w.setCells g o b) (some g)
 | [],_,_,_,h=>h
 |v::r,o,a,w,h=>fJ g r (o+1) a _ (aZ h o v)
section
variable{α:Type}{enc:α->List aC}{sz:Nat}
theorem NH(he:∀x,(enc x).length=sz)(xs:List α)(i:Nat):(xs.take i).flatMap enc=(xs.flatMap enc).take (i *sz):=by
 induction xs generalizing i with
 |nil=>simp
 |cons x xs a=>
  cases i with
  |zero=>simp
  |succ i=>
   rw[adH,aa0,aa0,List.take_append,a,he,show(i+1) *sz - sz=i *sz by rw[acF];omega,aaS (l:=enc x) (by rw[he,acF];omega)]
theorem oE(he:∀x,(enc x).length=sz)(xs:List α)(i:Nat):(xs.drop i).flatMap enc=(xs.flatMap enc).drop (i *sz):=by
 induction xs generalizing i with
 |nil=>simp
 |cons x xs a=>
  cases i with
  |zero=>simp
  |succ i=>
   rw[adI,aa0,List.drop_append,a,he,show(i+1) *sz - sz=i *sz by rw[acF];omega,show(enc x).drop ((i+1) *sz)= [] from aeA (by rw[he,acF];omega),adF]
theorem Et(cur:Array aC)(F zs:List aC)(i k sz c:Nat)(hF:F.length=(i+1+k) *sz)(hc:i+1+k<=c)(hs:cur.size=c *sz)(a:cur.toList.take ((i+1+k) *sz)=F)(b:zs.length=sz):
 (lay (lay cur (i *sz) (F.drop ((i+1) *sz))) ((i+k) *sz) zs).toList.take ((i+k) *sz)=F.take (i *sz)++F.drop ((i+1) *sz):=by
 have e:(i+1+k) *sz=i *sz+sz+k *sz:=by rw[acF,acF,adP]
 have f:(i+k) *sz=i *sz+k *sz:=acF _ _ _;have g:(i+1) *sz=i *sz+sz:=by rw[acF,adP]
 have h:(i+1+k) *sz<=c *sz:=abU _ hc;have hd:(F.drop ((i+1) *sz)).length=k *sz:=by rw[acM,hF];omega
 apply adD;intro j;rw[aa7];by_cases h1:j<(i+k) *sz
 .rw[Zz h1,aaX,lay_get? _ _ _ _ (by rw[lay_size,b];omega),aaA aQ,lay_get? _ _ _ _ (by rw[hd];omega),hd];by_cases d:j<i *sz
  .rw[aaA aQ,aaV (by rw[abJ,hF];omega),aa7,Zz d,<-a,aa7,Zz aQ,aaX]
  .rw[Zz aQ,aaJ (by rw[abJ,hF];omega),abJ,hF,Nat.min_eq_left aQ]
 .rw[aaA h1,abR];rw[aaM,abJ,hd,hF];omega
theorem eV{base:Nat}{e:aN}{c:Nat}{xs:List α}(h:bI enc sz w base e g c xs):
 ∃cur,base<=g/\w.heap[g]?=some (.cells cur e (0,0))/\xs.length<=c/\c<=maxLen/\cur.size=c *sz/\cur.toList.take (xs.length *sz)=xs.flatMap enc:=by
 rcases h.2 with⟨a,_⟩|⟨i,b,cur,a,d,a2,a3,a4,a5,f⟩
 .simp at a
 .simp only[Value.slice.injEq,aeB,Addr.mk.injEq,and_true,ab7] at a;obtain⟨rfl,rfl⟩:=a;exact⟨cur,d,a2,a3,a4,a5,f⟩
theorem cZ{base:Nat}{e:aN}{c:Nat}{xs:List α}(h:bI enc sz w base e g c xs)(j:Nat)(b:j<c *sz):(w.cell? (g,j)).isSome=true/\w.frozen? (g,j)=false:=by
 obtain⟨cur,_,a,_,_,d,_⟩:=eV h;refine⟨?_,by simp[World.frozen?,a]⟩;rw[cell_of_row w g j cur e (0,0) a,abO aQ];rfl
theorem tG{base:Nat}{e:aN}{c:Nat}{xs:List α}(he:∀x,(enc x).length=sz)(h:bI enc sz w base e g c xs)(i k:Nat)(b:xs.length=i+1+k)(zs:List aC)(d:zs.length=sz):
 bI enc sz ((w.setCells g (i *sz) ((xs.drop (i+1)).flatMap enc)).setCells g ((i+k) *sz) zs) base e g c (xs.eraseIdx i)/\w.grownBy ((w.setCells g (i *sz) ((xs.drop (i+1)).flatMap enc)).setCells g ((i+k) *sz) zs) (some g):=by
 obtain⟨cur,f,a2,a3,a4,a5,j⟩:=eV h;refine⟨?_,fJ g _ _ _ _ (fJ g _ _ _ _ (bK w g))⟩;have hl:(xs.eraseIdx i).length=i+k:=by rw[ab2,Zz aQ];omega
 have a:=eZ he xs;refine⟨eZ he _, .inr ⟨g,c,_,rfl,f,iX g e _ _ _ _ (iX g e _ _ _ _ a2),aQ,a4,by rw[lay_size,lay_size,a5],?_⟩⟩;rw[hl,List.eraseIdx_eq_take_drop_succ,adG,NH he,oE he];exact Et cur _ zs i k sz c (by rw[a,b]) aQ a5 (by rw[<-b];exact j) d
end
theorem lE(w:aA)(t e ty:aN)(z:aC)(f:P.underlying t=some (.slice e))(g:∀w,(zeroValue e).run P w= .ok z w)(zs:List aC)(h:(Builtin.zeroCells z.cells 1).toList=zs)(h1:∀u∈zs,u.oneCell'=true)(b o n c:Nat)(i:n=1)
 (hc:∀j,j<zs.length->(w.cell? ⟨b,o+j,none⟩).isSome=true/\w.frozen? ⟨b,o+j,none⟩=false):
 (Builtin.clear_ #[t] ty #[.slice (some ⟨b,o,none⟩) n c]).run P w= .ok (.tuple #[]) (w.setCells b o zs):=by
 subst i;have a:=run_storeCells_cells (P:=P) b o zs 0 w (λj d=>(hc j d).1) (λj d=>(hc j d).2) h1;simp only[aaU] at a;simp[Builtin.clear_,run_underlying f,g,h,a]
end
variable{n i:Nat}{Q:Exit->Act->aA->Prop}{cs:Array aC}
section
theorem Lu(cur:Array aC)(L:List aC)(h:cur.size=L.length):lay cur 0 L=L.toArray:=by
 apply ad5;intro j;rw[lay_get? _ _ _ _ aQ];by_cases a:j<L.length
 .rw[Zz aQ,Nat.sub_zero,aaR]
 .rw[aaA aQ,ac4 aQ,aaR,abR aQ]
section
variable{w:aA}{g:Nat}{t:aN}{cur:Array aC}
theorem bF.fill(h:bF w g t cur)(L:List aC)(hl:cur.size=L.length):bF (w.setCells g 0 L) g t L.toArray:=by
 have:=iX g t L 0 w cur h;rw[Lu cur L hl] at this;exact this
theorem bF.there(h:bF w g t cur)(a:n<=cur.size):w.there g 0 n:=λj b=>by
 rw[aa8];refine⟨?_,h.frozen j⟩;rw[h.cell j _ (abO aQ)];rfl
theorem bF.range{L:List aC}(h:bF w g t L.toArray):w.rangeAt g 0 L:=λj v a=>by
 rw[aa8];exact h.cell j v (by rw[aaR];exact a)
end
theorem size_setCells(g:Nat):∀(a:List aC) (o:Nat) (w:aA),(w.setCells g o a).heap.size=w.heap.size
 | [],_,_=>rfl
 |v::r,o,w=>by rw[World.setCells,size_setCells g r (o+1)];simp[World.setCell]
theorem F8(w:aA)(g i:Nat)(ty:aN)(v:aC)(hi:(P.info? ty).map (·.size)=some 1)(h1:v.oneCell'=true)(hc:w.there g i 1):(storeVar ty ⟨g,i,none⟩ v).run P w= .ok () (w.setCell (g,i) v):=by
 have:=run_storeCells_cells (P:=P) g i [v] 0 w (λj a=>by simpa using (hc j (by simpa using a)).1) (λj a=>by simpa using (hc j (by simpa using a)).2) (λx c=>by simp at c;subst c;exact h1);have b:v.cells=#[v]:=by cases v <;> first|rfl|cases h1
 cases hq:P.info? ty with
 |none=>simp[hq] at hi
 |some u=>
  have hs:u.size=1:=by simpa[hq] using hi
  simp only[aaU] at this;simp[storeVar,sizeOf,typeInfo,hq,b,hs,this];rfl
theorem dS{ops:Array aK}{rest:List aK}{op:aK}{a:Act}(w:aA)(b:op.guard=none)(ty:aN)(x y:Operand)(ho:op.op= .store ty x y)(g i:Nat)(v:aC)
 (c:a.eval x= .pointer (some ⟨g,i,none⟩)) (d:a.eval y=v) (hi:(P.info? ty).map (·.size)=some 1) (h1:v.oneCell'=true) (hc:w.there g i 1)
 (h:wpList P ops Q rest (a.put op.dst undef) (w.setCell (g,i) v)):wpList P ops Q (op::rest) a w:=
 wpList_plain b λ_ hK=>by
  unfold Oper.wp execOp;simp only[ho,c,d,Instr.storeAt,Instr.sureAddr,Sem.run_bind,Sem.run_pure,Result.andThen_ok,F8 w g i ty v hi h1 hc];exact hK _ _ h
theorem bF.one{t:aN}(h:bF w g t cs)(hi:i<cs.size):w.there g i 1:=λj a=>by
 obtain rfl:j=0:=aQ;rw[aaU];refine⟨?_,h.frozen i⟩;rw[h.cell i _ (abO hi)];rfl
end
end
section
open Go.RowKit
variable{W w:aA}{v:aC}{P:aO}{f:FuncId}{id:Nat}{Q:Exit->Act->aA->Prop}
section
structure bZ(W:aA) where
 w:aA
 ok:aD W W w
instance Tu (W:aA):Nonempty (bZ W):=⟨⟨W,Below.refl _ _⟩⟩
theorem bZ.cell{p:Addr}(c:W.cell? p=some v):∀n:bZ W,n.w.cell? p=some v:=λn=>bG n.ok c
theorem bZ.below(h:∃n:bZ W,w=n.w):aD W W w:=by
 obtain⟨n,rfl⟩:=h;exact n.ok
theorem iL{args:Array aC}{n:bZ W}(h:aG P f args n.w λe w'=>e= .returned v/\aD n.w.heap.size n.w w'):
 aG P f args n.w λe a=>e= .returned v/\∃m:bZ W,a=m.w:=
 h.mono λ_ w' ⟨he,hb⟩=>⟨he,⟨w',fK n.ok (Zw _) hb⟩,rfl⟩
theorem pF{args:Array aC}{n:bZ W}(h:aG P f args n.w λe w'=>e= .returned v/\n.w=w'):
 aG P f args n.w λe a=>e= .returned v/\∃m:bZ W,a=m.w:=
 h.mono λ_ _ ⟨he,hb⟩=>⟨he,n,hb.symm⟩
theorem dB{a:Act}{l:List aK}(hm:P.follows .mixedOrders=true)(b:Region.lexB .any l.toArray=true)
 (h:wpQuiet P l.toArray (λw'=>∃n:bZ W,w'=n.w) (λa'=>∀w',(∃n:bZ W,w'=n.w)->Q .normal a' w') l a):(Code.region id l.toArray true).wp P Q a W:=
 wp_region_quiet (C:=λw'=>∃n:bZ W,w'=n.w) hm b ⟨⟨_,(Below.refl _ _).drew⟩,rfl⟩ (by simpa using h)
end
structure Mk where
 t:aN
 val:Nat->aC
 c0:Array aC
 c1:Array aC
inductive Kd where
 |q
 |m (d:Nat)
 |s (d:Nat)
def kd(made:List Nat)(o:aK):Kd:=
 match o.op with
 | .alloc _=>match o.dst with
  |some d=>if made.contains d then .m d else .q
  |none=> .q
 | .store _ (.tmp d) _=>if made.contains d then .s d else .q
 |_=> .q
def wY(o:aK):Bool:=match o.op with
 | .call _=>true
 |_=>false
def plain(o:aK):Bool:=match o.op with
 | .move _| .assign _| .pick _ _ _| .build _ _| .load _ _| .binOp _ _ _ _ _| .unOp _ _ _| .convert _ _ _| .slice _ _ _ _ _| .fieldAddr _ _ _| .field _ _ _| .indexAddr _ _ _| .index _ _ _| .extract _ _| .nilCheck _=>true
 |_=>false
section
variable{P:aO}{W:aA}
def kG(a:Act)(l:List aK)(vals:Nat->aC):Nat->Act
 |0=>a
 |j+1=>match l[j]? with
  |some o=>(kG a l vals j).put o.dst (vals j)
  |none=>kG a l vals j
theorem I3(a:Act)(o:aK)(l:List aK)(vals:Nat->aC):∀j,kG a (o::l) vals (j+1)=kG (a.put o.dst (vals 0)) l (λi=>vals (i+1)) j
 |0=>rfl
 |j+1=>by
  rw[kG];have:(o::l)[j+1]?=l[j]?:=rfl;rw[this,I3 a o l vals j];rfl
theorem WS{a b:Act}{k:Nat}(h:a.tmps[k]?=b.tmps[k]?):a.eval (.tmp k)=b.eval (.tmp k):=by
 simp[Act.eval,adW,h]
theorem JR{a b:Act}{ops:Array aK}(o:aK)(hs:∀cs b,o.op≠ .select cs b)(h:∀k∈o.looksAt ops,a.tmps[k]?=b.tmps[k]?):execOp a.eval o=execOp b.eval o:=by
 refine execOp_congr o hs λx c=>?_
 cases x with
 |tmp k=>exact WS (h k (by unfold Oper.looksAt;exact adB _ (acO.2 ⟨.tmp k,by simpa using c,rfl⟩)))
 |_=>rfl
theorem mM(a:Act)(dst:Option Nat)(v:aC)(k:Nat)(h:dst≠some k):(a.put dst v).tmps[k]?=a.tmps[k]?:=by
 cases dst with
 |none=>rfl
 |some d=>
  have:d≠k:=λe=>h (by rw[e])
  simp[Act.put,Array.getElem?_setIfInBounds_ne this]
theorem vJ(a:Act)(dst:Option Nat)(v:aC):(a.put dst v).tmps.size=a.tmps.size:=by cases dst <;> simp[Act.put]
theorem vK(a:Act)(dst:Option Nat)(v:aC):(a.put dst v).defers=a.defers:=by cases dst <;> rfl
theorem D9(a:Act)(k:Nat)(v:aC)(h:k<a.tmps.size):(a.put (some k) v).tmps[k]?=some v:=by simp[Act.put,h]
theorem pG(a:Act)(l:List aK)(vals:Nat->aC):∀n,(kG a l vals n).tmps.size=a.tmps.size/\(kG a l vals n).defers=a.defers
 |0=>⟨rfl,rfl⟩
 |n+1=>by
  unfold kG;split
  .exact⟨by rw[vJ];exact(pG a l vals n).1,by rw[vK];exact(pG a l vals n).2⟩
  .exact pG a l vals n
theorem BA(a:Act)(l:List aK)(vals:Nat->aC)(k:Nat):∀n,(∀j o,j<n->l[j]?=some o->o.dst≠some k)->(kG a l vals n).tmps[k]?=a.tmps[k]?
 |0,_=>rfl
 |n+1,h=>by
  unfold kG;split
  .rename_i o ho;rw[mM _ _ _ _ (h n o aQ ho)];exact BA a l vals k n λj c d b=>h j c aQ b
  .exact BA a l vals k n λj c d b=>h j c aQ b
theorem FI(a:Act)(l:List aK)(vals:Nat->aC)(k i:Nat)(c:aK)(hi:l[i]?=some c)(hd:c.dst=some k)(hk:k<a.tmps.size)
 (b:∀j o,l[j]?=some o->j≠i->o.dst≠some k):∀n,i<n->(kG a l vals n).tmps[k]?=some (vals i)
 |0,h=>by omega
 |n+1,h=>by
  unfold kG;by_cases d:n=i
  .subst d;simp only[hi,hd];exact D9 _ _ _ (by rw[(pG a l vals n).1];exact hk)
  .split
   .rename_i o ho;rw[mM _ _ _ _ (b n o ho d)];exact FI a l vals k i c hi hd hk b n aQ
   .exact FI a l vals k i c hi hd hk b n aQ
end
variable{i:Nat}{ba:Array Bool}
section
def jQ(ops:Array aK)(j:Nat):Option Nat:=(ops[j]?).bind (·.dst)
def Zt(made:List Nat)(ops:Array aK)(i:Nat):Option Nat:=match ops[i]? with
 |some o=>match kd made o with
  | .s d=>some d
  |_=>none
 |none=>none
def Jn(ops:Array aK)(i:Nat):Bool:=match ops[i]? with
 |some o=>(o.looksAt ops).all λk=>(List.range ops.size).all λj=>jQ ops j !=some k || (decide (j<i)&&Region.waitsFor .any ops i j) || (decide (i<j)&&Region.waitsFor .any ops j i)
 |none=>true
def Jf(ops:Array aK)(i:Nat):Bool:=match ops[i]? with
 |some o=>o.after.all λe=>!Region.binds .any e || decide (e.on<i)
 |none=>true
structure Yy(made:List Nat)(N:Nat)(ops:Array aK):Prop where
 Jm:∀(j:Nat) (o:aK) cs b,ops[j]?=some o->o.op≠ .select cs b
 xB:∀(i j:Nat) (oi oj:aK) (k:Nat),ops[i]?=some oi->ops[j]?=some oj->oi.dst=some k->oj.dst=some k->i=j
 back:∀(i:Nat) (o:aK),ops[i]?=some o->∀e∈o.after,Region.binds .any e=true->e.on<i
 look:∀(i j:Nat) (oi oj:aK) (k:Nat),ops[i]?=some oi->ops[j]?=some oj->k∈oi.looksAt ops->oj.dst=some k->(j<i/\Region.waitsFor .any ops i j=true)\/(i<j/\Region.waitsFor .any ops j i=true)
 kq:∀(i:Nat) (o:aK),ops[i]?=some o->kd made o= .q->(∀k∈o.looksAt ops,k∉made)/\(∀d,o.dst=some d->d∉made)/\(plain o=true\/wY o=true)
 km:∀(i:Nat) (o:aK) (d:Nat),ops[i]?=some o->kd made o= .m d->o.dst=some d/\d∈made/\o.guard=none/\(∀k∈o.looksAt ops,k∉made)
 ks:∀(i:Nat) (o:aK) (d:Nat),ops[i]?=some o->kd made o= .s d->d∈made/\d∈o.looksAt ops/\o.guard=none/\o.dst=none/\(∀k∈o.looksAt ops,k=d\/k∉made)/\∃(j:Nat) (oj:aK),ops[j]?=some oj/\kd made oj= .m d/\Region.waitsFor .any ops i j=true
 Pd:∀(i j:Nat) (oi oj:aK) (d:Nat),ops[i]?=some oi->ops[j]?=some oj->kd made oi= .s d->kd made oj= .s d->i=j
 Zn:∀d∈made,∃(j:Nat) (oj:aK),ops[j]?=some oj/\kd made oj= .m d
 Zo:∀d∈made,∃(j:Nat) (oj:aK),ops[j]?=some oj/\kd made oj= .s d
 size:∀(j:Nat) (o:aK) (s:Nat),ops[j]?=some o->o.dst=some s->s<N
 VQ:∀d∈made,d<N
theorem fF{ops:Array aK}{o:aK}(h:ops[i]?=some o):i<ops.size:=(adX.1 h).1
def u9(listed:Array Bool):Nat:=(listed.toList.filter (! ·)).length
theorem Cj(h:u9 ba=0)(i:Nat)(hi:i<ba.size):ba.getD i false=true:=by
 unfold u9 at h;have:=aa5 h;rw[List.filter_eq_nil_iff] at this;have h1:=this ba[i] (by simp[Array.getElem_mem_toList]);simp[hi];simpa using h1
theorem TV:∀(l:List Bool) (i:Nat),l[i]?=some false->((l.set i true).filter (! ·)).length+1=(l.filter (! ·)).length
 | [],i,h=>by simp at h
 |b::l,0,h=>by simp at h;subst h;simp
 |b::l,i+1,h=>by
  have:=TV l i (by simpa using h);cases b <;> simp <;> omega
theorem Dl(h:ba.getD i true=false):u9 (ba.setIfInBounds i true)+1=u9 ba:=by
 unfold u9;rw[Array.toList_setIfInBounds];refine TV _ _ ?_;rcases acW i ba.size with a|a
 .simp[a] at h⊢;exact h
 .simp[ac4 a] at h
end
variable{md:Region.Mode}{j:Nat}
section
variable{P:aO}{W:aA}{made:List Nat}{D:Nat->Mk}{ops:Array aK}{l:List aK}{a0:Act}{vals:Nat->aC}{N:Nat}
def rv(made:List Nat)(D:Nat->Mk)(vals:Nat->aC)(γ:Nat->Nat)(j:Nat)(o:aK):aC:=match kd made o with
 | .m d=>(D d).val (γ d)
 |_=>vals j
def mL(made:List Nat)(ops:Array aK)(listed:Array Bool)(d:Nat):Prop:=∃(j:Nat) (o:aK),ops[j]?=some o/\kd made o= .m d/\listed.getD j false=true
structure Zm(W:aA)(made:List Nat)(D:Nat->Mk)(ops:Array aK)(a0:Act)(vals:Nat->aC)(listed:Array Bool)(a:Act)(w:aA)(γ:Nat->Nat)(σ:Nat->Bool):Prop where
 size:listed.size=ops.size
 closed:∀(j:Nat) (oj:aK),ops[j]?=some oj->listed.getD j false=true->∀e∈oj.after,Region.binds .any e=true->listed.getD e.on false=true
 FW:a.tmps.size=a0.tmps.size
 defs:a.defers=a0.defers
 new:∀(j:Nat) (o:aK) (s:Nat),ops[j]?=some o->o.dst=some s->listed.getD j false=true->a.tmps[s]?=some (rv made D vals γ j o)
 AE:∀s:Nat,(∀(j:Nat) (o:aK),ops[j]?=some o->listed.getD j false=true->o.dst≠some s)->a.tmps[s]?=a0.tmps[s]?
 below:aD W W w
 mem:∀d∈made,mL made ops listed d->W.heap.size<=γ d/\bF w (γ d) (D d).t (if σ d then(D d).c1 else(D d).c0)
 inj:∀d∈made,∀d'∈made,mL made ops listed d->mL made ops listed d'->γ d=γ d'->d=d'
 sig:∀d,σ d=true->∃(j:Nat) (o:aK),ops[j]?=some o/\kd made o= .s d/\listed.getD j false=true
 Zp:∀(d j:Nat) (o:aK),ops[j]?=some o->kd made o= .s d->listed.getD j false=true->σ d=true
theorem NJ{o:aK}(hi:ops[i]?=some o)(h:Region.waitsFor md ops i j=true):∃e∈o.after,Region.binds md e=true/\e.on=j:=by
 obtain⟨a,ho,he⟩:=Region.waitsFor_spec h;rw[hi] at ho;injection ho with ho;subst ho;exact he
theorem uQ{o:aK}(h:plain o=true)(ρ:Operand->aC)(w w':aA)(f:FuncId)(args:Array aC):(execOp ρ o).run P w≠ .ok (.enter f args) w':=by
 have key:∀s:Sem aC,(do let x<-s;pure (Next.value x):Sem Next).run P w≠ .ok (.enter f args) w':=by
  intro s he;simp only[Sem.run_bind] at he;cases hs:s.run P w <;> simp[hs,Sem.run_pure] at he
 obtain⟨dst,op,ty,pos,after,guard⟩:=o;cases op <;> simp only[plain] at h <;> (try cases h) <;> simp only[execOp]
 case nilCheck x=>
  have d:∀{α:Type} (s:Sem α) (k:α->Sem Next),(∀a w,(k a).run P w≠ .ok (.enter f args) w')->∀w,(s >>= k).run P w≠ .ok (.enter f args) w':=by
   intro α s k hk w he;simp only[Sem.run_bind] at he;cases hs:s.run P w with
   |ok a i=>rw[hs] at he;exact hk a i he
   |halt x i=>rw[hs] at he;cases he
  have e:∀v w,(pure (Next.value v):Sem Next).run P w≠ .ok (.enter f args) w':=λv w he=>by simp[Sem.run_pure] at he
  have g:∀{α:Type} (s:Sem α) (v:aC) w,(Functor.map (λ_=>Next.value v) s).run P w≠ .ok (.enter f args) w':=λ{α} s v w he=>by
   have j:=d s (λ_=>pure (Next.value v)) (λ_ w=>e v w) w;rw[map_eq_pure_bind] at he;exact j he
  generalize ρ x=v;split
  all_goals first
   |exact e _ _
   |(intro he;simp[runtimePanic] at he;done)
   |skip
  split
  all_goals first
   |exact e _ _
   |(intro he;simp[runtimePanic] at he;done)
   |skip
  refine d _ _ (λa i=>d _ _ (λb n=>?_) i) w;split
  all_goals first
   |exact e _ _
   |exact d _ _ (λ_ m=>e _ m) _
   |exact g _ _ _
 case pick c x y=>
  intro he;simp only[Sem.run_bind] at he;cases hs:(asBool (ρ c)).run P w <;> simp[hs,Sem.run_pure] at he
 all_goals first|exact key _|(intro he;simp[Sem.run_pure] at he;done)
end
def pD(made:List Nat)(o:aK):Option Nat:=match o.dst with
 |some d=>if made.contains d then some d else none
 |none=>none
def l9(made:List Nat)(ops:Array aK)(o:aK):List Nat:=made.filter λk=>(o.looksAt ops).contains k
def cO(γ:Nat->aC):List Nat->Act->Act
 | [],a=>a
 |k::ks,a=>cO γ ks (a.put (some k) (γ k))
variable{d:Nat}
section
variable{P:aO}{R:aA->aA->Prop}{W:aA}{made:List Nat}{S:Nat->aC->aA->Prop}{ops:Array aK}
def Zr(P:aO)(R:aA->aA->Prop)(T:aC->aA->Prop)(w:aA):Result Next->Prop
 | .ok (.value v) w'=>R w w'/\T v w'
 | .ok .skip w'=>R w w'/\T undef w'
 | .ok (.enter f args) w'=>R w w'/\aG P f args w' λe w''=>∃v,e= .returned v/\R w' w''/\T v w''
 |_=>False
def KZ(P:aO)(R:aA->aA->Prop)(w:aA)(v:aC):Result Next->Prop
 | .ok (.enter f args) w'=>w'=w/\aG P f args w λe w''=>e= .returned v/\R w w''
 | .ok (.value u) w'=>w'=w/\u=v
 |_=>False
theorem wX(γ:Nat->aC):∀(b:List Nat) (a:Act),(cO γ b a).tmps.size=a.tmps.size/\(cO γ b a).defers=a.defers
 | [],a=>⟨rfl,rfl⟩
 |d::b,a=>by
  unfold cO;exact⟨by rw[(wX γ b _).1,vJ],by rw[(wX γ b _).2,vK]⟩
theorem yO(γ:Nat->aC)(k:Nat):∀(b:List Nat) (a:Act),k∉b->(cO γ b a).tmps[k]?=a.tmps[k]?
 | [],a,_=>rfl
 |d::b,a,h=>by
  unfold cO;rw[yO γ k b _ (λc=>h (by simp[c])),mM _ _ _ _ (λe=>h (by injection e with e;simp[e]))]
theorem JC(γ:Nat->aC)(k:Nat):∀(c:List Nat) (a:Act),k∈c->k<a.tmps.size->(cO γ c a).tmps[k]?=some (γ k)
 |d::c,a,h,hk=>by
  unfold cO;by_cases b:k∈c
  .exact JC γ k c _ b (by rw[vJ];exact hk)
  .have:k=d:=by simpa[b] using h
   subst this;rw[yO γ k c _ b,D9 _ _ _ hk]
theorem QI{k:Nat}(h:(jQ ops i==some k)=true):∃o,ops[i]?=some o/\o.dst=some k:=by
 unfold jQ at h;cases ho:ops[i]? with
 |none=>simp[ho] at h
 |some o=>simp[ho] at h;exact⟨o,rfl,h⟩
theorem Np{o:aK}(h:pD made o=some d):o.dst=some d/\d∈made:=by
 unfold pD at h;split at h
 .rename_i a hd;split at h
  .rename_i hm;injection h with h;subst h;exact⟨hd,by simpa using hm⟩
  .cases h
 .cases h
theorem Oh{o:aK}(h:pD made o=none)(hd:o.dst=some d):d∉made:=by
 unfold pD at h;rw[hd] at h;simp only at h;split at h
 .cases h
 .rename_i hm;simpa using hm
theorem WR{o:aK}(hd:o.dst=some d)(hm:d∈made):pD made o=some d:=by
 unfold pD;rw[hd];simp[hm]
variable{l:List aK}{a0:Act}{vals:Nat->aC}{N:Nat}
def wL(ops:Array aK)(listed:Array Bool)(d:Nat):Prop:=∃(j:Nat) (o:aK),ops[j]?=some o/\o.dst=some d/\listed.getD j false=true
theorem IZ{o:aK}(hi:ops[i]?=some o)(hd:o.dst≠some d)(h:wL ops (ba.setIfInBounds i true) d):wL ops ba d:=by
 obtain⟨j,e,a,b,hl⟩:=h;refine⟨j,e,a,b,?_⟩;by_cases c:i=j
 .subst c;rw[hi] at a;injection a with a;subst a;exact absurd b hd
 .rw[getD_set_ne false c] at hl;exact hl
end
def bS(w w':aA):Prop:=aD w w w'
def qA(Q:Exit->Act->aA->Prop):Exit->Act->aA->Prop
 | .normal,a,w=>Q .normal a w
 |_,_,_=>False
structure LP where
 w:aA
instance Ws:Nonempty LP:=⟨⟨default⟩⟩
def nJ(o:aK):Bool:=
 match o.op with
 | .move _| .assign _| .pick _ _ _| .build _ _| .binOp _ _ _ _ _| .unOp _ _ _| .convert _ _ _| .slice _ _ _ _ _| .fieldAddr _ _ _| .field _ _ _| .indexAddr _ _ _| .index _ _ _| .extract _ _| .nilCheck _=>true
 |_=>false
theorem KR{o:aK}(h:nJ o=true):plain o=true:=by
 obtain⟨dst,op,ty,pos,after,guard⟩:=o;cases op <;> simp_all[nJ,plain]
section
variable{P:aO}{ops:Array aK}{T:List Nat}{C:aA->Prop}
structure Ye(T:List Nat)(N:Nat)(ops:Array aK):Prop where
 Jm:∀(j:Nat) (o:aK) cs b,ops[j]?=some o->o.op≠ .select cs b
 xB:∀(i j:Nat) (oi oj:aK) (k:Nat),ops[i]?=some oi->ops[j]?=some oj->oi.dst=some k->oj.dst=some k->i=j
 back:∀(i:Nat) (o:aK),ops[i]?=some o->∀e∈o.after,Region.binds .any e=true->e.on<i
 look:∀(i j:Nat) (oi oj:aK) (k:Nat),ops[i]?=some oi->ops[j]?=some oj->k∈oi.looksAt ops->oj.dst=some k->(j<i/\Region.waitsFor .any ops i j=true)\/(i<j/\Region.waitsFor .any ops j i=true)
 tg:∀(i:Nat) (o:aK),ops[i]?=some o->i∈T->o.guard=none
 tl:∀(i j:Nat) (o oj:aK) (k:Nat),ops[i]?=some o->i∈T->k∈o.looksAt ops->ops[j]?=some oj->oj.dst=some k->Region.waitsFor .any ops i j=true
 nl:∀(i j:Nat) (o oj:aK) (k:Nat),ops[i]?=some o->i∉T->k∈o.looksAt ops->ops[j]?=some oj->oj.dst=some k->j∉T
 fr:∀(i:Nat) (o:aK),ops[i]?=some o->i∉T->nJ o=true\/Region.waitsFor .any ops (T.headD 0) i=true
 row:∀k,k+1<T.length->Region.waitsFor .any ops (T.getD (k+1) 0) (T.getD k 0)=true
 Ki:∀t∈T,t<ops.size
 ne:T≠[]
 size:∀(j:Nat) (o:aK) (s:Nat),ops[j]?=some o->o.dst=some s->s<N
end
section
variable{P:aO}{T:List Nat}{C:aA->Prop}{l:List aK}{a0:Act}{vals:Nat->aC}{N:Nat}{Q:Exit->Act->aA->Prop}
structure Zl(P:aO)(T:List Nat)(C:aA->Prop)(l:List aK)(a0:Act)(vals:Nat->aC)(N:Nat)(Q:Exit->Act->aA->Prop)(listed:Array Bool)(a:Act)(w:aA)(p:Nat)(b:Act):Prop where
 size:listed.size=l.toArray.size
 closed:∀(j:Nat) (oj:aK),l.toArray[j]?=some oj->listed.getD j false=true->∀e∈oj.after,Region.binds .any e=true->listed.getD e.on false=true
 FW:a.tmps.size=N
 bsize:b.tmps.size=N
 defs:a.defers=b.defers
 pl:p<=T.length
 ZF:∀k,k<p->listed.getD (T.getD k 0) false=true
 off:∀k,p<=k->k<T.length->listed.getD (T.getD k 0) true=false
 bn:∀(j:Nat) (o:aK) (s:Nat),l.toArray[j]?=some o->j∉T->o.dst=some s->b.tmps[s]?=some (vals j)
 bo:∀s:Nat,(∀(j:Nat) (o:aK),l.toArray[j]?=some o->o.dst≠some s)->b.tmps[s]?=a0.tmps[s]?
 ag:∀(j:Nat) (o:aK) (s:Nat),l.toArray[j]?=some o->o.dst=some s->listed.getD j false=true->a.tmps[s]?=b.tmps[s]?
 AE:∀s:Nat,(∀(j:Nat) (o:aK),l.toArray[j]?=some o->listed.getD j false=true->o.dst≠some s)->a.tmps[s]?=a0.tmps[s]?
 st:if p=0 then C w/\(∀w',C w'->wpList P l.toArray (qA Q) (T.filterMap λt=>l[t]?) b w') else wpList P l.toArray (qA Q) ((T.drop p).filterMap λt=>l[t]?) b w
theorem yC{a:Array Bool}(h:a.getD i false=true):a.getD i true=true:=by
 rcases acW i a.size with b|b
 .simp[b] at h⊢;exact h
 .simp[ac4 b] at h
theorem M0:¬LetsOut (qA Q):=λ⟨_,_,h⟩=>h
theorem tV{l:List Nat}{k:Nat}(h:k<l.length):l.getD k 0=l[k]:=by simp[List.getD,h]
variable{ops:Array aK}{Qf:Act->Prop}{o:aK}{rest:List aK}{a:Act}{i:Nat}
theorem cI(h:Q .normal a w):qA Q .normal a w:=h
end
structure CW(C:aA->Prop) where
 w:aA
 ok:C w
variable{ga:Act->Prop}{n:Nat}
section
variable{P:aO}{C:aA->Prop}{Z:Nat->aA->aA->Prop}{made T:List Nat}{S:Nat->aC->aA->Prop}{ops:Array aK}
def AZ(P:aO)(R:aA->aA->Prop)(U:aC->aA->Prop)(w:aA):Result Next->Prop
 | .ok (.value v) w'=>R w w'/\U v w'
 | .ok .skip w'=>R w w'/\U undef w'
 | .ok (.enter f args) w'=>w'=w/\aG P f args w λe w''=>∃v,e= .returned v/\R w w''/\U v w''
 |_=>False
def xR(made:List Nat)(_ops:Array aK)(o:aK):Bool:=nJ o&&(pD made o).isNone
def RO(P:aO)(C:aA->Prop)(Z:Nat->aA->aA->Prop)(made:List Nat)(S:Nat->aC->aA->Prop)(ops:Array aK)(i:Nat)(o:aK)(a:Act)(v:aC):Prop:=
 match pD made o with
 |some d=>v=undef/\∀(γ:Nat->aC) (w:aA),C w->(∀k∈l9 made ops o,S k (γ k) w)->AZ P (Z i) (S d) w ((execOp (cO γ (l9 made ops o) a).eval o).run P w)
 |none=>
  if l9 made ops o= [] then
   (if nJ o then ∀w,(∃n:LP,w=n.w)->o.quietAt P a (λw=>∃n:LP,w=n.w) w v
   else if wY o then ∀n:CW C,KZ P (Z i) n.w v ((execOp a.eval o).run P n.w)
   else ∀w,(∃n:CW C,w=n.w)->o.quietAt P a (λw=>∃n:CW C,w=n.w) w v)
  else if nJ o then ∀(γ:Nat->aC) (w:aA),C w->(∀k∈l9 made ops o,S k (γ k) w)->∀w2,AZ P (λa b=>b=a) (λu _=>u=v) w2 ((execOp (cO γ (l9 made ops o) a).eval o).run P w2)
  else ∀(γ:Nat->aC) (w:aA),C w->(∀k∈l9 made ops o,S k (γ k) w)->AZ P (Z i) (λu _=>u=v) w ((execOp (cO γ (l9 made ops o) a).eval o).run P w)
def Vn(C:aA->Prop)(made:List Nat)(S:Nat->aC->aA->Prop)(o:aK):Prop:=∀d,pD made o=some d->∀w,C w->S d undef w
def oJ(P:aO)(ops:Array aK)(T:List Nat)(C:aA->Prop)(Z:Nat->aA->aA->Prop)(made:List Nat)(S:Nat->aC->aA->Prop)(Q:Act->Prop):Nat->List aK->Act->Prop
 |_, [],a=>Q a
 |i,o::rest,a=>
  if T.contains i then oJ P ops T C Z made S Q (i+1) rest (a.put o.dst undef)
  else if Region.wanted o (yielded ops a.tmps)=true then ∃v,RO P C Z made S ops i o a v/\oJ P ops T C Z made S Q (i+1) rest (a.put o.dst v)
  else Vn C made S o/\oJ P ops T C Z made S Q (i+1) rest (a.put o.dst undef)
def Jd(P:aO)(ops:Array aK)(T:List Nat)(C:aA->Prop)(Z:Nat->aA->aA->Prop)(made:List Nat)(S:Nat->aC->aA->Prop)(i:Nat)(o:aK)(a:Act)(v:aC):Prop:=
 (T.contains i=true)\/(Region.wanted o (yielded ops a.tmps)=true/\RO P C Z made S ops i o a v)\/(Region.wanted o (yielded ops a.tmps)=false/\v=undef/\Vn C made S o)
theorem Jj:∀(l:List aK) (i:Nat) (a:Act),oJ P ops T C Z made S ga i l a->
 ∃vals:Nat->aC,(∀j o,l[j]?=some o->Jd P ops T C Z made S (i+j) o (kG a l vals j) (vals j))/\ga (kG a l vals l.length)
 | [],i,a,h=>⟨λ_=>undef,λj o b=>by simp at b,h⟩
 |o::l,i,a,h=>by
  have key:∀v,Jd P ops T C Z made S i o a v->oJ P ops T C Z made S ga (i+1) l (a.put o.dst v)->∃vals:Nat->aC,(∀j c,(o::l)[j]?=some c->Jd P ops T C Z made S (i+j) c (kG a (o::l) vals j) (vals j))/\ga (kG a (o::l) vals (o::l).length):=by
   intro v d e;obtain⟨g,h1,k⟩:=Jj l (i+1) _ e;refine⟨λi=>match i with|0=>v|i+1=>g i,λj c b=>?_,?_⟩
   .cases j with
    |zero=>
     simp at b;subst b;exact d
    |succ j=>
     rw[I3,show i+(j+1)=i+1+j by omega];exact h1 j c b
   .rw[aa9,I3];exact k
  unfold oJ at h;by_cases f:T.contains i=true
  .rw[Zz f] at h;exact key undef (.inl f) h
  .rw[aaA f] at h;by_cases hw:Region.wanted o (yielded ops a.tmps)=true
   .rw[Zz hw] at h;obtain⟨v,d,e⟩:=h;exact key v (.inr (.inl ⟨hw,d⟩)) e
   .rw[aaA hw] at h;exact key undef (.inr (.inr ⟨by simpa using hw,rfl,h.1⟩)) h.2
def FJ(ops:Array aK):List Nat->Bool
 |x::y::r=>Region.waitsFor .any ops x y&&FJ ops (y::r)
 |_=>true
def PO(T made:List Nat)(pt:List (List Nat))(N:Nat)(ops:Array aK):Bool:=
 Region.noSelect ops&&
 ((List.range ops.size).all λi=>(List.range ops.size).all λj=>i==j || (jQ ops i).isNone || jQ ops i !=jQ ops j)&&
 ((List.range ops.size).all λi=>Jf ops i)&&
 ((List.range ops.size).all λi=>Jn ops i)&&
 ((List.range ops.size).all λi=>match ops[i]? with
  |some o=>if T.contains i then o.guard.isNone&&(o.looksAt ops).all λk=>(List.range ops.size).all λj=>jQ ops j !=some k || (decide (j<i)&&Region.waitsFor .any ops i j)
   else((o.looksAt ops).all λk=>(List.range ops.size).all λj=>jQ ops j !=some k || !T.contains j)&&
    ((o.looksAt ops).all λk=>!made.contains k || (List.range i).any λj=>jQ ops j==some k&&Region.waitsFor .any ops i j)&&
    (match o.guard with|some (g,_)=>(match jQ ops g with|some k=>!made.contains k|none=>true)|none=>true)&&
    (plain o || wY o || (pD made o).isSome || !(l9 made ops o).isEmpty)&&
    (xR made ops o || T.isEmpty || Region.waitsFor .any ops (T.headD 0) i || pt.any λp=>p.head?==some (T.headD 0)&&p.getLast?==some i&&FJ ops p)
  |none=>true)&&
 ((List.range (T.length - 1)).all λk=>Region.waitsFor .any ops (T.getD (k+1) 0) (T.getD k 0))&&
 (T.all λt=>decide (t<ops.size))&&
 (made.all λd=>(List.range ops.size).any λi=>jQ ops i==some d&&!T.contains i)&&
 ((List.range ops.size).all λj=>match jQ ops j with|some s=>decide (s<N)|none=>true)&&
 (made.all λd=>decide (d<N))
structure SU(T made:List Nat)(pt:List (List Nat))(N:Nat)(ops:Array aK):Prop where
 Jm:∀(j:Nat) (o:aK) cs b,ops[j]?=some o->o.op≠ .select cs b
 xB:∀(i j:Nat) (oi oj:aK) (k:Nat),ops[i]?=some oi->ops[j]?=some oj->oi.dst=some k->oj.dst=some k->i=j
 back:∀(i:Nat) (o:aK),ops[i]?=some o->∀e∈o.after,Region.binds .any e=true->e.on<i
 look:∀(i j:Nat) (oi oj:aK) (k:Nat),ops[i]?=some oi->ops[j]?=some oj->k∈oi.looksAt ops->oj.dst=some k->(j<i/\Region.waitsFor .any ops i j=true)\/(i<j/\Region.waitsFor .any ops j i=true)
 tg:∀(i:Nat) (o:aK),ops[i]?=some o->i∈T->o.guard=none
 tl:∀(i j:Nat) (o oj:aK) (k:Nat),ops[i]?=some o->i∈T->k∈o.looksAt ops->ops[j]?=some oj->oj.dst=some k->Region.waitsFor .any ops i j=true
 nl:∀(i j:Nat) (o oj:aK) (k:Nat),ops[i]?=some o->i∉T->k∈o.looksAt ops->ops[j]?=some oj->oj.dst=some k->j∉T
 Ur:∀(i:Nat) (o:aK) (k:Nat),ops[i]?=some o->i∉T->k∈o.looksAt ops->k∈made->∃(j:Nat) (oj:aK),ops[j]?=some oj/\oj.dst=some k/\Region.waitsFor .any ops i j=true
 Zd:∀(i:Nat) (o:aK) (g:Nat) (b:Bool) (k:Nat),ops[i]?=some o->i∉T->o.guard=some (g,b)->jQ ops g=some k->k∉made
 pl:∀(i:Nat) (o:aK),ops[i]?=some o->i∉T->plain o=true\/wY o=true\/(pD made o).isSome=true\/l9 made ops o≠[]
 fr:∀(i:Nat) (o:aK),ops[i]?=some o->i∉T->xR made ops o=true\/T= []\/Region.waitsFor .any ops (T.headD 0) i=true\/∃p∈pt,p.head?=some (T.headD 0)/\p.getLast?=some i/\FJ ops p=true
 row:∀k,k+1<T.length->Region.waitsFor .any ops (T.getD (k+1) 0) (T.getD k 0)=true
 Ki:∀t∈T,t<ops.size
 has:∀d∈made,∃(j:Nat) (oj:aK),ops[j]?=some oj/\oj.dst=some d/\j∉T
 size:∀(j:Nat) (o:aK) (s:Nat),ops[j]?=some o->o.dst=some s->s<N
 VQ:∀d∈made,d<N
theorem WD{pt:List (List Nat)}(h:PO T made pt n ops=true):SU T made pt n ops:=by
 simp only[PO,aa6,ac1,ab1] at h;obtain⟨⟨⟨⟨⟨⟨⟨⟨⟨u,h1⟩,h2⟩,h3⟩,h4⟩,h5⟩,h6⟩,h7⟩,h8⟩,a⟩:=h;refine⟨Region.noSelect_spec u,?_,?_,?_,?_,?_,?_,?_,?_,?_,?_,?_,?_,?_,?_,?_⟩
 .intro i j v m k hi c x l;have:=h1 i (fF hi) j (fF c);simp[jQ,hi,c,x,l] at this;exact this
 .intro i o hi e he hb;have:=h2 i (fF hi);unfold Jf at this;rw[hi] at this;have:=Array.all_eq_true'.1 this e he;simp[hb] at this;exact this
 .intro i j v m k hi c hk l;have:=h3 i (fF hi);unfold Jn at this;rw[hi] at this;have:=ac1.1 (ac1.1 this k hk) j (ab1.2 (fF c));simp[jQ,c,l] at this;exact this
 .intro i o hi f;have:=h4 i (fF hi);rw[hi] at this;simp only[ac2,aa2 f,abI,aa6,ac8] at this;exact this.1
 .intro i j o m k hi f hk c l;have:=h4 i (fF hi);rw[hi] at this;simp only[ac2,aa2 f,abI,aa6] at this;have:=ac1.1 (ac1.1 this.2 k hk) j (ab1.2 (fF c));simp[jQ,c,l] at this;exact this.2
 .intro i j o m k hi f hk c l;have:=h4 i (fF hi);rw[hi] at this;simp only[ac2,aaP f,aaZ,aaY,aa6] at this;have:=ac1.1 (ac1.1 this.1.1.1.1 k hk) j (ab1.2 (fF c));simp[jQ,c,l] at this;exact this
 .intro i o k hi f hk hm;have:=h4 i (fF hi);rw[hi] at this;simp only[ac2,aaP f,aaZ,aaY,aa6,ac1,Bool.or_eq_true,adR] at this;rcases this.1.1.1.2 k hk with a|⟨j,c,a,q⟩
  .simp[hm] at a
  .obtain⟨m,r,hd⟩:=QI a;exact⟨j,m,r,hd,q⟩
 .intro i o g b k hi f y hd;have:=h4 i (fF hi);rw[hi] at this;simp only[ac2,aaP f,aaZ,aaY,aa6,y,hd] at this;simpa using this.1.1.2
 .intro i o hi f;have:=h4 i (fF hi);rw[hi] at this;simp only[ac2,aaP f,aaZ,aaY,aa6,Bool.or_eq_true] at this;rcases this.1.2 with((a|a)|a)|a
  .exact .inl a
  .exact .inr (.inl a)
  .exact .inr (.inr (.inl a))
  .refine .inr (.inr (.inr λe=>?_));rw[e] at a;simp at a
 .intro i o hi f;have:=h4 i (fF hi);rw[hi] at this;simp only[ac2,aaP f,aaZ,aaY,aa6,Bool.or_eq_true,adR] at this;rcases this.2 with((a|a)|a)|⟨p,hp,a⟩
  .exact .inl a
  .exact .inr (.inl (by simpa using a))
  .exact .inr (.inr (.inl a))
  .exact .inr (.inr (.inr ⟨p,hp,by simpa using a.1.1,by simpa using a.1.2,a.2⟩))
 .intro k hk;exact h5 k aQ
 .intro t f;simpa using h6 t f
 .intro d hd;obtain⟨i,_,hi⟩:=by simpa only[adR] using h7 d hd
  rw[aa6] at hi;obtain⟨o,ho,hk⟩:=QI hi.1;exact⟨i,o,ho,hk,by simpa using hi.2⟩
 .intro j o s c hd;have:=h8 j (fF c);simp[jQ,c,hd] at this;exact this
 .intro d hd;simpa using a d hd
end
variable{ops:Array aK}{w0 w':aA}{U:aC->aA->Prop}
section
section
variable{P:aO}{C:aA->Prop}{Z:Nat->aA->aA->Prop}{made T:List Nat}{S:Nat->aC->aA->Prop}{l:List aK}{a0:Act}{vals:Nat->aC}{N:Nat}{Q:Exit->Act->aA->Prop}{pt:List (List Nat)}
structure Th(P:aO)(T made:List Nat)(C:aA->Prop)(S:Nat->aC->aA->Prop)(l:List aK)(a0:Act)(vals:Nat->aC)(N:Nat)(Q:Exit->Act->aA->Prop)(listed:Array Bool)(a:Act)(w:aA)(γ:Nat->aC)(p:Nat)(b:Act):Prop where
 size:listed.size=l.toArray.size
 closed:∀(j:Nat) (oj:aK),l.toArray[j]?=some oj->listed.getD j false=true->∀e∈oj.after,Region.binds .any e=true->listed.getD e.on false=true
 FW:a.tmps.size=N
 pl:p<=T.length
 ZF:∀k,k<p->listed.getD (T.getD k 0) false=true
 off:∀k,p<=k->k<T.length->listed.getD (T.getD k 0) true=false
 new:∀(j:Nat) (o:aK) (s:Nat),l.toArray[j]?=some o->j∉T->o.dst=some s->listed.getD j false=true->a.tmps[s]?=some (if s∈made then γ s else vals j)
 AE:∀s:Nat,(∀(j:Nat) (o:aK),l.toArray[j]?=some o->listed.getD j false=true->o.dst≠some s)->a.tmps[s]?=a0.tmps[s]?
 z:p=0->C w/\a.defers=a0.defers/\∀d∈made,wL l.toArray listed d->S d (γ d) w
 Rt:∃w1,C w1/\∀d∈made,wL l.toArray listed d->S d (γ d) w1
 n:0<p->b.tmps.size=N/\a.defers=b.defers/\(∀(j:Nat) (o:aK) (s:Nat),l.toArray[j]?=some o->j∉T->o.dst=some s->b.tmps[s]?=some (if s∈made then γ s else vals j))/\
  (∀s:Nat,(∀(j:Nat) (o:aK),l.toArray[j]?=some o->o.dst≠some s)->b.tmps[s]?=a0.tmps[s]?)/\
  (∀(j:Nat) (o:aK) (s:Nat),l.toArray[j]?=some o->j∈T->o.dst=some s->listed.getD j false=true->a.tmps[s]?=b.tmps[s]?)/\
  wpList P l.toArray (qA Q) ((T.drop p).filterMap λt=>l[t]?) b w
theorem AY(hc:∀(j:Nat) (g:aK),ops[j]?=some g->ba.getD j false=true->∀e∈g.after,Region.binds .any e=true->ba.getD e.on false=true):∀(p:List Nat) (x y:Nat),p.head?=some x->p.getLast?=some y->FJ ops p=true->ba.getD x false=true->ba.getD y false=true
 | [],x,y,h,_,_,_=>by simp at h
 | [z],x,y,h1,h2,_,h=>by simp at h1 h2;subst h1 h2;exact h
 |u::v::r,x,y,h1,h2,h3,h=>by
  simp at h1;subst h1;rw[FJ,aa6] at h3;obtain⟨m,b,he⟩:=Region.waitsFor_spec h3.1;obtain⟨e,c,d,f⟩:=he;have k:=hc u m b h e c d;rw[f] at k;refine AY hc (v::r) v y rfl ?_ h3.2 k;rw[List.getLast?_cons_cons] at h2;exact h2
theorem As(hZ:∀i w w',C w->Z i w w'->C w')(hS:∀i,∀d∈made,jQ l.toArray i≠some d->∀v w w',C w->S d v w->Z i w w'->S d v w')(ok:SU T made pt N l.toArray)(hN:a0.tmps.size=N)
 (hok:∀(j:Nat) (o:aK),l[j]?=some o->Jd P l.toArray T C Z made S j o (kG a0 l vals j) (vals j))
 (hQ:∀(γ:Nat->aC) (w:aA),C w->(∀d∈made,S d (γ d) w)->wpList P l.toArray (qA Q) (T.filterMap λt=>l[t]?) (cO γ made (kG a0 l vals l.length)) w):
 ∀(fuel:Nat) (q:Array Bool) (a:Act) (w:aA) (γ:Nat->aC) (p:Nat) (b:Act),Th P T made C S l a0 vals N Q q a w γ p b->u9 q=fuel->wpAny P .any l.toArray Q fuel q a w:=by
 have hli:∀j:Nat,l.toArray[j]?=l[j]?:=λj=>aaR
 have b0n:∀(γ:Nat->aC) (j:Nat) (o:aK) (s:Nat),l.toArray[j]?=some o->o.dst=some s->(cO γ made (kG a0 l vals l.length)).tmps[s]?=some (if s∈made then γ s else vals j):=λγ j o s A hd=>by
  have hj':l[j]?=some o:=by rw[<-hli];exact A
  by_cases hm:s∈made
  .rw[Zz hm,JC γ s made _ hm (by rw[(pG a0 l vals _).1,hN];exact ok.VQ s hm)]
  .rw[aaA hm,yO γ s made _ hm];exact FI a0 l vals s j o hj' hd (by rw[hN];exact ok.size j o s A hd) (λj' o' h' D J=>D (ok.xB j' j o' o s (by rw[hli];exact h') A J hd)) l.length (aaN.1 hj').1
 have b0o:∀(γ:Nat->aC) (s:Nat),(∀(j:Nat) (o:aK),l.toArray[j]?=some o->o.dst≠some s)->(cO γ made (kG a0 l vals l.length)).tmps[s]?=a0.tmps[s]?:=λγ s hs=>by
  have hm:s∉made:=λhm=>by
   obtain⟨j,B,A,hd,_⟩:=ok.has s hm;exact hs j B A hd
  rw[yO γ s made _ hm];exact BA a0 l vals s l.length (λj o _ A=>hs j o (by rw[hli];exact A))
 have fin:∀(q:Array Bool) (a:Act) (w:aA) (γ:Nat->aC) (p:Nat) (b:Act),Th P T made C S l a0 vals N Q q a w γ p b->(∀i,i<q.size->q.getD i false=true)->Q .normal a w:=by
  intro q a w γ p b inv L;have all:∀(j:Nat) (o:aK),l.toArray[j]?=some o->q.getD j false=true:=λj o A=>L j (by rw[inv.size];exact fF A)
  have hp:p=T.length:=by
   rcases acW p T.length with h|h
   .exfalso
    have h1:=inv.off p (Zw _) h;have M:T.getD p 0<q.size:=by
     rw[inv.size];refine ok.Ki _ ?_;rw[tV h];exact aaF h
    have H:=yC (L _ M);rw[h1] at H;cases H
   .exact Nat.le_antisymm inv.pl h
  have same:∀b':Act,(∀(j:Nat) (o:aK) (s:Nat),l.toArray[j]?=some o->o.dst=some s->a.tmps[s]?=b'.tmps[s]?)->(∀s:Nat,(∀(j:Nat) (o:aK),l.toArray[j]?=some o->o.dst≠some s)->b'.tmps[s]?=a0.tmps[s]?)->a.defers=b'.defers->a=b':=by
   intro b' h1 M H;have X:a.tmps=b'.tmps:=by
    apply ad5;intro k;by_cases hex:∃(j:Nat) (B:aK),l.toArray[j]?=some B/\B.dst=some k
    .obtain⟨j,B,A,dj⟩:=hex;exact h1 j B k A dj
    .have Y:∀(j:Nat) (B:aK),l.toArray[j]?=some B->B.dst≠some k:=λj B A hd=>hex ⟨j,B,A,hd⟩
     rw[inv.AE k (λj B A _=>Y j B A),M k Y]
   obtain⟨t1,d1⟩:=a;obtain⟨t2,d2⟩:=b';simp only at X H;subst X H;rfl
  by_cases F:p=0
  .have hT:T= []:=aa5 aQ;obtain⟨hC,hd,O⟩:=inv.z F;have:=hQ γ w hC (λd hd=>O d hd (by obtain⟨j,B,A,hk,_⟩:=ok.has d hd;exact⟨j,B,A,hk,all j B A⟩));rw[hT] at this;rw[same (cO γ made (kG a0 l vals l.length)) (λj o s A hds=>by rw[inv.new j o s A (by rw[hT];simp) hds (all j o A),b0n γ j o s A hds]) (b0o γ) (by rw[(wX γ made _).2,(pG a0 l vals _).2];exact hd)];exact this
  .obtain⟨_,hd,hbn,hbo,hag,hst⟩:=inv.n aQ;rw[hp,aeA (Zw _)] at hst;rw[same b (λj o s A hds=>by
    by_cases E:j∈T
    .exact hag j o s A E hds (all j o A)
    .rw[inv.new j o s A E hds (all j o A),hbn j o s A E hds]) hbo hd]
   exact hst
 intro fuel;induction fuel with
 |zero=>
  intro q a w γ p b inv hc;have L:∀i,i<q.size->q.getD i false=true:=λi hi=>Cj hc i hi
  refine⟨?_,fin q a w γ p b inv L⟩;rw[List.eq_nil_iff_forall_not_mem];intro i hi;obtain⟨h1,o,ho,_⟩:=mem_ready.1 hi;have M:=L i (by rw[inv.size];exact fF ho);rw[getD_both h1] at M;cases M
 |succ fuel ih=>
  intro q a w γ p b inv hc;constructor
  .intro hr;exfalso
   have hex:∃i,i<q.size/\q.getD i false=false:=by
    refine aaW λD=>?_
    have L:∀i,i<q.size->q.getD i false=true:=λi hi=>by
     cases h:q.getD i false with
     |true=>rfl
     |false=>exact absurd ⟨i,hi,h⟩ D
    have:u9 q=0:=by
     unfold u9;rw[List.length_eq_zero_iff,List.filter_eq_nil_iff];intro b hb;obtain⟨i,hi,he⟩:=List.mem_iff_getElem.1 hb;have h1:=L i (by simpa using hi);have hi':i<q.size:=by simpa using hi
     simp[hi'] at h1;simp at he;rw[<-he,h1];simp
    omega
   obtain⟨i0,hi0,hu0⟩:=hex;have hmin:∃i,i<q.size/\q.getD i false=false/\∀j,j<i->q.getD j false=true:=by
    induction i0 using Nat.strongRecOn with
    |_ i0 ihm=>
     by_cases h:∃j,j<i0/\q.getD j false=false
     .obtain⟨j,A,hju⟩:=h;exact ihm j A aQ hju
     .refine⟨i0,hi0,hu0,λj A=>?_⟩;cases hjv:q.getD j false with
      |true=>rfl
      |false=>exact absurd ⟨j,A,hjv⟩ h
   obtain⟨i,hi,hu,hlt⟩:=hmin;have hil:i<l.toArray.size:=by rw[<-inv.size];exact hi
   have:i∈Region.ready .any l.toArray q:=mem_ready.2 ⟨getD_in hi hu,l.toArray[i],by simp[abO hil],λe he hb=>hlt _ (ok.back i _ (abO hil) e he hb)⟩;rw[hr] at this;cases this
  .intro i hi;obtain⟨hun,o,ho,L⟩:=mem_ready.1 hi;have hol:l[i]?=some o:=by rw[<-aaR];exact ho
   have hcn:u9 (q.setIfInBounds i true)=fuel:=by have:=Dl hun;omega
   have jA:i<q.size:=by rw[inv.size];exact fF ho
   have G:∀j,Region.waitsFor .any l.toArray i j=true->q.getD j false=true:=λj hw=>by
    obtain⟨e,he,hb,hon⟩:=NJ ho hw;have:=L e he hb;rw[hon] at this;exact this
   have W:∀(j:Nat) (B:aK),l.toArray[j]?=some B->Region.waitsFor .any l.toArray j i=true->q.getD j false=true->False:=λj B A hw hl=>by
    obtain⟨e,he,hb,hon⟩:=NJ A hw;have:=inv.closed j B A hl e he hb;rw[hon,getD_both hun] at this;cases this
   have closed':∀(j:Nat) (B:aK),l.toArray[j]?=some B->(q.setIfInBounds i true).getD j false=true->∀e∈B.after,Region.binds .any e=true->(q.setIfInBounds i true).getD e.on false=true:=λj B A hl e he hb=>by
    by_cases I:i=j
    .subst I;rw[ho] at A;injection A with A;subst A;exact getD_set_true (L e he hb)
    .rw[getD_set_ne false I] at hl;exact getD_set_true (inv.closed j B A hl e he hb)
   by_cases hT:i∈T
   ·
    obtain⟨k,hkl,hki⟩:=aa1 hT;have hkD:T.getD k 0=i:=by rw[tV hkl,hki]
    have hpk:p<=k:=by
     rcases acW k p with h|h
     .have:=yC (inv.ZF k h);rw[hkD,hun] at this;cases this
     .exact h
    have hkp:k=p:=by
     refine Nat.le_antisymm ?_ hpk;refine aaW λhlt=>?_
     have hk1:k - 1+1=k:=aQ;have h1:=ok.row (k - 1) aQ;rw[hk1,hkD] at h1;have M:=yC (G _ h1);rw[inv.off (k - 1) aQ aQ] at M;cases M
    subst hkp;have hB:∃b:Act,b.tmps.size=N/\a.defers=b.defers/\(∀(j:Nat) (o:aK) (s:Nat),l.toArray[j]?=some o->j∉T->o.dst=some s->b.tmps[s]?=some (if s∈made then γ s else vals j))/\
     (∀s:Nat,(∀(j:Nat) (o:aK),l.toArray[j]?=some o->o.dst≠some s)->b.tmps[s]?=a0.tmps[s]?)/\
     (∀(j:Nat) (o:aK) (s:Nat),l.toArray[j]?=some o->j∈T->o.dst=some s->q.getD j false=true->a.tmps[s]?=b.tmps[s]?)/\
     wpList P l.toArray (qA Q) ((T.drop k).filterMap λt=>l[t]?) b w:=by
     by_cases hk0:k=0
     .subst hk0;obtain⟨hC,hd,O⟩:=inv.z rfl;have h0:T.headD 0=T.getD 0 0:=by cases T <;> rfl
      have hlT:∀(j:Nat) (B:aK),l.toArray[j]?=some B->j∈T->q.getD j false=true->False:=λj B A E hl=>by
       obtain⟨m,hml,hmi⟩:=aa1 E;have h1:=inv.off m (aaH _) hml;rw[tV hml,hmi] at h1;have M:=yC hl;rw[h1] at M;cases M
      have hmade:∀d∈made,wL l.toArray q d:=λd hd=>by
       obtain⟨j,B,A,hk,E⟩:=ok.has d hd;refine⟨j,B,A,hk,?_⟩;rcases ok.fr j B A E with h|h|h|⟨pp,_,h1,M,H⟩
       .exfalso
        unfold xR at h;rw[aa6] at h;have:=h.2;rw[WR hk hd] at this;cases this
       .rw[h] at hT;cases hT
       .rw[h0,hkD] at h;exact G j h
       .rw[h0,hkD] at h1;match pp,h1,M,H with
        | [x],h1,M,_=>
         simp at h1 M;subst h1 M;exact absurd hT E
        |x::y::r,h1,M,H=>
         simp at h1;subst h1;rw[FJ,aa6] at H;rw[List.getLast?_cons_cons] at M;exact AY inv.closed (y::r) y j rfl M H.2 (G y H.1)
      refine⟨cO γ made (kG a0 l vals l.length),by rw[(wX γ made _).1,(pG a0 l vals _).1];exact hN,by rw[(wX γ made _).2,(pG a0 l vals _).2];exact hd,λj o s A _ hds=>b0n γ j o s A hds,b0o γ,λj o s A E _ hl=>(hlT j o A E hl).elim,?_⟩;rw[adY];exact hQ γ w hC (λd hd=>O d hd (hmade d hd))
     .exact⟨b,inv.n aQ⟩
    obtain⟨b,hbs,hbd,hbn,hbo,hbt,hst⟩:=hB;have hag:∀s∈o.looksAt l.toArray,a.tmps[s]?=b.tmps[s]?:=λs hs=>by
     by_cases hex:∃(j:Nat) (B:aK),l.toArray[j]?=some B/\B.dst=some s
     .obtain⟨j,B,A,dj⟩:=hex;have hlj:=G j (ok.tl i j o B s ho hT hs A dj);by_cases E:j∈T
      .exact hbt j B s A E dj hlj
      .rw[inv.new j B s A E dj hlj,hbn j B s A E dj]
     .have Y:∀(j:Nat) (B:aK),l.toArray[j]?=some B->B.dst≠some s:=λj B A hd=>hex ⟨j,B,A,hd⟩
      rw[inv.AE s (λj B A _=>Y j B A),hbo s Y]
    have hx:=JR o (λcs b=>ok.Jm i o cs b ho) hag;have hgd:=ok.tg i o ho hT;have hdrop:(T.drop k).filterMap (λt=>l[t]?)=o::(T.drop (k+1)).filterMap (λt=>l[t]?):=by
     rw[acR hkl,aeL,hki,hol]
    rw[hdrop] at hst;unfold wpList at hst;rw[Zz (by unfold Region.wanted;rw[hgd])] at hst;have hwp:o.wp P b w (wpList P l.toArray (qA Q) ((T.drop (k+1)).filterMap λt=>l[t]?)) (qA Q):=hst.resolve_right (λh=>M0 h.2);have witT:∃w1,C w1/\∀d∈made,wL l.toArray (q.setIfInBounds i true) d->S d (γ d) w1:=by
     obtain⟨w1,hC1,hs1⟩:=inv.Rt;refine⟨w1,hC1,λd hd hL=>hs1 d hd (IZ ho (λe=>?_) hL)⟩;obtain⟨j,B,A,hk,E⟩:=ok.has d hd;exact E (ok.xB i j o B d ho A e hk ▸ hT)
    have next:∀(ds:List _) (v:aC) (w':aA),wpList P l.toArray (qA Q) ((T.drop (k+1)).filterMap λt=>l[t]?) ({b with defers:=ds}.put o.dst v) w'->wpAny P .any l.toArray Q fuel (q.setIfInBounds i true) ({a with defers:=ds}.put o.dst v) w':=by
     intro ds v w' h;refine ih _ _ _ γ (k+1) ({b with defers:=ds}.put o.dst v) ⟨by simp[inv.size],closed',by rw[vJ];exact inv.FW,hkl,λk' hk'=>?_,λk' hk' hk2=>?_,λj B s A E hd hl=>?_,λs hs=>?_,λh=>absurd h aQ,witT,λ_=>⟨by rw[vJ];exact hbs,by rw[vK,vK],λj B s A E hd=>?_,λs hs=>?_,λj B s A E hd hl=>?_,h⟩⟩ hcn
     .by_cases e:k'=k
      .subst e;rw[hkD];simp[jA]
      .exact getD_set_true (inv.ZF k' aQ)
     .have D:i≠T.getD k' 0:=λe=>by
       have M:∀m,k<m->m<T.length->T.getD m 0≠i:=by
        intro m hm hml e2;have H:=ok.row (m - 1) aQ;rw[show m - 1+1=m by omega,e2] at H;have h4:=yC (G _ H);rw[inv.off (m - 1) aQ aQ] at h4;cases h4
       exact M k' aQ hk2 e.symm
      rw[getD_set_ne true D];exact inv.off k' aQ hk2
     .have I:i≠j:=λe=>E (by rw[<-e];exact hT)
      rw[getD_set_ne false I] at hl;have D:o.dst≠some s:=λe=>I (ok.xB i j o B s ho A e hd)
      rw[mM _ _ _ _ D];exact inv.new j B s A E hd hl
     .have h1:o.dst≠some s:=hs i o ho (by simp[jA]);rw[mM _ _ _ _ h1];exact inv.AE s λj B A hl=>hs j B A (getD_set_true hl)
     .have I:i≠j:=λe=>E (by rw[<-e];exact hT)
      have D:o.dst≠some s:=λe=>I (ok.xB i j o B s ho A e hd)
      rw[mM _ _ _ _ D];exact hbn j B s A E hd
     .rw[mM _ _ _ _ (hs i o ho)];exact hbo s hs
     .by_cases I:i=j
      .subst I;rw[ho] at A;injection A with A;subst A;rw[hd,D9 _ _ _ (by show s<a.tmps.size;rw[inv.FW];exact ok.size i o s ho hd),D9 _ _ _ (by show s<b.tmps.size;rw[hbs];exact ok.size i o s ho hd)]
      .rw[getD_set_ne false I] at hl;have D:o.dst≠some s:=λe=>I (ok.xB i j o B s ho A e hd)
       rw[mM _ _ _ _ D,mM _ _ _ _ D];exact hbt j B s A E hd hl
    unfold wpOp;simp only[ho];rw[Zz (by unfold Region.wanted;rw[hgd])];left
    unfold Oper.wp at hwp⊢;rw[hx];have ea:∀v,a.put o.dst v=({a with defers:=a.defers}:Act).put o.dst v:=λv=>rfl
    have eb:∀v,b.put o.dst v=({b with defers:=a.defers}:Act).put o.dst v:=λv=>by rw[hbd]
    generalize (execOp b.eval o).run P w=r at *;cases r with
    |ok n w'=>
     cases n <;> simp only[Oper.upon] at hwp⊢
     case value u=>rw[ea];exact next _ _ _ (by rw[<-eb];exact hwp)
     case skip=>rw[ea];exact next _ _ _ (by rw[<-eb];exact hwp)
     case row r args=>exact hwp.mono λv w'' h=>by rw[ea];exact next _ _ _ (by rw[<-eb];exact h)
     case enter f args=>
      refine hwp.mono λe w'' h=>?_
      cases e with
      |returned v=>simp only at h⊢;rw[ea];exact next _ _ _ (by rw[<-eb];exact h)
      |panicked c=>simp only[qA] at h
      |outgrown=>exact absurd h M0
     rw[hbd];exact next _ _ _ hwp
    |halt x w'=>
     cases x <;> simp only[Oper.upon,qA] at hwp
   ·
    have hO:=hok i o hol;have hnT:∀k,k<T.length->T.getD k 0≠i:=λk hk e=>hT (by rw[<-e,tV hk];exact aaF hk)
    have agree:∀s∈o.looksAt l.toArray,s∉made->a.tmps[s]?=(kG a0 l vals i).tmps[s]?:=λs hs hsm=>by
     by_cases hex:∃(j:Nat) (B:aK),l.toArray[j]?=some B/\B.dst=some s
     .obtain⟨j,B,A,dj⟩:=hex;have E:=ok.nl i j o B s ho hT hs A dj;rcases ok.look i j o B s ho A hs dj with⟨hlt,hw⟩|⟨hlt,hw⟩
      .rw[inv.new j B s A E dj (G j hw),aaA hsm];rw[FI a0 l vals s j B (by rw[<-hli];exact A) dj (by rw[hN];exact ok.size j B s A dj) (λj' o' hj' D J=>D (ok.xB j' j o' B s (by rw[hli];exact hj') A J dj)) i hlt]
      .have hnl:q.getD j false=true->False:=W j B A hw;rw[inv.AE s (λj' o' hj' hl' J=>by have:=ok.xB j' j o' B s hj' A J dj;subst this;exact hnl hl'),
        BA a0 l vals s i (λj' o' hlt' hj' J=>by have:=ok.xB j' j o' B s (by rw[hli];exact hj') A J dj;omega)]
     .have Y:∀(j:Nat) (B:aK),l.toArray[j]?=some B->B.dst≠some s:=λj B A hd=>hex ⟨j,B,A,hd⟩
      rw[inv.AE s (λj B A _=>Y j B A),BA a0 l vals s i (λj B _ A=>Y j B (by rw[hli];exact A))]
    have hlk:∀k∈l9 made l.toArray o,k∈made/\k∈o.looksAt l.toArray:=λk hk=>by
     have:=abZ.1 hk;exact⟨this.1,by simpa using this.2⟩
    have hwr:∀k∈l9 made l.toArray o,wL l.toArray q k/\a.tmps[k]?=some (γ k):=λk hk=>by
     obtain⟨h1,M⟩:=hlk k hk;obtain⟨j,B,A,dj,hw⟩:=ok.Ur i o k ho hT M h1;have hl:=G j hw;have E:=ok.nl i j o B k ho hT M A dj;refine⟨⟨j,B,A,dj,hl⟩,?_⟩;rw[inv.new j B k A E dj hl,Zz h1]
    have hag:∀k∈o.looksAt l.toArray,a.tmps[k]?=(cO γ (l9 made l.toArray o) (kG a0 l vals i)).tmps[k]?:=λk hk=>by
     by_cases hkm:k∈made
     .have hk2:k∈l9 made l.toArray o:=abZ.2 ⟨hkm,by simpa using hk⟩;rw[(hwr k hk2).2,JC γ k _ _ hk2 (by rw[(pG a0 l vals i).1,hN];exact ok.VQ k hkm)]
     .rw[yO γ k _ _ (λh=>hkm (hlk k h).1)];exact agree k hk hkm
    have hx:=JR o (λcs b=>ok.Jm i o cs b ho) hag;have hw:Region.wanted o (yielded l.toArray a.tmps)=Region.wanted o (yielded l.toArray (kG a0 l vals i).tmps):=by
     unfold Region.wanted;cases hg:o.guard with
     |none=>rfl
     |some gb=>
      obtain⟨g,bb⟩:=gb;have:yielded l.toArray a.tmps g=yielded l.toArray (kG a0 l vals i).tmps g:=by
       unfold yielded;cases hd:(l.toArray[g]?).bind (·.dst) with
       |none=>rfl
       |some k=>
        have hk:k∈o.looksAt l.toArray:=by
         have hd2:=hd;simp only[aaR] at hd2;unfold Oper.looksAt;simp[hg,hd2]
        simp only[Option.bind_some,agree k hk (ok.Zd i o g bb k ho hT hg hd)]
      simp only[this]
    have hpz:xR made l.toArray o=false->p=0:=λhf=>by
     refine aaW λD=>?_
     have h1:=inv.ZF 0 aQ;have hT0:0<T.length:=by have:=inv.pl;omega
     have hh:T.headD 0=T.getD 0 0:=by cases T <;> rfl
     have hin:T.headD 0∈T:=by rw[hh,tV hT0];exact aaF hT0
     rw[<-hh] at h1;rcases ok.fr i o ho hT with h|h|h|⟨pp,_,M,H,h4⟩
     .rw[hf] at h;cases h
     .rw[h] at hT0;cases hT0
     .exact W (T.headD 0) _ (abO (ok.Ki _ hin)) h h1
     .have:=AY inv.closed pp _ _ M H h4 h1;have h5:=yC this;rw[hun] at h5;cases h5
    have cont:∀(v:aC) (γ':Nat->aC) (w':aA),(∀s,o.dst=some s->v=if s∈made then γ' s else vals i)->(∀d,o.dst≠some d->γ' d=γ d)->
     (p=0->C w'/\∀d∈made,wL l.toArray (q.setIfInBounds i true) d->S d (γ' d) w')->(0<p->w'=w/\γ'=γ)->wpAny P .any l.toArray Q fuel (q.setIfInBounds i true) (a.put o.dst v) w':=by
     intro v γ' w' hv hγ h0 h1;have wit':∃w1,C w1/\∀d∈made,wL l.toArray (q.setIfInBounds i true) d->S d (γ' d) w1:=by
      by_cases F:p=0
      .exact⟨w',(h0 F).1,(h0 F).2⟩
      .obtain⟨_,e2⟩:=h1 aQ;obtain⟨w1,hC1,hs1⟩:=inv.Rt;rw[e2];exact⟨w1,hC1,λd hd hL=>hs1 d hd (IZ ho (λe=>F (hpz (by unfold xR;rw[WR e hd];simp))) hL)⟩
     refine ih _ _ _ γ' p b ⟨by simp[inv.size],closed',by rw[vJ];exact inv.FW,inv.pl,λk' hk'=>getD_set_true (inv.ZF k' hk'),λk' hk' hk2=>?_,λj B s A E hd hl=>?_,λs hs=>?_,λF=>⟨(h0 F).1,by rw[vK];exact(inv.z F).2.1,(h0 F).2⟩,wit',λF=>?_⟩ hcn
     .rw[getD_set_ne true (λe=>hnT k' hk2 e.symm)];exact inv.off k' hk' hk2
     .by_cases I:i=j
      .subst I;rw[ho] at A;injection A with A;subst A;rw[hd,D9 _ _ _ (by rw[inv.FW];exact ok.size i o s ho hd),hv s hd]
      .rw[getD_set_ne false I] at hl;have D:o.dst≠some s:=λe=>I (ok.xB i j o B s ho A e hd)
       rw[mM _ _ _ _ D,inv.new j B s A E hd hl,hγ s D]
     .have h1:o.dst≠some s:=hs i o ho (by simp[jA]);rw[mM _ _ _ _ h1];exact inv.AE s λj B A hl=>hs j B A (getD_set_true hl)
     .obtain⟨X,e2⟩:=h1 F;obtain⟨m1,m2,m3,m4,m5,m6⟩:=inv.n F;rw[X,e2];refine⟨m1,by rw[vK];exact m2,m3,m4,λj B s A E hd hl=>?_,m6⟩;have I:i≠j:=λe=>hT (by rw[e];exact E)
      rw[getD_set_ne false I] at hl;have D:o.dst≠some s:=λe=>I (ok.xB i j o B s ho A e hd)
      rw[mM _ _ _ _ D];exact m5 j B s A E hd hl
    have spw:∀d∈made,o.dst≠some d->wL l.toArray (q.setIfInBounds i true) d->wL l.toArray q d:=λd _ D h=>IZ ho D h
    have same:(∀s,o.dst=some s->s∉made)->wpAny P .any l.toArray Q fuel (q.setIfInBounds i true) (a.put o.dst (vals i)) w:=λK=>
     cont (vals i) γ w (λs hs=>by rw[aaA (K s hs)]) (λ_ _=>rfl) (λF=>⟨(inv.z F).1,λd hd h=>(inv.z F).2.2 d hd (spw d hd (λe=>K d e hd) h)⟩) (λ_=>⟨rfl,rfl⟩)
    unfold wpOp;simp only[ho];rcases hO with hO|⟨hw1,hq⟩|⟨hw1,hv,Y⟩
    .exact absurd (by simpa using hO) hT
    .rw[Zz (hw.trans hw1)];left
     unfold Oper.wp;rw[hx];unfold RO at hq;have MD:p=0->∀U:aC->aA->Prop,(∀v w',Z i w w'->U v w'->wpAny P .any l.toArray Q fuel (q.setIfInBounds i true) (a.put o.dst v) w')->(∀v,U v w->wpAny P .any l.toArray Q fuel (q.setIfInBounds i true) (a.put o.dst v) w)->
      AZ P (Z i) U w ((execOp (cO γ (l9 made l.toArray o) (kG a0 l vals i)).eval o).run P w)->
      Oper.upon P o a (wpAny P .any l.toArray Q fuel (q.setIfInBounds i true)) Q ((execOp (cO γ (l9 made l.toArray o) (kG a0 l vals i)).eval o).run P w):=by
      intro _ U hU _ hn;generalize (execOp (cO γ (l9 made l.toArray o) (kG a0 l vals i)).eval o).run P w=r at *;cases r with
      |ok n w'=>
       cases n <;> simp only[AZ] at hn <;> simp only[Oper.upon]
       case value u=>exact hU u w' hn.1 hn.2
       case skip=>exact hU undef w' hn.1 hn.2
       case enter f args=>obtain⟨X,hc1⟩:=hn;rw[X];exact hc1.mono λe w'' ⟨v,he,h1,M⟩=>by subst he;exact hU v w'' h1 M
      |halt x w'=>simp only[AZ] at hn
     have turned:∀w',Z i w w'->C w->C w':=λw' hz hC=>hZ i w w' hC hz
     cases hnd:pD made o with
     |some d=>
      rw[hnd] at hq;simp only at hq;obtain⟨hd,hm⟩:=Np hnd;have F:=hpz (by unfold xR;rw[hnd];simp);obtain⟨hC,_,O⟩:=inv.z F;have go:∀v w',Z i w w'->S d v w'->wpAny P .any l.toArray Q fuel (q.setIfInBounds i true) (a.put o.dst v) w':=λv w' hz hs=>
       cont v (λV=>if o.dst=some V then v else γ V) w' (λs R=>by rw[hd] at R;injection R with R;subst R;rw[Zz hm,Zz hd]) (λV D=>by rw[aaA D])
        (λ_=>⟨turned w' hz hC,λV J hL=>by
         by_cases e:o.dst=some V
         .rw[Zz e];rw[hd] at e;injection e with e;subst e;exact hs
         .rw[aaA e];exact hS i V J (by simp[jQ,hol];exact e) _ _ _ hC (O V J (spw V J e hL)) hz⟩) (λh=>absurd h aQ)
      exact MD F (S d) go (λv hs=>cont v (λV=>if o.dst=some V then v else γ V) w (λs R=>by rw[hd] at R;injection R with R;subst R;rw[Zz hm,Zz hd]) (λV D=>by rw[aaA D])
       (λ_=>⟨hC,λV J hL=>by
        by_cases e:o.dst=some V
        .rw[Zz e];rw[hd] at e;injection e with e;subst e;exact hs
        .rw[aaA e];exact O V J (spw V J e hL)⟩) (λh=>absurd h aQ)) (hq.2 γ w hC (λk hk=>O k (hlk k hk).1 (hwr k hk).1))
     |none=>
      rw[hnd] at hq;simp only at hq;have K:∀s,o.dst=some s->s∉made:=λs hs=>Oh hnd hs
      have keepZ:p=0->∀w',Z i w w'->wpAny P .any l.toArray Q fuel (q.setIfInBounds i true) (a.put o.dst (vals i)) w':=λF w' hz=>by
       obtain⟨hC,_,O⟩:=inv.z F;exact cont (vals i) γ w' (λs hs=>by rw[aaA (K s hs)]) (λ_ _=>rfl) (λ_=>⟨turned w' hz hC,λd hd h=>by
        have D:o.dst≠some d:=λe=>K d e hd
        exact hS i d hd (by simp[jQ,hol];exact D) _ _ _ hC (O d hd (spw d hd D h)) hz⟩) (λh=>absurd h aQ)
      by_cases hlk0:l9 made l.toArray o= []
      .rw[Zz hlk0] at hq;rw[hlk0];simp only[cO];by_cases hf:nJ o=true
       .rw[Zz hf] at hq;have H:=hq w ⟨⟨w⟩,rfl⟩;have hpl:=KR hf;unfold Oper.quietAt at H;have D:=λw' f args=>uQ (P:=P) hpl (kG a0 l vals i).eval w w' f args
        generalize (execOp (kG a0 l vals i).eval o).run P w=r at *;cases r with
        |ok n w'=>
         cases n <;> simp only[Oper.quietUpon] at H <;> simp only[Oper.upon]
         case value u=>obtain⟨X,e2⟩:=H;rw[X,e2];exact same K
         case skip=>obtain⟨X,e2⟩:=H;rw[X,<-e2];exact same K
         case enter f args=>exact absurd rfl (D w' f args)
        |halt x w'=>simp only[Oper.quietUpon] at H
       .rw[aaA hf] at hq;have F:=hpz (by unfold xR;simp at hf;rw[hf];rfl);obtain⟨hC,_,O⟩:=inv.z F;by_cases hc:wY o=true
        .rw[Zz hc] at hq;have H:KZ P (Z i) w (vals i) ((execOp (kG a0 l vals i).eval o).run P w):=hq ⟨w,hC⟩;generalize (execOp (kG a0 l vals i).eval o).run P w=r at *;cases r with
         |ok n w'=>
          cases n <;> simp only[KZ] at H <;> simp only[Oper.upon]
          case value u=>obtain⟨X,e2⟩:=H;rw[X,e2];exact same K
          case enter f args=>
           obtain⟨X,hc1⟩:=H;rw[X];exact hc1.mono λe w'' ⟨he,hb⟩=>by subst he;exact keepZ F w'' hb
         |halt x w'=>simp only[KZ] at H
        .rw[aaA hc] at hq;have H:=hq w ⟨⟨w,hC⟩,rfl⟩;have hpl:plain o=true:=by
          rcases ok.pl i o ho hT with h|h|h|h
          .exact h
          .exact absurd h hc
          .rw[hnd] at h;cases h
          .exact absurd hlk0 h
         unfold Oper.quietAt at H;have D:=λw' f args=>uQ (P:=P) hpl (kG a0 l vals i).eval w w' f args
         generalize (execOp (kG a0 l vals i).eval o).run P w=r at *;cases r with
         |ok n w'=>
          cases n <;> simp only[Oper.quietUpon] at H <;> simp only[Oper.upon]
          case value u=>obtain⟨X,e2⟩:=H;rw[X,e2];exact same K
          case skip=>obtain⟨X,e2⟩:=H;rw[X,<-e2];exact same K
          case enter f args=>exact absurd rfl (D w' f args)
         |halt x w'=>simp only[Oper.quietUpon] at H
      .rw[aaA hlk0] at hq;by_cases hf:nJ o=true
       .rw[Zz hf] at hq;obtain⟨w1,hC1,hs1⟩:=inv.Rt;have H:=hq γ w1 hC1 (λk hk=>hs1 k (hlk k hk).1 (hwr k hk).1) w;have hpl:=KR hf;have D:=λw' f args=>uQ (P:=P) hpl (cO γ (l9 made l.toArray o) (kG a0 l vals i)).eval w w' f args
        generalize (execOp (cO γ (l9 made l.toArray o) (kG a0 l vals i)).eval o).run P w=r at *;cases r with
        |ok n w'=>
         cases n <;> simp only[AZ] at H <;> simp only[Oper.upon]
         case value u=>obtain⟨X,e2⟩:=H;rw[X,e2];exact same K
         case skip=>obtain⟨X,e2⟩:=H;rw[X,e2];exact same K
         case enter f args=>exact absurd rfl (D w' f args)
        |halt x w'=>simp only[AZ] at H
       rw[aaA hf] at hq;have F:=hpz (by unfold xR;simp at hf;rw[hf];rfl);obtain⟨hC,_,O⟩:=inv.z F;exact MD F (λu _=>u=vals i) (λv w' hz hv=>by rw[hv];exact keepZ F w' hz) (λv hv=>by rw[hv];exact same K) (hq γ w hC (λk hk=>O k (hlk k hk).1 (hwr k hk).1))
    .rw[aaA (by rw[hw,hw1];simp)];by_cases K:∃d,o.dst=some d/\d∈made
     .obtain⟨d,hd,hm⟩:=K;have hnd:=WR hd hm;have F:=hpz (by unfold xR;rw[hnd];simp);obtain⟨hC,_,O⟩:=inv.z F;exact cont undef (λV=>if o.dst=some V then undef else γ V) w (λs R=>by rw[hd] at R;injection R with R;subst R;rw[Zz hm,Zz hd]) (λV D=>by rw[aaA D])
       (λ_=>⟨hC,λV J hL=>by
        by_cases e:o.dst=some V
        .rw[Zz e];rw[hd] at e;injection e with e;subst e;exact Y d hnd w hC
        .rw[aaA e];exact O V J (spw V J e hL)⟩) (λh=>absurd h aQ)
     .have:=same (λs hs hm=>K ⟨s,hs,hm⟩);rw[hv] at this;exact this
theorem bO{a:Act}(C:aA->Prop)(Z:Nat->aA->aA->Prop)(made:List Nat)(S:Nat->aC->aA->Prop)(T:List Nat)(pt:List (List Nat))(N:Nat)(g:C w0.drew)(n:∀i w w',C w->Z i w w'->C w')
 (p:∀i,∀d∈made,jQ l.toArray i≠some d->∀v w w',C w->S d v w->Z i w w'->S d v w') (hm:P.follows .mixedOrders=true) (q:PO T made pt N l.toArray=true) (m:a.tmps.size=N)
 (h:oJ P l.toArray T C Z made S (λr=>∀(γ:Nat->aC) (w:aA),C w->(∀d∈made,S d (γ d) w)->wpList P l.toArray (qA Q) (T.filterMap λt=>l[t]?) (cO γ made r) w) 0 l a):
 (Code.region id l.toArray true).wp P Q a w0:=by
 have ok:=WD q;obtain⟨vals,e,b⟩:=Jj l 0 a h;refine wp_region_any hm ?_;have hf:∀j,(Array.replicate l.toArray.size false).getD j false=true->False:=λj c=>by rw[getD_replicate_false] at c;cases c
 refine As (vals:=vals) n p ok m (λj o c=>by have:=e j o c;rwa [aa8] at this) b l.toArray.size _ a _ (λ_=>undef) 0 a ⟨aT,λj u _ hl=>(hf j hl).elim,m,aaH _,λk hk=>absurd hk (acH _),λk _ hk=>?_,λj o s _ _ _ hl=>(hf j hl).elim,λs _=>rfl,λ_=>⟨g,rfl,λd _ ⟨j,o,_,_,hl⟩=>(hf j hl).elim⟩,⟨_,g,λd _ ⟨j,o,_,_,hl⟩=>(hf j hl).elim⟩,λh=>absurd h (abX _)⟩ (by simp[u9]);have f:T.getD k 0<l.toArray.size:=ok.Ki _ (by rw[tV hk];exact aaF hk);exact getD_in (by simpa using f) (getD_replicate_false _ _)
variable{ops:Array aK}{Qf:Act->Prop}{o:aK}{rest:List aK}{a:Act}{i:Nat}
theorem K9(b:T.contains i=true)(h:oJ P ops T C Z made S Qf (i+1) rest (a.put o.dst undef)):oJ P ops T C Z made S Qf i (o::rest) a:=by
 unfold oJ;rw[Zz b];exact h
theorem FY(b:T.contains i=false)(hk:pD made o=none)(hl:l9 made ops o= [])(hf:nJ o=true)(hw:Region.wanted o (yielded ops a.tmps)=true)(h:∀K:Act->Prop,(∀a,oJ P ops T C Z made S Qf (i+1) rest a->K a)->o.quiet P a (λw=>∃n:LP,w=n.w) K):oJ P ops T C Z made S Qf i (o::rest) a:=by
 obtain⟨v,h1,c⟩:=h _ (λ_ h=>h);unfold oJ;rw[aaA (by rw[b];simp),Zz hw];refine⟨v,?_,c⟩;unfold RO;rw[hk];simp only;rw[Zz hl,Zz hf];exact h1
theorem VP(b:T.contains i=false)(hk:pD made o=none)(hl:l9 made ops o= [])(hf:nJ o=false)(hc:wY o=false)(hw:Region.wanted o (yielded ops a.tmps)=true)(h:∀K:Act->Prop,(∀a,oJ P ops T C Z made S Qf (i+1) rest a->K a)->o.quiet P a (λw=>∃n:CW C,w=n.w) K):oJ P ops T C Z made S Qf i (o::rest) a:=by
 obtain⟨v,h1,c⟩:=h _ (λ_ h=>h);unfold oJ;rw[aaA (by rw[b];simp),Zz hw];refine⟨v,?_,c⟩;unfold RO;rw[hk];simp only;rw[Zz hl,hf,hc];exact h1
theorem FX(b:T.contains i=false)(hk:pD made o=none)(hl:l9 made ops o= [])(hc:wY o=true)(hw:Region.wanted o (yielded ops a.tmps)=true)(h:∀K:Act->Prop,(∀a,oJ P ops T C Z made S Qf (i+1) rest a->K a)->∃v,(∀n:CW C,KZ P (Z i) n.w v ((execOp a.eval o).run P n.w))/\K (a.put o.dst v)):oJ P ops T C Z made S Qf i (o::rest) a:=by
 obtain⟨v,h1,c⟩:=h _ (λ_ h=>h);unfold oJ;rw[aaA (by rw[b];simp),Zz hw];refine⟨v,?_,c⟩;unfold RO;rw[hk];simp only;have hf:nJ o=false:=by
  obtain⟨dst,op,ty,pos,after,guard⟩:=o;cases op <;> simp_all[nJ,wY]
 rw[Zz hl,hf,aaA aT,Zz hc];exact h1
theorem OU(b:T.contains i=false)(hk:pD made o=none)(hw:Region.wanted o (yielded ops a.tmps)=false)(h:oJ P ops T C Z made S Qf (i+1) rest (a.put o.dst undef)):oJ P ops T C Z made S Qf i (o::rest) a:=by
 unfold oJ;rw[aaA (by rw[b];simp),aaA (by rw[hw];simp)];exact⟨(λd hd=>by rw[hk] at hd;cases hd),h⟩
theorem uG(d:Nat)(ks:List Nat)(b:T.contains i=false)(hk:pD made o=some d)(hl:l9 made ops o=ks)(hw:Region.wanted o (yielded ops a.tmps)=true)
 (h1:∀(γ:Nat->aC) (w:aA),C w->(∀k∈ks,S k (γ k) w)->AZ P (Z i) (S d) w ((execOp (cO γ ks a).eval o).run P w)) (h:oJ P ops T C Z made S Qf (i+1) rest (a.put o.dst undef)):oJ P ops T C Z made S Qf i (o::rest) a:=by
 subst hl;unfold oJ;rw[aaA (by rw[b];simp),Zz hw];refine⟨undef,?_,h⟩;unfold RO;rw[hk];exact⟨rfl,h1⟩
theorem dC(h:Qf a):oJ P ops T C Z made S Qf i [] a:=h
end
theorem bD{p:Addr}(c:W.cell? p=some v):∀n:CW (bS W),n.w.cell? p=some v:=λn=>bG n.ok c
instance Us (W:aA):Nonempty (CW (bS W)):=⟨⟨W,Below.refl _ _⟩⟩
theorem bY(W:aA):bS W W.drew:=(Below.refl W W).drew
theorem bU{a b c:aA}(h:bS a b)(k:bS b c):bS a c:=fK h (Zw _) k
theorem p5{R:aA->aA->Prop}(h1:R w w')(b:U v w'):AZ P R U w (.ok (.value v) w'):=⟨h1,b⟩
end
end
end Go.Proofs.YtacgiflhgdaeaaaGreat
