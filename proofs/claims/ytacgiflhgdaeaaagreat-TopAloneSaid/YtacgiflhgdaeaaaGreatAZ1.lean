/- Texts laid as one. -/
import Derived.Test.YtacgiflhgdaeaaaGreatRows
import Derived.WalkKit
import Derived.WalkSpells
import Derived.WalkLawsBesides
import Derived.Deep.RegionHeld3
import Derived.Lib.Hide
import Derived.Deep.QuietTactic
import Derived.BigQuiet
import Derived.Deep.Draws
import Derived.ProofKit
import Derived.Lib.SmallJoins
import Derived.Deep.Slices
import Derived.Deep.Fields
import Derived.Deep.AppendLies
import Derived.OwnWalk
import Derived.Laws.OwnMore
import Derived.Laws.Rows
import Derived.Maps.AppendAt
import Derived.RegionTactic
set_option linter.unusedVariables false
set_option linter.unusedSimpArgs false
set_option maxRecDepth 100000
set_option maxHeartbeats 20000000
namespace Go.Proofs.YtacgiflhgdaeaaaGreat
open Go.Proofs.Tryz
open Go renaming World->aA,Value->aC,Addr->aJ,Oper->aK,Ending->aM,TypeId->aN,Program->aO,Calls->aG
open Go.RowKit renaming Below->aD,Hid->aH
section
open Go.ChangeShapes Go.WideShapes Go.ChangeAt Go.RowKit
variable{v z:aC}{W w1 w2 w W':aA}{P:aO}{K2:aM->aA->Prop}{aa:Prop}
section
abbrev Zv:=@List.getElem?_eq_getElem
abbrev Zw:=@Nat.le_refl
abbrev Zx:=@List.setIfInBounds_toArray
abbrev Zy:=@Nat.lt_of_lt_of_le
abbrev Zz:=@if_pos
abbrev aaA:=@if_neg
abbrev aaB:=@Int.eq_ofNat_of_zero_le
abbrev aaC:=@Nat.le_trans
abbrev aaD:=@List.set_cons_succ
abbrev aaE:=@List.set_cons_zero
abbrev aaF:=@List.getElem_mem
abbrev aaG:=@Int.toNat_natCast
abbrev aaH:=@Nat.zero_le
abbrev aaI:=@List.getD_eq_getElem?_getD
abbrev aaJ:=@List.getElem?_append_right
abbrev aaK:=@List.mem_singleton
abbrev aaL:=@List.length_set
abbrev aaM:=@List.length_append
abbrev aaN:=@List.getElem?_eq_some_iff
abbrev aaO:=@List.mem_append
abbrev aaP:=@decide_eq_false
abbrev aaQ:=@List.set_append_right
abbrev aaR:=@List.getElem?_toArray
abbrev aaS:=@List.take_of_length_le
abbrev aaT:=@List.findIdx?_eq_some_iff_getElem
abbrev aaU:=@Nat.add_zero
abbrev aaV:=@List.getElem?_append_left
abbrev aaW:=@Classical.byContradiction
abbrev aaX:=@Array.getElem?_toList
abbrev aaY:=@if_false
abbrev aaZ:=@Bool.false_eq_true
abbrev aa0:=@List.flatMap_cons
abbrev aa1:=@List.getElem_of_mem
abbrev aa2:=@decide_eq_true
abbrev aa3:=@List.take_append_getElem
abbrev aa4:=@Option.map_some
abbrev aa5:=@List.eq_nil_of_length_eq_zero
abbrev aa6:=@Bool.and_eq_true
abbrev aa7:=@List.getElem?_take
abbrev aa8:=@Nat.zero_add
abbrev aa9:=@List.length_cons
abbrev abA:=@List.getElem_set
abbrev abB:=@List.length_map
abbrev abC:=@List.mem_or_eq_of_mem_set
abbrev abD:=@Nat.add_assoc
abbrev abE:=@List.take_add_one
abbrev abF:=@List.getElem?_set
abbrev abG:=@List.getElem_cons_succ
abbrev abH:=@List.findIdx?_eq_none_iff
abbrev abI:=@if_true
abbrev abJ:=@List.length_take
abbrev abK:=@List.eq_of_mem_replicate
abbrev abL:=@List.getElem_cons_zero
abbrev abM:=@List.length_nil
abbrev abN:=@List.append_assoc
abbrev abO:=@Array.getElem?_eq_getElem
abbrev abP:=@Nat.le_succ
abbrev abQ:=@of_decide_eq_true
abbrev abR:=@List.getElem?_eq_none
abbrev abS:=@Classical.not_not
abbrev abT:=@Option.map_none
abbrev abU:=@Nat.mul_le_mul_right
abbrev abV:=@List.mem_of_getElem?
abbrev abW:=@List.Sublist.refl
abbrev abX:=@Nat.lt_irrefl
abbrev abY:=@List.getElem?_drop
abbrev abZ:=@List.mem_filter
abbrev ab0:=@List.length_modify
abbrev ab1:=@List.mem_range
abbrev ab2:=@List.length_eraseIdx
abbrev ab3:=@Int.le_refl
abbrev ab4:=@Option.isSome_some
abbrev ab5:=@Option.isSome_none
abbrev ab6:=@List.map_set
abbrev ab7:=@true_and
abbrev ab8:=@List.ext_getElem
abbrev ab9:=@List.take_length
abbrev acA:=@List.set_append_left
abbrev acB:=@decide_eq_true_eq
abbrev acC:=@List.foldl_append
abbrev acD:=@Nat.mul_one
abbrev acF:=@Nat.add_mul
abbrev acG:=@List.filterMap_append
abbrev acH:=@Nat.not_lt_zero
abbrev acI:=@false_and
abbrev acJ:=@List.getElem?_set_ne
abbrev acK:=@List.pairwise_iff_getElem
abbrev acL:=@List.mem_map
abbrev acM:=@List.length_drop
abbrev acN:=@List.length_replicate
abbrev acO:=@List.mem_filterMap
abbrev acP:=@List.filter_append
abbrev acQ:=@List.mem_cons
abbrev acR:=@List.drop_eq_getElem_cons
abbrev acS:=@List.getElem?_map
abbrev acT:=@Ne.symm
abbrev acU:=@List.mem_of_mem_eraseIdx
abbrev acV:=@List.range_succ
abbrev acW:=@Nat.lt_or_ge
abbrev acY:=@List.foldl_cons
abbrev acZ:=@List.pairwise_append
abbrev ac0:=@List.pairwise_singleton
abbrev ac1:=@List.all_eq_true
abbrev ac2:=@List.contains_eq_mem
abbrev ac3:=@List.length_eraseIdx_le
abbrev ac4:=@Array.getElem?_eq_none
abbrev ac5:=@List.size_toArray
abbrev ac6:=@Array.length_toList
abbrev ac7:=@List.append_nil
abbrev ac8:=@Option.isNone_iff_eq_none
abbrev ac9:=@List.length_filter_le
abbrev adA:=@List.mem_eraseIdx_iff_getElem
abbrev adB:=@List.mem_append_left
abbrev adC:=@List.getElem_toArray
abbrev adD:=@List.ext_getElem?
abbrev adE:=@List.getElem?_replicate
abbrev adF:=@List.nil_append
abbrev adG:=@List.flatMap_append
abbrev adH:=@List.take_succ_cons
abbrev adI:=@List.drop_succ_cons
abbrev adJ:=@Bool.true_eq_false
abbrev adK:=@List.pairwise_cons
abbrev adL:=@Array.getElem?_append_left
abbrev adM:=@Int.tmod_eq_emod_of_nonneg
abbrev adN:=@Array.getElem?_modify
abbrev adO:=@Nat.zero_mul
abbrev adP:=@Nat.one_mul
abbrev adQ:=@List.mem_of_mem_take
abbrev adR:=@List.any_eq_true
abbrev adS:=@List.drop_append_of_le_length
abbrev adT:=@Option.toList_some
abbrev adU:=@List.map_append
abbrev adV:=@List.length_singleton
abbrev adW:=@Array.getD_eq_getD_getElem?
abbrev adX:=@Array.getElem?_eq_some_iff
abbrev adY:=@List.drop_zero
abbrev adZ:=@Bool.and_false
abbrev ad0:=@Option.ne_none_iff_exists'
abbrev ad1:=@List.take_zero
abbrev ad2:=@List.mem_of_find?_eq_some
abbrev ad3:=@Option.isSome_iff_exists
abbrev ad4:=@List.length_filterMap_le
abbrev ad5:=@Array.ext_getElem?
abbrev ad6:=@of_decide_eq_false
abbrev ad7:=@List.getElem?_cons_succ
abbrev ad8:=@Nat.add_sub_cancel_left
abbrev ad9:=@Nat.mul_comm
abbrev aeA:=@List.drop_of_length_le
abbrev aeB:=@Option.some.injEq
abbrev aeC:=@Nat.lt_succ_of_lt
abbrev aeD:=@getElem!_pos
abbrev aeE:=@List.getElem_replicate
abbrev aeF:=@List.eraseIdx_sublist
abbrev aeG:=@decide_eq_decide
abbrev aeH:=@Option.getD_some
abbrev aeI:=@Nat.div_lt_of_lt_mul
abbrev aeJ:=@Array.getElem_toList
abbrev aeK:=@Prod.mk.inj
abbrev aeL:=@List.filterMap_cons
abbrev aeM:=@List.mem_map_of_mem
abbrev aeN:=@beq_eq_false_iff_ne
abbrev aeO:=@Nat.le_of_eq
abbrev aeP:=@Nat.mod_lt
abbrev aeQ:=@Bool.false_and
instance:Coe Int aC:=⟨λx=>.int .i64 x⟩
instance:Coe Nat aC:=⟨λx=>.int .i64 x⟩
instance:Coe Nat (Option aJ):=⟨λx=>some ⟨x,0,none⟩⟩
instance:Coe Bool aC:=⟨λx=>.bool x⟩
instance:Coe aA Nat:=⟨λw=>w.heap.size⟩
instance(a b:Nat):CoeDep (Nat×Nat) (a,b) aJ:=⟨⟨a,b,none⟩⟩
instance(a:aA)(b:Nat):CoeDep (aA×Nat) (a,b) aJ:=⟨⟨a.heap.size,b,none⟩⟩
instance(a:Option aJ)(n c:Nat):CoeDep (Option aJ×Nat×Nat) (a,n,c) aC:=⟨.slice a n c⟩
instance(a n c:Nat):CoeDep (Nat×Nat×Nat) (a,n,c) aC:=⟨.slice (some ⟨a,0,none⟩) n c⟩
inductive aU
instance:CoeDep Type aU aC:=⟨.int .i64 0⟩
inductive bC
instance:CoeDep Type bC aC:=⟨.int .u64 0⟩
inductive bH
instance:CoeDep Type bH aC:=⟨.slice none 0 0⟩
inductive pH
instance:CoeDep Type pH aC:=⟨.pointer none⟩
theorem _root_.Go.RowKit.Hid.o{p:Prop}(h:aH p):p:=h.out
theorem aP{p:Prop}(h:p):aH p:=h
theorem aQ{P:Prop}(h:P:=by omega):P:=h
theorem aT{P:Prop}(h:P:=by simp):P:=h
theorem aV{P:Prop}(h:P:=by kernel_rfl):P:=h
theorem bL{P:Prop}(h:P:=by rfl):P:=h
theorem cC{P:Prop}(h:P:=by decide):P:=h
theorem dI{P:Prop}(h:P:=by simp only[maxLen];omega):P:=h
theorem bT{P:Prop}(h:P:=by simp;omega):P:=h
theorem bN{a b:Prop}(x:a)(y:b):aH (a/\b):=⟨x,y⟩
theorem dA{a b c:Prop}(x:a)(y:b)(z:c):aH (a/\b/\c):=⟨x,y,z⟩
theorem jL{a b:Bool}(h:a=b):Ending.returned (.bool a)= .returned (.bool b):=by rw[h]
theorem lT{k:IntKind}{a b:Int}(h:a=b):Ending.returned (.int k a)= .returned (.int k b):=by rw[h]
theorem RI{k:IntKind}{a b:Int}(h:a=b):Ending.returned (.tuple #[.int k a,v])= .returned (.tuple #[.int k b,v]):=by rw[h]
theorem aX(w:aA)(o:Obj):aD w w (w.alloc o):=(Below.refl _ _).alloc (Zw _) _
theorem WY(hb:aD W W w1):(∀b o,b<W.heap.size->w1.cell? ⟨b,o,none⟩=W.cell? ⟨b,o,none⟩)/\(∀b o,b<W.heap.size->w1.frozen? ⟨b,o,none⟩=W.frozen? ⟨b,o,none⟩):=
 ⟨λb o h=>hb.cell (p:=⟨b,o,none⟩) h,λb o h=>hb.frozen (p:=⟨b,o,none⟩) h⟩
theorem bG{p:aJ}(hb:aD W W w1)(h:W.cell? p=some v):w1.cell? p=some v:=by
 rw[hb.cell (World.block_lt_of_cell? W p h)];exact h
theorem fK{B:Nat}(h:aD B W w1)(a:B<=W.heap.size)(b:aD w1 w1 w2):aD B W w2:=
 h.trans (b.mono (aaC a h.size))
theorem fD{B:Nat}{a:aA}(h:aD B a w)(n:Nat):aD B a (w.drewN n):=⟨h.os,h.tape,h.output,h.size,h.block⟩
theorem Vg{p q:aJ}(h:aD W W w1/\w1.cell? p=some v/\w1.cell? q=some z)(hb:aD w1 w1 w2):
 aD W W w2/\w2.cell? p=some v/\w2.cell? q=some z:=⟨fK h.1 (Zw _) hb,bG hb h.2.1,bG hb h.2.2⟩
theorem wf_u64{x:Int}(h:(Lit.int .u64 x).wf=true):0<=x/\x<18446744073709551616:=by
 have:=h;simp[Lit.wf,IntKind.min,IntKind.max,IntKind.signed,IntKind.bits] at this;omega
theorem wf_u8{x:Int}(h:(Lit.int .u8 x).wf=true):0<=x/\x<256:=by
 have:=h;simp[Lit.wf,IntKind.min,IntKind.max,IntKind.signed,IntKind.bits] at this;omega
theorem own:ownKnob prog.godebug=none:=aV
theorem laidOut:laidOutB prog=true:=aV
theorem C7{H:Type}{enc:aN×aC->H}(hb:aD W W W'):
 ∀(ts:List aN) (e:List aC) (f:List (DataW H)) (ps:List MemPlace),
  (∀t∈ts,prog.readableRec t=true/\t<prog.types.size)->
  DataW.TrodAll enc prog W 0 (λ_=>true) true ts e f ps->(∀x∈ps,x.block<W.heap.size)->
  DataW.TrodAll enc prog W' 0 (λb=>decide (b<W.heap.size)) true ts e f ps
 | [], [], [],ps,_,h,_=>h
 |t::ts,v::e,d::f,ps,ht,h,a=>by
  obtain⟨p,q,h1,i,rfl⟩:=h;have c:=ht t aT;refine⟨p,q,Below.trod laidOut c.1 c.2 h1 hb (λx g=>a x (by simp[g])),?_,rfl⟩;exact C7 hb ts e f q (λj k=>ht j (by simp[k])) i (λx g=>a x (by simp[g]))
 | [],_::_,_,_,_,h,_=>by cases h
 | [], [],_::_,_,_,h,_=>by cases h
 |_::_, [],_,_,_,h,_=>by cases h
 |_::_,_::_, [],_,_,h,_=>by cases h
theorem Gm{H:Type}{enc:aN×aC->H}{f:Func}{s:ChangeSpec}{tb:aN}(a:s.vars= [])(e:f.resultTypes=#[tb])(b:prog.underlying tb=some .bool)
 {args:Array aC} {i gs:List (DataW H)} {before:List MemPlace}
 (c:∀t∈f.params.toList,prog.readableRec t=true/\t<prog.types.size)
 (j:DataW.Whole enc prog f.params.toList s.vars false W args.toList i gs before)
 (d:s.fn H (i++gs)={results:= [.lit (.bool true)],args:=i}) (hb:aD W W W'):
 s.post enc prog f false true false false W args (.bool true) W':=by
 have k:=j.lt;have l:=j;obtain⟨p,q,m,n,rfl,o,r⟩:=l;rw[a] at n;have g:∀x∈p,x.block<W.heap.size:=λx u=>k x (by simp[u])
 refine⟨i,gs,p++q, [],p, [],j,?_,?_,?_,hb.frame _,λh=>by cases h⟩
 .rw[d,e];exact trodAll_mk1 (shut_bool b true)
 .rw[d];exact C7 hb _ _ _ _ c m g
 .rw[d,a];rfl
theorem aR{n:FuncId}{a:Array aC}{K:aM->aA->Prop}(h:aH (aG P n a w K))(k:∀e b,K e b->K2 e b):aG P n a w K2:=Calls.mono h k
theorem aS{n:FuncId}{a:Array aC}{K:aM->aA->Prop}(h:aG P n a w K)(k:∀e b,K e b->K2 e b):aG P n a w K2:=Calls.mono h k
theorem eA{P:Prop}(p:P)(f:aH P->aa:=by intro a;(first|(refine K9 (by rfl) ?_;(try simp only[Act.put,Zx,aaE,aaD]))|(refine FY (by rfl) (by rfl) (by rfl) (by rfl) (by rfl) (λK hK=>?_);go_big_quiet_op;refine hK _ ?_;clear hK K)|(refine VP (by rfl) (by rfl) (by rfl) (by rfl) (by rfl) (by rfl) (λK hK=>?_);go_big_quiet_op;refine hK _ ?_;clear hK K)|(refine OU (by rfl) (by rfl) (by rfl) ?_;(try simp only[Act.put,Zx,aaE,aaD]))|(refine FX (by rfl) (by rfl) (by rfl) (by rfl) (by rfl) (λK hK=>?_);go_simp;(try simp only[KZ,ab7]);first|(apply Exists.intro;refine⟨λn=>rfl,hK _ ?_⟩;clear hK K;(try simp only[Act.put,Zx,aaE,aaD]))));exact a.o):aa:=f p
theorem Zk{P:Prop}(p:P)(f:aH P->aa:=by intro a;(first|(refine ch_row (by rfl) ?_;(try simp only[Act.put,Zx,aaE,aaD]))|(refine ch_free (by rfl) (by rfl) (by rfl) (λK hK=>?_);go_big_quiet_op;refine hK _ ?_;clear hK K)|(refine ch_read (by rfl) (by rfl) (by rfl) (λK hK=>?_);go_big_quiet_op;refine hK _ ?_;clear hK K)|(refine ch_no (by rfl) (by rfl) ?_;(try simp only[Act.put,Zx,aaE,aaD])));exact a.o):aa:=f p
theorem Zj{P:Prop}(p:P)(f:aH P->aa:=by intro a;(first|(refine sh_q (by rfl) (by rfl) (by rfl) (λK hK=>?_);go_big_quiet_op;refine hK _ ?_;clear hK K)|(refine sh_skip (by rfl) (by rfl) ?_;(try simp only[Act.put,Zx,aaE,aaD]))|(refine sh_call (by rfl) (by rfl) (by rfl) (λK hK=>?_);go_simp;(try simp only[CUp,ab7]);first|(apply Exists.intro;refine⟨λn=>rfl,hK _ ?_⟩;clear hK K;(try simp only[Act.put,Zx,aaE,aaD]))));exact a.o):aa:=f p
theorem dE{P:Prop}(p:P)(f:aH P->aa:=by intro a;simp only[Act.put,Zx,aaE,aaD];exact a.o):aa:=f p
theorem dP{P:Prop}(p:P)(f:aH P->aa:=by intro a;simp only[aeL,List.filterMap_nil,ad7,List.getElem?_cons_zero];exact a.o):aa:=f p
end
end
section
open Go.ChangeShapes Go.WideShapes Go.ChangeAt Go.RowKit Go.Deep
variable{w w' W w1 w2:aA}{A:Option aJ}{i b0 sz n:Nat}{v:aC}{P:aO}{fs:Array Field}
section
section
variable{α:Type}{enc:α->List aC}{sz:Nat}
theorem eZ(he:∀x,(enc x).length=sz)(xs:List α):(xs.flatMap enc).length=xs.length *sz:=by
 induction xs with
 |nil=>simp
 |cons x xs a=>simp only[aa0,aaM,aa9,a,he x,acF];omega
theorem kM(he:∀x,(enc x).length=sz):∀(xs:List α) (i:Nat) (x:α) (j:Nat),xs[i]?=some x->j<sz->(xs.flatMap enc)[i *sz+j]?=(enc x)[j]?
 | [],i,x,j,h,_=>by simp at h
 |y::ys,0,x,j,h,a=>by
  simp at h;subst h;simp only[aa0,adO,aa8];rw[aaV (by rw[he];exact a)]
 |y::ys,i+1,x,j,h,a=>by
  simp at h;simp only[aa0];rw[aaJ (by rw[he,acF];omega),he,show(i+1) *sz+j - sz=i *sz+j by rw[acF];omega];exact kM he ys i x j h a
def Sl(enc:α->List aC)(sz:Nat)(w:aA)(A:Option aJ)(xs:List α):Prop:=
 0<xs.length->∃b off,A=some ⟨b,off,none⟩/\∀(i:Nat) (x:α) (j:Nat) (u:aC),xs[i]?=some x->(enc x)[j]?=some u->w.cell? ⟨b,off+(i *sz+j),none⟩=some u
theorem Sl.nil(w:aA)(A:Option aJ):Sl enc sz w A []:=λh=>absurd h aT
theorem Sl.keep{xs:List α}(h:Sl enc sz w A xs)(hb:aD w w w'):Sl enc sz w' A xs:=λa=>by
 obtain⟨b,off,c,hc⟩:=h a;exact⟨b,off,c,λi x j u d hu=>bG hb (hc i x j u d hu)⟩
theorem Sl.alloc{xs:List α}(h:Sl enc sz w A xs)(o:Obj):Sl enc sz (w.alloc o) A xs:=h.keep (aX _ _)
theorem Sl.at_{xs:List α}(h:Sl enc sz w A xs)(hi:i<xs.length):
 ∃b off,A=some ⟨b,off,none⟩/\∀(j:Nat) (u:aC),(enc xs[i])[j]?=some u->w.cell? ⟨b,off+(i *sz+j),none⟩=some u:=by
 obtain⟨b,off,a,hc⟩:=h aQ;exact⟨b,off,a,λj u hu=>hc i _ j u (Zv hi) hu⟩
theorem XU{base:Nat}{e:aN}{xs:List α}(he:∀x,(enc x).length=sz)(h:w.ownsRow base e sz v xs.length (xs.flatMap enc)):
 ∃A c,v= .slice A xs.length c/\Sl enc sz w A xs:=by
 rcases h.2 with⟨a,f⟩|⟨g,cap,cur,a,l,m,h1,n,o,p⟩
 .refine⟨none,0,by rw[a,f],λq=>by omega⟩
 .refine⟨some ⟨g,0,none⟩,cap,a,λ_=>⟨g,0,rfl,λi x j u d hu=>?_⟩⟩;subst a;have k:j<sz:=by rw[<-he x];exact(aaN.1 hu).1
  have hi:i<xs.length:=(aaN.1 d).1;have b:i *sz+j<xs.length *sz:=by
   have:(i+1) *sz<=xs.length *sz:=abU _ hi;rw[acF] at this;omega
  rw[aa8,h.cellAt _ b,kM he xs i x j d k,hu]
end
theorem K0{row:Option Nat}(h:aD W W w1)(a:w1.grownBy w2 row)(b:∀k,row=some k->W.heap.size<=k):aD W W w2:=h.grown a h.size b
def eI(x:Int):List aC:= [.int .i64 x]
def eU(x:Int):List aC:= [.int .u64 x]
theorem KS(x:Int):(eI x).length=1:=rfl
theorem To(x:Int):(eU x).length=1:=rfl
theorem Sl.ET{xs:List Int}(h:Sl eI 1 w A xs)(hi:i<xs.length):
 ∃b off,A=some ⟨b,off,none⟩/\w.cell? ⟨b,off+i,none⟩=some (.int .i64 xs[i]):=by
 obtain⟨b,off,a,hc⟩:=h.at_ hi;refine⟨b,off,a,?_⟩;have:=hc 0 _ (show(eI xs[i])[0]?=some (.int .i64 xs[i]) from rfl);simpa using this
theorem Sl.ZK{xs:List Int}(h:Sl eU 1 w A xs)(hi:i<xs.length):
 ∃b off,A=some ⟨b,off,none⟩/\w.cell? ⟨b,off+i,none⟩=some (.int .u64 xs[i]):=by
 obtain⟨b,off,a,hc⟩:=h.at_ hi;refine⟨b,off,a,?_⟩;have:=hc 0 _ (show(eU xs[i])[0]?=some (.int .u64 xs[i]) from rfl);simpa using this
theorem DT(n:Nat):(madeCells (Value.int .i64 0).cells (n *1)).toList=(List.replicate n 0).flatMap eI:=by
 have h1:(List.replicate n (0:Int)).flatMap eI=List.replicate n (Value.int .i64 0):=by
  induction n with
  |zero=>rfl
  |succ n a=>rw[List.replicate_succ,aa0,a];rfl
 rw[h1];apply ab8
 .simp[madeCells]
 .intro i b c;simp[madeCells,Value.cells,Nat.mod_one]
theorem YC{H:Type}{B:aN×aC->H}{r:Reach}{t e:aN}{d:DataW H}{p:List MemPlace}{α:Type}{enc:α->List aC}(b:α->Prop)
 (V:P.underlying t=some (.slice e)) (hC:P.cellsOf e=sz) (jA:0<sz) (Z:Value.okWide P w r b0 t v) (h:DataW.Trod B P w 0 (λ_=>true) true t v d p)
 (E:∀(cs:List aC) (x:DataW H×List MemPlace) (n:Nat),cs.length=sz->DataW.trod B P w 0 (λ_=>true) true n e cs=some x->∃a:α,cs=enc a/\b a):
 ∃(A:Option aJ) (xs:List α) (c:Nat),v= .slice A xs.length c/\xs.length<=c/\c<=maxLen/\Sl enc sz w A xs/\(∀x∈xs,b x):=by
 obtain⟨A,len,cap,rfl⟩:=okWide_slice V Z;obtain⟨fuel,hf⟩:=h;rcases open_slice V hf with⟨g,_⟩|⟨a,W,X,m,n,D,Pl,g,_,hl,hm,F,_,hi⟩
 .simp[Value.cells] at g;obtain⟨rfl,rfl,rfl⟩:=g;exact⟨none, [],0,rfl,aT,by simp[maxLen],Sl.nil _ _,aT⟩
 .simp[Value.cells] at g;obtain⟨rfl,rfl,rfl⟩:=g;simp at F;subst F;have key:∀i:Nat,∃x:Option α,i<len->∃y,x=some y/\b y/\w.cells? 0 (a.add (i *sz)) sz=some (enc y):=λi=>by
   by_cases O:i<len
   .obtain⟨cs',hc,hd⟩:=hi i aQ;rw[hC] at hc;obtain⟨y,rfl,Q⟩:=E cs' _ n (World.cells?_some hc).2.1 hd;exact⟨some y,λ_=>⟨y,rfl,Q,hc⟩⟩
   .exact⟨none,λh=>absurd h O⟩
  obtain⟨f,R⟩:=Classical.axiomOfChoice key;let xs:=(List.range len).filterMap f
  have l:∀i,i<len->∃y,f i=some y/\b y/\w.cells? 0 (a.add (i *sz)) sz=some (enc y):=R;have hlen:∀k,k<=len->((List.range k).filterMap f).length=k:=by
   intro k;induction k with
   |zero=>simp
   |succ k S=>
    intro hk;obtain⟨y,C,_⟩:=l k aQ;rw[acV,acG,aaM,S aQ];simp[C]
  have G:∀k,k<=len->∀i,i<k->((List.range k).filterMap f)[i]?=f i:=by
   intro k;induction k with
   |zero=>intro _ i hi;omega
   |succ k S=>
    intro hk i hi;obtain⟨y,C,_⟩:=l k aQ;rw[acV,acG];by_cases I:i<k
    .rw[aaV (by rw[hlen k aQ];exact I)];exact S aQ i I
    .obtain rfl:i=k:=aQ;rw[aaJ (by rw[hlen i aQ];omega),hlen i aQ];simp[C]
  have q:=hlen len (Zw _);refine⟨some a,xs,m,by rw[show xs.length=len from q],by rw[show xs.length=len from q];exact hl,hm,λM=>?_,λx N=>?_⟩
  .rw[show xs.length=len from q] at M;obtain⟨y0,_,_,J⟩:=l 0 M;have o:=(World.cells?_some J).2.2 0 jA;have a1:=(World.cells?_some J).2.1;have K:a.spot=none:=by
    have hz:(a.add (0 *sz)).add 0=a:=by simp[Addr.add]
    rw[hz,Zv aQ] at o;unfold World.cell? at o;cases hs:a.spot with
    |none=>rfl
    |some s=>simp[hs] at o;split at o <;> simp at o
   obtain⟨ab,ao,asp⟩:=a;simp at K;subst K;refine⟨ab,ao,rfl,λi x j u N hu=>?_⟩;have L:i<len:=by
    have:=(aaN.1 N).1;rw[show xs.length=len from q] at this;exact this
   obtain⟨y,C,_,hc⟩:=l i L;have T:x=y:=by
    have:=G len (Zw _) i L;rw[show((List.range len).filterMap f)=xs from rfl,N,C] at this;injection this
   subst T;have hj:j<sz:=by
    have h1:=(World.cells?_some hc).2.1;have h2:=(aaN.1 hu).1;omega
   have Y:=(World.cells?_some hc).2.2 j hj;rw[hu] at Y;rw[<-Y];congr 1
   rw[Go.Deep.add_add];unfold Addr.add;split
   .rename_i M;rw[M,aaU]
   .rfl
  .obtain⟨i,U,z⟩:=acO.1 N;obtain⟨y,C,Q,_⟩:=l i (ab1.1 U);rw[C] at z;injection z with z;subst z;exact Q
theorem LY{H:Type}{b:aN×aC->H}{e:aN}{k:IntKind}(he:P.underlying e=some (.int k)):
 ∀(cs:List aC) (x:DataW H×List MemPlace) (n:Nat),cs.length=1->DataW.trod b P w 0 (λ_=>true) true n e cs=some x->∃a:Int,cs= [.int k a]/\(Lit.int k a).wf=true:=by
 intro cs x n _ h;obtain⟨a,rfl,_,hw⟩:=DataW.trod_int he h;exact⟨a,rfl,hw⟩
theorem mX{H:Type}{a:aN×aC->H}{e:aN}{cs:List aC}{x:DataW H×List MemPlace}(he:P.underlying e=some (.struct fs))(c:oneCellFields P fs=true)
 (hC:P.cellsOf e=fs.size) (h:DataW.trod a P w 0 (λ_=>true) true n e cs=some x) (j:Nat) (f:Field) (d:fs[j]?=some f):
 cs.length=fs.size/\∃(v:aC) (y:DataW H×List MemPlace) (m:Nat),cs[j]?=some v/\DataW.trod a P w 0 (λ_=>true) true m f.type [v]=some y:=by
 obtain⟨ys,g,i,o,hlen,k,hf⟩:=DataW.trod_struct he h;rw[hC] at hlen;obtain⟨ho,hk⟩:=hone_of c j f d;have l:j<fs.size:=(adX.1 d).1;have h1:=hf j f d;rw[ho,hk] at h1;have b:(cs.drop j).take 1= [cs[j]'(by omega)]:=by
  rw[acR aQ];rfl
 rw[b,Zv (show j<ys.length by omega)] at h1;exact⟨hlen,_,_,g,Zv aQ,h1⟩
end
end
section
open Go.ChangeShapes Go.WideShapes Go.ChangeAt Go.RowKit Go.Deep Go.Joins Go.Lib
variable{P:aO}{w:aA}{v:aC}{n0 sz:Nat}
section
theorem jF{H:Type}{q:aN×aC->H}{t e:aN}{T:DataW H×List MemPlace}{α:Type}{enc:α->List aC}(b:α->Prop)
 (U:P.underlying t=some (.slice e)) (hC:P.cellsOf e=sz) (jA:0<sz) (hf:DataW.trod q P w 0 (λ_=>true) true n0 t [v]=some T)
 (z:∀(cs:List aC) (x:DataW H×List MemPlace) (n:Nat),cs.length=sz->DataW.trod q P w 0 (λ_=>true) true n e cs=some x->∃a:α,cs=enc a/\b a):
 ∃(A:Option aJ) (xs:List α) (c:Nat),v= .slice A xs.length c/\xs.length<=c/\c<=maxLen/\Sl enc sz w A xs/\(∀x∈xs,b x):=by
 obtain⟨A,len,cap,L⟩:=slice_form U hf;injection L with L;subst L;rcases open_slice U hf with⟨d,_⟩|⟨a,V,W,m,n,D,Pl,d,_,hl,hm,B,_,hi⟩
 .simp at d;obtain⟨rfl,rfl,rfl⟩:=d;exact⟨none, [],0,rfl,aT,by simp[maxLen],Sl.nil _ _,aT⟩
 .simp at d;obtain⟨rfl,rfl,rfl⟩:=d;simp at B;subst B;have key:∀i:Nat,∃x:Option α,i<len->∃y,x=some y/\b y/\w.cells? 0 (a.add (i *sz)) sz=some (enc y):=λi=>by
   by_cases M:i<len
   .obtain⟨cs',hc,hd⟩:=hi i aQ;rw[hC] at hc;obtain⟨y,rfl,N⟩:=z cs' _ n (World.cells?_some hc).2.1 hd;exact⟨some y,λ_=>⟨y,rfl,N,hc⟩⟩
   .exact⟨none,λh=>absurd h M⟩
  obtain⟨f,O⟩:=Classical.axiomOfChoice key;let xs:=(List.range len).filterMap f
  have g:∀i,i<len->∃y,f i=some y/\b y/\w.cells? 0 (a.add (i *sz)) sz=some (enc y):=O;have hlen:∀k,k<=len->((List.range k).filterMap f).length=k:=by
   intro k;induction k with
   |zero=>simp
   |succ k Q=>
    intro hk;obtain⟨y,r,_⟩:=g k aQ;rw[acV,acG,aaM,Q aQ];simp[r]
  have C:∀k,k<=len->∀i,i<k->((List.range k).filterMap f)[i]?=f i:=by
   intro k;induction k with
   |zero=>intro _ i hi;omega
   |succ k Q=>
    intro hk i hi;obtain⟨y,r,_⟩:=g k aQ;rw[acV,acG];by_cases E:i<k
    .rw[aaV (by rw[hlen k aQ];exact E)];exact Q aQ i E
    .obtain rfl:i=k:=aQ;rw[aaJ (by rw[hlen i aQ];omega),hlen i aQ];simp[r]
  have o:=hlen len (Zw _);refine⟨some a,xs,m,by rw[show xs.length=len from o],by rw[show xs.length=len from o];exact hl,hm,λJ=>?_,λx K=>?_⟩
  .rw[show xs.length=len from o] at J;obtain⟨T,_,_,F⟩:=g 0 J;have l:=(World.cells?_some F).2.2 0 jA;have Y:=(World.cells?_some F).2.1;have G:a.spot=none:=by
    have Z:(a.add (0 *sz)).add 0=a:=by simp[Addr.add]
    rw[Z,Zv aQ] at l;unfold World.cell? at l;cases hs:a.spot with
    |none=>rfl
    |some s=>simp[hs] at l;split at l <;> simp at l
   obtain⟨ab,ao,asp⟩:=a;simp at G;subst G;refine⟨ab,ao,rfl,λi x j u K hu=>?_⟩;have I:i<len:=by
    have:=(aaN.1 K).1;rw[show xs.length=len from o] at this;exact this
   obtain⟨y,r,_,hc⟩:=g i I;have R:x=y:=by
    have:=C len (Zw _) i I;rw[show((List.range len).filterMap f)=xs from rfl,K,r] at this;injection this
   subst R;have hj:j<sz:=by
    have h1:=(World.cells?_some hc).2.1;have h2:=(aaN.1 hu).1;omega
   have X:=(World.cells?_some hc).2.2 j hj;rw[hu] at X;rw[<-X];congr 1
   rw[Go.Deep.add_add];unfold Addr.add;split
   .rename_i J;rw[J,aaU]
   .rfl
  .obtain⟨i,S,p⟩:=acO.1 K;obtain⟨y,r,N,_⟩:=g i (ab1.1 S);rw[r] at p;injection p with p;subst p;exact N
end
end
section
section
namespace dF
structure En where
 env:Int
 cN:Int
 frame:Int
 write:Bool
def mJ(a p:Int)(e:En):Bool:=e.env==a&&e.cN==p
variable{p:Int}
theorem kR{a:Int}{e:En}:mJ a p e=true↔e.env=a/\e.cN=p:=by simp[mJ]
def fi(L:List En)(a p:Int):Option Nat:=L.findIdx? (mJ a p)
def wR(L:List En)(a p:Int):Int:=match fi L a p with
 |some i=>(i:Int)
 |none=> -1
def mD(L:List En)(X:En):List En:=match fi L X.env X.cN with
 |some i=>L.eraseIdx i
 |none=>if 16<=L.length then L.eraseIdx 0 else L
def ld(L:List En)(X:En):List En:=mD L X++ [X]
def lk(L:List En)(a p:Int):List En:=match fi L a p with
 |some i=>L.eraseIdx i++(L[i]?).toList
 |none=>L
def lG(e:En):Bool:=decide (0<=e.env/\e.env<=7/\0<=e.cN/\e.cN<=65535/\0<=e.frame/\e.frame<=31)
def qD(L:List En):Prop:=L.Pairwise λx y=>¬(x.env=y.env/\x.cN=y.cN)
variable{L:List En}
theorem MG{a:Int}(h:fi L a p=none):∀e∈L,¬(e.env=a/\e.cN=p):=by
 intro e he hk;have:=abH.1 h e he;rw[kR.2 hk] at this;cases this
variable{i:Nat}
theorem pP{a:Int}(h:fi L a p=some i):∃hi:i<L.length,(L[i].env=a/\L[i].cN=p)/\∀j,(b:j<i)->¬(L[j].env=a/\L[j].cN=p):=by
 obtain⟨hi,h1,c⟩:=aaT.1 h;refine⟨hi,kR.1 h1,λj b hk=>?_⟩;have:=c j b;rw[kR.2 hk] at this;simp at this
theorem zT(h:qD L)(i:Nat):qD (L.eraseIdx i):=List.Pairwise.sublist (aeF L i) h
theorem IW{X:En}(h:qD L)(c:∀e∈L,¬(e.env=X.env/\e.cN=X.cN)):qD (L++ [X]):=by
 refine acZ.2 ⟨h,ac0 _ _,λa ha b hb=>?_⟩;rw[aaK] at hb;subst hb;exact c a ha
theorem IL(h:qD L)(hi:i<L.length):∀e∈L.eraseIdx i,¬(e.env=L[i].env/\e.cN=L[i].cN):=by
 intro e he hk;rw[adA] at he;obtain⟨j,c,a,rfl⟩:=he;have hp:=acK.1 h;rcases Nat.lt_or_gt_of_ne a with b|hgt
 .exact hp j i c hi b hk
 .exact hp i j hi c hgt ⟨hk.1.symm,hk.2.symm⟩
end dF
end
end
section
open Go.RowKit
namespace dF
theorem tK(e:En)(w:aA):aG prog 244 #[.agg #[e.env,e.cN,e.frame,e.write]] w λr w'=>r= .returned (.bool (lG e))/\aD w w w':=by
 go_enter func244,ntmps244
 go_wp2
 all_goals go_ret
 all_goals refine⟨jL ?_,aX _ _⟩
 all_goals unfold lG
 all_goals first|(simp;done)|(simp;omega)|(rw[aeG];omega)
end dF
def bF(w:aA)(g:Nat)(t:aN)(cs:Array aC):Prop:=w.heap[g]?=some (.cells cs t (0,0))
section
variable{w w':aA}{g:Nat}{t:aN}{cs:Array aC}
theorem bF.lt(h:bF w g t cs):g<w.heap.size:=by
 rcases acW g w with b|hge
 .exact b
 .unfold bF at h;rw[ac4 hge] at h;cases h
theorem bF.cell(h:bF w g t cs)(i:Nat)(v:aC)(b:cs[i]?=some v):w.cell? (g,i)=some v:=(cell_of_row w g i cs t (0,0) h).trans b
theorem bF.frozen(h:bF w g t cs)(i:Nat):w.frozen? (g,i)=false:=by
 unfold bF at h;simp[World.frozen?,h]
theorem bF.new(w:aA)(t:aN)(cs:Array aC):bF (w.alloc (.cells cs t)) w t cs:=heap_alloc_new w _
theorem bF.fI(w:aA)(t:aN)(cs:Array aC)(h:w.heap.size=g):bF (w.alloc (.cells cs t)) g t cs:=by subst h;exact bF.new w t cs
theorem bF.alloc(h:bF w g t cs)(o:Obj):bF (w.alloc o) g t cs:=(Below.heap_alloc w o g h.lt).trans h
theorem bF.drewN(h:bF w g t cs)(n:Nat):bF (w.drewN n) g t cs:=h
theorem bF.bX(h:bF w g t cs)(i:Nat)(u:aC):bF (w.setCell (g,i) u) g t (cs.setIfInBounds i u):=by
 unfold bF at h⊢;simp[World.setCell,adN,h]
theorem bF.rU(h:bF w g t cs){p:aJ}(hp:g≠p.block)(u:aC):bF (w.setCell p u) g t cs:=(Below.heap_setCell w p u g hp).trans h
theorem bF.keep(h:bF w g t cs)(hb:aD w w w'):bF w' g t cs:=(hb.block g h.lt).trans h
theorem bF.grown{row:Option Nat}(h:bF w g t cs)(hb:w.grownBy w' row)(b:some g≠row):bF w' g t cs:=(hb.block g h.lt b).trans h
end
variable{W:aA}
section
variable{a w w1:aA}{g:Nat}
theorem bK(w:aA)(g:Nat):w.grownBy w (some g):=World.grownBy.refl w _
theorem XD(h:a.grownBy w (some g))(o:Obj):a.grownBy (w.alloc o) (some g):=
 ⟨h.os,h.tape,h.output,aaC h.size aT,λi hi b=>(Below.heap_alloc w o i (Zy hi h.size)).trans (h.block i hi b)⟩
theorem aZ(h:a.grownBy w (some g))(i:Nat)(u:aC):a.grownBy (w.setCell (g,i) u) (some g):=
 ⟨h.os,h.tape,h.output,by simpa[World.setCell] using h.size,λk hk b=>(Below.heap_setCell w ⟨g,i,none⟩ u k (λe=>b (by rw[e]))).trans (h.block k hk b)⟩
theorem oV(h:a.grownBy w (some g))(k:w.grownBy w1 (some g)):a.grownBy w1 (some g):=
 ⟨k.os.trans h.os,k.tape.trans h.tape,k.output.trans h.output,aaC h.size k.size,λi hi b=>(k.block i (Zy hi h.size) b).trans (h.block i hi b)⟩
theorem oR(h:a.grownBy w (some g))(k:aD w w w1):a.grownBy w1 (some g):=
 ⟨k.os.trans h.os,k.tape.trans h.tape,k.output.trans h.output,aaC h.size k.size,λi hi b=>(k.block i (Zy hi h.size)).trans (h.block i hi b)⟩
theorem KK(h:aD W W w)(k:w.grownBy w1 (some g))(b:W.heap.size<=g):aD W W w1:=
 h.grown k h.size (λq hq=>by injection hq with hq;omega)
end
variable{P:aO}{sz i m d n base:Nat}{z:aC}{B A:Option aJ}{Q:Exit->Act->aA->Prop}{aa:Prop}{w w':aA}
section
def jS(P:aO)(t e:aN)(sz bytes:Nat):Prop:=
 P.underlying t=some (.slice e)/\∃i z,P.info? e=some i/\i.zero=some z/\i.size=sz/\i.bytes=bytes/\z.cells.size=sz/\0<sz
theorem fU{t e:aN}{bytes:Nat}(a:P.underlying t=some (.slice e))(h:(P.info? e).map (λi=>(i.zero,i.size,i.bytes))=some (some z,sz,bytes))(b:z.cells.size=sz)(d:0<sz):jS P t e sz bytes:=by
 obtain⟨i,hi,h1,f,g⟩:=info_parts h;exact⟨a,i,z,hi,h1,f,g,b,d⟩
structure eL{α:Type}(enc:α->List aC)(sz:Nat):Prop where
 len:∀x,(enc x).length=sz
 one:∀x,∀u∈enc x,u.oneCell'=true
theorem gK:eL eI 1:=⟨KS,λx u hu=>by simp[eI] at hu;subst hu;rfl⟩
theorem xS:eL eU 1:=⟨To,λx u hu=>by simp[eU] at hu;subst hu;rfl⟩
def aY(A:Option aJ):Option Nat:=A.map (·.block)
theorem BG(A:Option aJ)(n c:Nat):(Value.slice A n c).ownBlock=aY A:=by cases A <;> rfl
section
variable{α:Type}{enc:α->List aC}{sz:Nat}
def bI(enc:α->List aC)(sz:Nat)(w:aA)(base:Nat)(e:aN)(A:Option aJ)(c:Nat)(xs:List α):Prop:=
 w.ownsRow base e sz (.slice A xs.length c) xs.length (xs.flatMap enc)
variable{w w':aA}{base:Nat}{e:aN}{A:Option aJ}{c:Nat}{xs:List α}
theorem bI.nil(w:aA)(base:Nat)(e:aN):bI enc sz w base e none 0 []:=⟨aT, .inl ⟨rfl,rfl⟩⟩
theorem bI.sl(h:bI enc sz w base e A c xs)(hc:eL enc sz):Sl enc sz w A xs:=by
 obtain⟨A',b,a,hs⟩:=XU hc.len h;injection a with h1 _ _;rw[h1];exact hs
theorem bI.alloc(h:bI enc sz w base e A c xs)(o:Obj):bI enc sz (w.alloc o) base e A c xs:=World.ownsRow.alloc h o
theorem bI.drew(h:bI enc sz w base e A c xs):bI enc sz w.drew base e A c xs:=h
theorem bI.drewN(h:bI enc sz w base e A c xs)(n:Nat):bI enc sz (w.drewN n) base e A c xs:=h
theorem bI.lt(h:bI enc sz w base e A c xs):∀k,aY A=some k->base<=k/\k<w.heap.size:=λk hk=>World.ownsRow.lt h k (by rw[BG];exact hk)
theorem bI.kept{row:Option Nat}(h:bI enc sz w base e A c xs)(b:w.grownBy w' row)(a:aY A=none\/aY A≠row):bI enc sz w' base e A c xs:=
 World.ownsRow.kept h b (by rw[BG];exact a)
theorem bI.keep(h:bI enc sz w base e A c xs)(hb:aD w w w'):bI enc sz w' base e A c xs:=by
 refine World.ownsRow.kept (row:=none) h ⟨hb.os,hb.tape,hb.output,hb.size,λi hi _=>hb.block i hi⟩ ?_;rw[BG];cases h1:aY A with
 |none=>exact .inl rfl
 |some k=>exact .inr aT
theorem bI.cap(h:bI enc sz w base e A c xs):xs.length<=c:=by
 rcases h.2 with⟨h1,a⟩|⟨g,cap,cur,h1,_,_,b,_⟩
 .omega
 .injection h1 with _ _ h1;omega
theorem bI.shape(h:bI enc sz w base e A c xs):(A=none/\xs= []/\c=0)\/∃g,A=some ⟨g,0,none⟩:=by
 rcases h.2 with⟨h1,b⟩|⟨g,cap,cur,h1,_⟩
 .injection h1 with a a2 a3;exact .inl ⟨a,aa5 b,a3⟩
 .injection h1 with a;exact .inr ⟨g,a⟩
theorem bI.from_(h:bI enc sz w base e A c xs)(hb:i<=base):bI enc sz w i e A c xs:=by
 refine⟨h.1,?_⟩;rcases h.2 with h1|⟨g,cap,cur,h1,a,b⟩
 .exact .inl h1
 .exact .inr ⟨g,cap,cur,h1,aaC hb a,b⟩
theorem bI.ne{p:aJ}{B:Nat}(h:bI enc sz w base e A c xs)(hp:p.block<B)(a:B<=base):aY A=none\/aY A≠some p.block:=by
 cases h1:aY A with
 |none=>exact .inl rfl
 |some k=>right;intro he;injection he with he;have:=(h.lt k h1).1;omega
theorem Sl.new(hc:eL enc sz)(w:aA)(y:α)(cs:Array aC)(a:cs.toList=enc y)(t:aN):Sl enc sz (w.alloc (.cells cs t)) (some ⟨w.heap.size,0,none⟩) [y]:=λ_=>by
 refine⟨w.heap.size,0,rfl,λi x j u b hu=>?_⟩;have hi:i=0:=by
  have:=(aaN.1 b).1;simp at this;exact this
 subst hi;simp at b;subst b;have h1:=cell_of_row (w.alloc (.cells cs t)) w j cs t (0,0) (heap_alloc_new w _);rw[adO,aa8,aa8,h1,<-aaX,a,hu]
theorem qX(hc:eL enc sz)(ys:List α):∀u∈ys.flatMap enc,u.oneCell'=true:=λu hu=>by
 obtain⟨y,_,a⟩:=List.mem_flatMap.1 hu;exact hc.one y u a
variable{P:aO}
theorem OL{t ty:aN}{bytes:Nat}(w:aA)(O:jS P t e sz bytes)(hc:eL enc sz)(a:bI enc sz w base e A c xs){ys:List α}(hm:ys.length=m)(q:Sl enc sz w B ys)
 (C:xs.length+m<=maxLen) (f:(xs.length+m) *bytes<=140737488355328) (l:base<=w.heap.size):
 ∃A' n w',(Builtin.append_ #[t,t] ty #[(A,xs.length,c),(B,m,d)]).run P w= .ok (.slice A' (xs.length+m) n) w'/\bI enc sz w' base e A' n (xs++ys)/\w.grownBy w' (aY A)/\
  (aY A'=aY A\/aY A'=some w.heap.size):=by
 obtain⟨D,i,z,hi,Q,hs,E,F,L⟩:=O;subst hm;have fin:∀p w',(Builtin.append_ #[t,t] ty #[(A,xs.length,c),(B,ys.length,d)]).run P w= .ok p w'->w'.ownsRow base e sz p (xs.length+ys.length) (xs.flatMap enc++ys.flatMap enc)->w.grownBy w' (Value.slice A xs.length c).ownBlock->
  (p.ownBlock=(Value.slice A xs.length c).ownBlock\/p.ownBlock=some w.heap.size)->
  ∃A' n w',(Builtin.append_ #[t,t] ty #[(A,xs.length,c),(B,ys.length,d)]).run P w= .ok (.slice A' (xs.length+ys.length) n) w'/\bI enc sz w' base e A' n (xs++ys)/\w.grownBy w' (aY A)/\(aY A'=aY A\/aY A'=some w.heap.size):=by
  intro p w' G ho M hb;rw[<-adG] at ho;have hl:(xs++ys).length=xs.length+ys.length:=aaM;rw[<-hl] at ho;obtain⟨A',n,rfl,_⟩:=XU hc.len ho;rw[BG] at M hb;rw[BG] at hb;exact⟨A',n,w',by rw[<-hl];exact G,ho,M,hb⟩
 cases B with
 |none=>
  have R:ys= []:=by
   cases ys with
   |nil=>rfl
   |cons y ys=>obtain⟨_,_,h,_⟩:=q aT;cases h
  subst R;refine fin (.slice A xs.length c) w ?_ (by simpa[bI] using a) (World.grownBy.refl w _) (.inl rfl);rcases a.2 with⟨h1,r⟩|⟨g,cap,cur,h1,_,_,H,_⟩
  .rw[h1];simp[Builtin.append_,run_underlying D,sizeOf,typeInfo,hi,Builtin.lenOf,Builtin.firstCells]
  .rw[h1];simp[Builtin.append_,run_underlying D,sizeOf,typeInfo,hi,Builtin.lenOf,Builtin.firstCells,H,storeCells]
 |some N=>
  have k:∀j u,(ys.flatMap enc)[j]?=some u->w.cell? (N.add j)=some u:=by
   intro j u hu;have s:0<ys.length:=by
    cases ys with
    |nil=>simp at hu
    |cons y ys=>simp
   obtain⟨b,off,I,J⟩:=q s;injection I with I;subst I;have S:j<ys.length *sz:=by
    have:=(aaN.1 hu).1;rw[eZ hc.len] at this;exact this
   have hq:j /sz<ys.length:=aeI (by rw[ad9];exact S);have G:j%sz<sz:=aeP _ L;have v:j /sz *sz+j%sz=j:=by rw[ad9];exact Nat.div_add_mod j sz
   have h1:=kM hc.len ys (j /sz) _ (j%sz) (Zv hq) G;rw[v,hu] at h1;have r:=J (j /sz) _ (j%sz) u (Zv hq) h1.symm;rw[v] at r;rw[<-r];unfold Addr.add;split
   .rename_i K;rw[K,aaU]
   .rfl
  obtain⟨p,w',x,r,H,_,T⟩:=run_append_own_at (P:=P) w base t ty e i z sz bytes D hi Q hs E F L (.slice A xs.length c) xs.length (xs.flatMap enc) a N ys.length d (ys.flatMap enc) (eZ hc.len ys) k (qX hc ys) C f l;exact fin p w' x r H T
theorem E8{o:aK}{a:Act}{K:Act->aA->Prop}{t:aN}{bytes:Nat}(w:aA)(s x:Operand)(ho:o.op= .call {callee:= .builtin .append,args:=#[s,x],argTypes:=#[t,t]})
 (l:jS P t e sz bytes) (hc:eL enc sz) (g:bI enc sz w base e A c xs) (p:xs.length=n) (hs:a.eval s= .slice A n c) {ys:List α} (q:a.eval x= .slice B m d) (hm:ys.length=m) (j:Sl enc sz w B ys)
 (k:n+m<=maxLen) (b:(n+m) *bytes<=140737488355328) (f:base<=w.heap.size) (H:Nat) (hH:w.heap.size=H) (N:Nat) (r:n+m=N)
 (h:∀A' i w',bI enc sz w' base e A' i (xs++ys)->w.grownBy w' (aY A)->(aY A'=aY A\/aY A'=some H)->K (a.put o.dst (.slice A' N i)) w'):o.wp P a w K Q:=by
 subst p;subst hH;subst r;obtain⟨A',i,w',u,v,y,z⟩:=OL (P:=P) (ty:=o.type) w l hc g hm j k b f;unfold Oper.wp execOp;simp only[ho,resolve,invoke,builtin,Sem.run_bind,Sem.run_pure,Result.andThen_ok,List.map_toArray,List.map_cons,List.map_nil,hs,q];rw[u];exact h A' i w' v y z
theorem bP{ops:Array aK}{rest:List aK}{o:aK}{a:Act}{t:aN}{bytes:Nat}(w:aA)(j:o.guard=none)(s x:Operand)(ho:o.op= .call {callee:= .builtin .append,args:=#[s,x],argTypes:=#[t,t]})
 (p:jS P t e sz bytes) (hc:eL enc sz) (g:bI enc sz w base e A c xs) (q:xs.length=n) (hs:a.eval s= .slice A n c) {ys:List α} (r:a.eval x= .slice B m d) (hm:ys.length=m) (k:Sl enc sz w B ys)
 (l:n+m<=maxLen) (b:(n+m) *bytes<=140737488355328) (f:base<=w.heap.size) (H:Nat) (hH:w.heap.size=H) (N:Nat) (u:n+m=N)
 (h:∀A' i w',bI enc sz w' base e A' i (xs++ys)->w.grownBy w' (aY A)->(aY A'=aY A\/aY A'=some H)->wpList P ops Q rest (a.put o.dst (.slice A' N i)) w'):wpList P ops Q (o::rest) a w:=
 wpList_plain j λ_ hK=>E8 w s x ho p hc g q hs r hm k l b f H hH N u λA' i w' v y z=>hK _ _ (h A' i w' v y z)
theorem kS{ops:Array aK}{o:aK}{a:Act}{K:Act->aA->Prop}{t:aN}{bytes:Nat}(w:aA)(i:o.guard=none)(s x:Operand)(ho:o.op= .call {callee:= .builtin .append,args:=#[s,x],argTypes:=#[t,t]})
 (p:jS P t e sz bytes) (hc:eL enc sz) (g:bI enc sz w base e A c xs) (q:xs.length=n) (hs:a.eval s= .slice A n c) {ys:List α} (r:a.eval x= .slice B m d) (hm:ys.length=m) (j:Sl enc sz w B ys)
 (k:n+m<=maxLen) (b:(n+m) *bytes<=140737488355328) (f:base<=w.heap.size) (H:Nat) (hH:w.heap.size=H) (N:Nat) (u:n+m=N)
 (h:∀A' l w',bI enc sz w' base e A' l (xs++ys)->w.grownBy w' (aY A)->(aY A'=aY A\/aY A'=some H)->K (a.put o.dst (.slice A' N l)) w'):
 if Region.wanted o (yielded ops a.tmps)=true then Oper.wp P o a w K Q else aa:=by
 have hw:Region.wanted o (yielded ops a.tmps)=true:=by simp[Region.wanted,i]
 rw[Zz hw];exact E8 w s x ho p hc g q hs r hm j k b f H hH N u h
theorem Sl.drop{b off k:Nat}(h:Sl enc sz w (some ⟨b,off,none⟩) xs)(hk:k<xs.length):Sl enc sz w (some ⟨b,off+k *sz,none⟩) (xs.drop k):=λ_=>by
 obtain⟨l,d,a,hc⟩:=h aQ;injection a with a;injection a with h1 g;subst h1 g;refine⟨b,off+k *sz,rfl,λi x j u f hu=>?_⟩;rw[abY] at f;have:=hc (k+i) x j u f hu;rw[acF] at this;rw[show off+k *sz+(i *sz+j)=off+(k *sz+i *sz+j) by omega];exact this
end
theorem bI.empty{α:Type}{enc:α->List aC}(w:aA)(e:aN)(hb:base<=w.heap.size):bI enc sz (w.alloc (.cells #[] e)) base e (some ⟨w.heap.size,0,none⟩) 0 []:=
 ⟨aT, .inr ⟨w.heap.size,0,#[],rfl,hb,heap_alloc_new w _,Zw _,by simp[maxLen],aT,aT⟩⟩
theorem Sl.grown{α:Type}{enc:α->List aC}{xs:List α}{row:Option Nat}(h:Sl enc sz w A xs)(f:w.grownBy w' row)(a:∀g,row=some g->aY A≠some g):Sl enc sz w' A xs:=λk=>by
 obtain⟨b,off,d,hc⟩:=h k;refine⟨b,off,d,λi x j u l hu=>?_⟩;have h1:=hc i x j u l hu;rw[World.cell?_of_block (w:=w) (f.block b (World.block_lt_of_cell? w _ h1) (λe=>a b e.symm (by rw[d];rfl)))];exact h1
theorem Sl.fI{α:Type}{enc:α->List aC}(hc:eL enc sz)(w:aA)(y:α)(cs:Array aC)(a:cs.toList=enc y)(t:aN){G:Nat}(b:w.heap.size=G):Sl enc sz (w.alloc (.cells cs t)) G [y]:=by
 subst b;exact Sl.new hc w y cs a t
def WE{α:Type}(enc:α->List aC)(sz:Nat)(e:aN)(xs:List α)(w:aA)(en:aM)(w':aA):Prop:=
 ∃A c,en= .returned (.slice A xs.length c)/\bI enc sz w' w e A c xs/\aD w w w'
end
section
namespace Fr
structure dX where
 n:Nat
 T:List Bool
 B:List Int
def fc(s:dX):List aC:= .int .i64 s.n::(s.T.map Value.bool++s.B.map (Value.int .u8))
structure Fm(w:aA)(g:Nat)(s:dX):Prop where
 n0:s.n<=32
 t:s.T.length=32
 b:s.B.length=512
 at_:bF w g 150 (fc s).toArray
theorem Xx(s:dX)(a:s.T.length=32)(hi:i<32):(fc s)[1+i]?=some (.bool (s.T[i]'(by omega))):=by
 unfold fc;rw[Nat.add_comm,ad7,aaV bT,acS,Zv aQ];rfl
theorem Wx(s:dX)(a:s.T.length=32)(hb:s.B.length=512)(hm:m<512):(fc s)[33+m]?=some (.int .u8 (s.B[m]'(by omega))):=by
 unfold fc;rw[show 33+m=(32+m)+1 by omega,ad7,aaJ bT,acS,abB,a,show 32+m - 32=m by omega,Zv aQ];rfl
theorem Mu(s:dX)(a:s.T.length=32)(hi:i<32)(v:Bool):(fc s).set (1+i) (.bool v)=fc {s with T:=s.T.set i v}:=by
 unfold fc;rw[Nat.add_comm,aaD,acA _ _ bT,ab6]
theorem No(s:dX)(a:s.T.length=32)(v:Int):(fc s).set (33+m) (.int .u8 v)=fc {s with B:=s.B.set m v}:=by
 unfold fc;rw[show 33+m=(32+m)+1 by omega,aaD,aaQ _ _ bT,abB,a,show 32+m - 32=m by omega,ab6]
section
variable{w w':aA}{g:Nat}{s:dX}
theorem Fm.cn(h:Fm w g s):w.cell? (g,0)=some (.int .i64 s.n):=h.at_.cell 0 _ (by rw[aaR];rfl)
theorem Fm.ct(h:Fm w g s)(hi:i<32):w.cell? (g,1+i)=some (.bool (s.T[i]'(by rw[h.t];exact hi))):=h.at_.cell _ _ (by rw[aaR];exact Xx s h.t hi)
theorem Fm.cb(h:Fm w g s)(hm:m<512):w.cell? (g,33+m)=some (.int .u8 (s.B[m]'(by rw[h.b];exact hm))):=h.at_.cell _ _ (by rw[aaR];exact Wx s h.t h.b hm)
theorem Fm.keep(h:Fm w g s)(hb:aD w w w'):Fm w' g s:=⟨h.n0,h.t,h.b,h.at_.keep hb⟩
theorem Fm.Sz(h:Fm w g s)(hi:i<32)(v:Bool):Fm (w.setCell (g,1+i) (.bool v)) g {s with T:=s.T.set i v}:=by
 refine⟨h.n0,by simpa using h.t,h.b,?_⟩;have:=h.at_.bX (1+i) (.bool v);rw[Zx,Mu s h.t hi] at this;exact this
theorem Fm.Sp(h:Fm w g s)(m:Nat)(v:Int):Fm (w.setCell (g,33+m) (.int .u8 v)) g {s with B:=s.B.set m v}:=by
 refine⟨h.n0,h.t,by simpa using h.b,?_⟩;have:=h.at_.bX (33+m) (.int .u8 v);rw[Zx,No s h.t] at this;exact this
end
def AO(s:dX)(i:Int):Bool:=decide (0<=i/\i<s.n)
def dH(s:dX)(i:Int):Bool:=AO s i&&(s.T[i.toNat]?).getD false
theorem lU(s:dX)(g:Nat)(i:Int)(w:aA)(h:Fm w g s):aG prog 39 #[.pointer g,i] w λe w'=>e= .returned (.bool (AO s i))/\w=w':=by
 have c0:=h.cn;clear h;by_cases b:0<=i
 .have a:aH (AO s i=decide (i<(s.n:Int))):=by unfold aH AO;rw[aeG];omega
  go_enter func39,ntmps39
  go_wp2
  go_ret
  exact⟨jL a.o.symm,rfl⟩
 .have a:aH (AO s i=false):=by unfold aH AO;exact aaP aQ
  go_enter func39,ntmps39
  go_wp2
  go_ret
  exact⟨jL a.o.symm,rfl⟩
theorem YR{s:dX}{i:Int}(h:AO s i=true):∃k:Nat,i=k/\k<s.n:=by
 have a:0<=i/\i<s.n:=abQ h;obtain⟨k,rfl⟩:=aaB a.1;exact⟨k,rfl,aQ⟩
theorem EK(s:dX)(g:Nat)(i:Int)(w:aA)(h:Fm w g s):aG prog 14 #[.pointer g,i] w λe w'=>e= .returned (.bool (dH s i))/\w=w':=by
 have H:=aP (λW j=>lU s g i W j);cases c:AO s i
 .rw[c] at H;have d:aH (dH s i=false):=by unfold aH dH;rw[c];rfl
  go_enter func14,ntmps14
  go_wp2_with fail
  refine(H.o _ h).mono ?_;rintro e l ⟨rfl,rfl⟩;go_wp2_with fail
  go_ret
  exact⟨jL d.o.symm,rfl⟩
 .rw[c] at H;obtain⟨k,rfl,hk⟩:=YR c;have m:=h.n0;have a:k<32:=aQ;have c1:=h.ct a;have f:k<s.T.length:=by rw[h.t];exact a
  have d:aH (dH s k=s.T[k]):=by unfold aH dH;rw[c,aaG,Zv f];rfl
  have n:(0:Int)<=k:=aQ;have p:(k:Int)<32:=aQ;generalize s.T[k]=b at *;go_enter func14,ntmps14
  go_wp2_with fail
  refine(H.o _ h).mono ?_;rintro e l ⟨rfl,rfl⟩;go_wp2_with fail
  go_ret
  exact⟨jL d.o.symm,rfl⟩
end Fr
end
namespace Fr
def fL(s:dX)(i a:Int):Int:=if dH s i=false then 6 else if a<0\/15<a then 1 else 0
theorem JD(s:dX)(g:Nat)(i a:Int)(w:aA)(h:Fm w g s):aG prog 243 #[.pointer g,i,a] w λe w'=>e= .returned (.int .i64 (fL s i a))/\w=w':=by
 have H:=aP (EK s g i w h);unfold fL;cases c:dH s i
 .rw[c] at H;simp only[abI];go_enter func243,ntmps243
  go_wp2_with fail
  refine H.o.mono ?_;rintro e b ⟨rfl,rfl⟩;go_wp2_with fail
  go_ret
  exact⟨rfl,rfl⟩
 .rw[c] at H;simp only[adJ,aaY];by_cases d:a<0
  .rw[Zz (.inl d)];go_enter func243,ntmps243
   go_wp2_with fail
   refine H.o.mono ?_;rintro e b ⟨rfl,rfl⟩;go_wp2_with fail
   go_ret
   exact⟨rfl,rfl⟩
  .by_cases h1:15<a
   .rw[Zz (.inr h1)];have f:(16:Int)<=a:=aQ;go_enter func243,ntmps243
    go_wp2_with fail
    refine H.o.mono ?_;rintro e b ⟨rfl,rfl⟩;go_wp2_with fail
    go_ret
    exact⟨rfl,rfl⟩
   .rw[aaA aQ];have f:¬(16:Int)<=a:=aQ;go_enter func243,ntmps243
    go_wp2_with fail
    refine H.o.mono ?_;rintro e b ⟨rfl,rfl⟩;go_wp2_with fail
    go_ret
    exact⟨rfl,rfl⟩
theorem RU{s:dX}{i:Int}(h:dH s i=true):∃k:Nat,i=k/\k<s.n:=by
 unfold dH at h;rw[aa6] at h;exact YR h.1
theorem MJ{s:dX}{i a:Int}(h:fL s i a=0):∃k m:Nat,i=k/\a=m/\k<s.n/\m<16:=by
 unfold fL at h;cases b:dH s i
 .rw[b] at h;simp at h
 .rw[b] at h;simp only[adJ,aaY] at h;split at h
  .omega
  .obtain⟨k,rfl,hk⟩:=RU b;obtain⟨m,rfl⟩:=aaB (show 0<=a by omega);exact⟨k,m,rfl,rfl,hk,aQ⟩
def rO(s:dX)(i a:Int):Int:=if fL s i a=0 then(s.B[i.toNat *16+a.toNat]?).getD 0 else 0
theorem zG(s:dX)(g:Nat)(i a:Int)(w:aA)(h:Fm w g s):aG prog 208 #[.pointer g,i,a] w λe w'=>e= .returned (.tuple #[.int .u8 (rO s i a), .int .i64 (fL s i a)])/\w=w':=by
 have H:=aP (JD s g i a w h);by_cases he:fL s i a=0
 .obtain⟨k,m,rfl,rfl,hk,hm⟩:=MJ he;have l:=h.n0;have d:=h.cb (m:=k *16+m) aQ;have hl:k *16+m<s.B.length:=by rw[h.b];omega
  have c:aH (rO s k m=s.B[k *16+m]):=by unfold aH rO;rw[Zz he,aaG,aaG,Zv hl];rfl
  rw[he] at H;rw[he];rw[<-abD] at d;have n:(0:Int)<=k:=aQ;have p:(k:Int)<32:=aQ;have m0:(0:Int)<=m:=aQ;have m1:(m:Int)<16:=aQ;clear he;generalize s.B[k *16+m]=v at *;go_enter func208,ntmps208
  go_wp2_with fail
  refine H.o.mono ?_;rintro e f ⟨rfl,rfl⟩;go_wp2_with fail
  go_ret2
  exact⟨RI c.o.symm,rfl⟩
 .have c:aH (rO s i a=0):=by unfold aH rO;rw[aaA he]
  have j:(fL s i a !=0)=true:=by simp[he]
  clear he;generalize fL s i a=v at *;go_enter func208,ntmps208
  go_wp2_with fail
  refine H.o.mono ?_;rintro e f ⟨rfl,rfl⟩;go_wp2_with fail
  go_ret2
  exact⟨RI c.o.symm,rfl⟩
def iW(s:dX)(i a:Int)(v:Int):dX:=if fL s i a=0 then {s with B:=s.B.set (i.toNat *16+a.toNat) v} else s
def VO(s:dX)(g:Nat)(v:aC)(w:aA)(e:aM)(w':aA):Prop:=e= .returned v/\Fm w' g s/\w.grownBy w' (some g)
theorem wU(s:dX)(g:Nat)(i a v:Int)(w:aA)(h:Fm w g s):aG prog 209 #[.pointer g,i,a, .int .u8 v] w (VO (iW s i a v) g (.int .i64 (fL s i a)) w):=by
 have H:=aP (JD s g i a w h);unfold iW;by_cases he:fL s i a=0
 .rw[Zz he];obtain⟨k,m,rfl,rfl,hk,hm⟩:=MJ he;have l:=h.n0;obtain⟨v0,d⟩:∃v0,w.cell? (g,33+(k *16+m))=some (.int .u8 v0):=⟨_,h.cb (m:=k *16+m) aQ⟩
  have hf:=h.at_.frozen (33+(k *16+m));have b:=aP (h.Sp (k *16+m) v);have c:=aP (aZ (bK w g) (33+(k *16+m)) (.int .u8 v));simp only[aaG];rw[he] at H;rw[he];rw[<-abD] at d hf b c;have n:(0:Int)<=k:=aQ;have p:(k:Int)<32:=aQ;have m0:(0:Int)<=m:=aQ;have m1:(m:Int)<16:=aQ;clear he h;go_enter func209,ntmps209
  go_wp2_with fail
  refine H.o.mono ?_;rintro e f ⟨rfl,rfl⟩;go_wp2_with fail
  go_ret
  exact⟨rfl,b.o,c.o⟩
 .rw[aaA he];have j:(fL s i a !=0)=true:=by simp[he]
  clear he;generalize fL s i a=e0 at *;go_enter func209,ntmps209
  go_wp2_with fail
  refine H.o.mono ?_;rintro e f ⟨rfl,rfl⟩;go_wp2_with fail
  go_ret
  exact⟨rfl,h,bK w g⟩
def tZ(s:dX)(i:Int):dX:=if dH s i then {s with T:=s.T.set i.toNat false} else s
theorem Hf(s:dX)(g:Nat)(i:Int)(w:aA)(h:Fm w g s):aG prog 199 #[.pointer g,i] w (VO (tZ s i) g (.int .i64 (if dH s i then 0 else 6)) w):=by
 have H:=aP (EK s g i w h);unfold tZ;have b:=aP h;cases a:dH s i
 .rw[a] at H;simp only[aaZ,aaY];clear h;go_enter func199,ntmps199
  go_wp2_with fail
  refine H.o.mono ?_;rintro e c ⟨rfl,rfl⟩;go_wp2_with fail
  go_ret
  exact⟨rfl,b.o,bK w g⟩
 .rw[a] at H;simp only[abI];obtain⟨k,rfl,hk⟩:=RU a;have j:=h.n0;obtain⟨v0,l⟩:∃v0,w.cell? (g,1+k)=some (.bool v0):=⟨_,h.ct (i:=k) aQ⟩
  have hf:=h.at_.frozen (1+k);have d:=aP (h.Sz (i:=k) aQ false);have f:=aP (aZ (bK w g) (1+k) (.bool false));have m:(0:Int)<=k:=aQ;have n:(k:Int)<32:=aQ;simp only[aaG];clear h a;go_enter func199,ntmps199
  go_wp2_with fail
  refine H.o.mono ?_;rintro e c ⟨rfl,rfl⟩;go_wp2_with fail
  go_ret
  exact⟨rfl,d.o,f.o⟩
end Fr
end
end Go.Proofs.YtacgiflhgdaeaaaGreat
