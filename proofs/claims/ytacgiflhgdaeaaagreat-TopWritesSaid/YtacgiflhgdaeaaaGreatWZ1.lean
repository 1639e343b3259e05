/- Texts laid as one. -/
import Derived.Test.YtacgiflhgdaeaaaGreatRows
import Derived.WalkKit
import Derived.WalkSpells
import Derived.WalkLawsBesides
import Derived.Deep.RegionHeld3
import Derived.Lib.Hide
import Derived.Deep.QuietTactic
import Derived.BigQuiet
import Derived.Deep.Draws
import Derived.ProofKit
import Derived.Lib.SmallJoins
import Derived.Deep.Slices
import Derived.Deep.Fields
import Derived.Deep.AppendLies
import Derived.OwnWalk
import Derived.Laws.OwnMore
import Derived.Laws.Rows
import Derived.Maps.AppendAt
import Derived.RegionTactic
import Derived.Lib.SlicesDelete
import Derived.Lib.SliceRun
import Derived.Laws.IdiomCopy
import Derived.Deep.RegionLaw
import Derived.Deep.MidRow
import Derived.StillTail
import Derived.KernelRfl
import Derived.Shelf.Abstract
import Derived.Deep.DeepCutAuto
import Derived.Deep.CutBlock
set_option linter.unusedVariables false
set_option linter.unusedSimpArgs false
set_option maxRecDepth 100000
set_option maxHeartbeats 20000000
namespace Go.Proofs.YtacgiflhgdaeaaaGreat
open Go.Proofs.Tryz
open Go renaming World->aA,Value->aC,Addr->aJ,Oper->aK,Ending->aM,TypeId->aN,Program->aO,Calls->aG
open Go.RowKit renaming Below->aD,Hid->aH
open Go.Obj renaming cells->aI
section
open Go.ChangeShapes Go.WideShapes Go.ChangeAt Go.RowKit
variable{v z:aC}{W w1 w2 w W':aA}{P:aO}{K2:aM->aA->Prop}{aa:Prop}
section
abbrev abO:=@List.getElem?_eq_getElem
abbrev abP:=@List.setIfInBounds_toArray
abbrev abQ:=@Nat.le_refl
abbrev abR:=@Nat.lt_of_lt_of_le
abbrev abS:=@if_pos
abbrev abT:=@if_neg
abbrev abU:=@List.set_cons_succ
abbrev abV:=@List.set_cons_zero
abbrev abW:=@Int.eq_ofNat_of_zero_le
abbrev abX:=@Nat.le_trans
abbrev abY:=@List.getElem_mem
abbrev abZ:=@Int.toNat_natCast
abbrev ab0:=@Nat.zero_le
abbrev ab1:=@List.getD_eq_getElem?_getD
abbrev ab2:=@List.getElem?_append_right
abbrev ab3:=@List.mem_singleton
abbrev ab4:=@List.getElem?_toArray
abbrev ab5:=@List.length_set
abbrev ab6:=@List.length_append
abbrev ab7:=@List.getElem?_eq_some_iff
abbrev ab8:=@decide_eq_false
abbrev ab9:=@List.mem_append
abbrev acA:=@List.set_append_right
abbrev acB:=@List.findIdx?_eq_some_iff_getElem
abbrev acC:=@List.take_of_length_le
abbrev acD:=@Nat.add_zero
abbrev acE:=@Classical.byContradiction
abbrev acF:=@decide_eq_true
abbrev acG:=@List.getElem?_append_left
abbrev acH:=@Array.getElem?_toList
abbrev acI:=@if_false
abbrev acJ:=@Bool.false_eq_true
abbrev acK:=@List.flatMap_cons
abbrev acL:=@List.getElem_of_mem
abbrev acM:=@Bool.and_eq_true
abbrev acN:=@List.getElem?_take
abbrev acO:=@List.take_append_getElem
abbrev acP:=@Option.map_some
abbrev acQ:=@List.eq_nil_of_length_eq_zero
abbrev acR:=@List.length_cons
abbrev acS:=@List.getElem_set
abbrev acT:=@Nat.zero_add
abbrev acU:=@List.length_map
abbrev acV:=@Array.getElem?_eq_getElem
abbrev acW:=@List.mem_or_eq_of_mem_set
abbrev acY:=@Nat.add_assoc
abbrev acZ:=@List.getElem?_set
abbrev ac0:=@List.getElem_cons_succ
abbrev ac1:=@List.findIdx?_eq_none_iff
abbrev ac2:=@if_true
abbrev ac3:=@List.take_add_one
abbrev ac4:=@List.eq_of_mem_replicate
abbrev ac5:=@List.getElem_cons_zero
abbrev ac6:=@List.length_nil
abbrev ac7:=@List.append_assoc
abbrev ac8:=@List.mem_range
abbrev ac9:=@List.length_take
abbrev adA:=@Nat.le_succ
abbrev adB:=@List.mem_filter
abbrev adC:=@List.getElem?_eq_none
abbrev adD:=@of_decide_eq_true
abbrev adE:=@Classical.not_not
abbrev adF:=@List.getElem?_drop
abbrev adG:=@true_and
abbrev adH:=@Nat.mul_le_mul_right
abbrev adI:=@List.mem_of_getElem?
abbrev adJ:=@List.ext_getElem
abbrev adK:=@List.Sublist.refl
abbrev adL:=@Nat.lt_irrefl
abbrev adM:=@List.length_modify
abbrev adN:=@List.length_eraseIdx
abbrev adO:=@Int.le_refl
abbrev adP:=@Option.map_none
abbrev adQ:=@Option.isSome_some
abbrev adR:=@Option.isSome_none
abbrev adS:=@List.map_set
abbrev adT:=@Nat.mul_one
abbrev adU:=@List.all_eq_true
abbrev adV:=@List.set_append_left
abbrev adW:=@Nat.add_mul
abbrev adX:=@List.filterMap_append
abbrev adY:=@Nat.not_lt_zero
abbrev adZ:=@false_and
abbrev ad0:=@List.take_length
abbrev ad1:=@List.getElem?_map
abbrev ad2:=@List.foldl_append
abbrev ad3:=@List.mem_cons
abbrev ad4:=@List.getElem?_set_ne
abbrev ad5:=@List.pairwise_iff_getElem
abbrev ad6:=@List.range_succ
abbrev ad7:=@List.length_drop
abbrev ad8:=@List.length_replicate
abbrev ad9:=@List.mem_filterMap
abbrev aeA:=@List.filter_append
abbrev aeB:=@List.foldl_cons
abbrev aeC:=@List.mem_map
abbrev aeD:=@List.drop_eq_getElem_cons
abbrev aeE:=@decide_eq_true_eq
abbrev aeF:=@Ne.symm
abbrev aeG:=@List.mem_of_mem_eraseIdx
abbrev aeH:=@Nat.lt_or_ge
abbrev aeI:=@List.pairwise_append
abbrev aeJ:=@List.pairwise_singleton
abbrev aeK:=@List.contains_eq_mem
abbrev aeL:=@List.length_eraseIdx_le
abbrev aeM:=@Array.getElem?_eq_none
abbrev aeN:=@List.size_toArray
abbrev aeO:=@Array.length_toList
abbrev aeP:=@List.nil_append
abbrev aeQ:=@List.append_nil
abbrev aeR:=@List.length_filter_le
abbrev aeS:=@List.any_eq_true
abbrev aeT:=@List.mem_eraseIdx_iff_getElem
abbrev aeU:=@List.mem_append_left
abbrev aeV:=@List.getElem_toArray
abbrev aeW:=@List.ext_getElem?
abbrev aeX:=@List.getElem?_replicate
abbrev aeY:=@List.flatMap_append
abbrev aeZ:=@List.take_succ_cons
abbrev ae0:=@List.drop_succ_cons
abbrev ae1:=@Bool.true_eq_false
abbrev ae2:=@List.pairwise_cons
abbrev ae3:=@Array.getElem?_append_left
abbrev ae4:=@Array.getElem?_modify
abbrev ae5:=@Option.isNone_iff_eq_none
abbrev ae6:=@Nat.zero_mul
abbrev ae7:=@Nat.one_mul
abbrev ae8:=@List.mem_of_mem_take
abbrev ae9:=@List.map_congr_left
abbrev afA:=@beq_eq_false_iff_ne
abbrev afB:=@List.drop_append_of_le_length
abbrev afC:=@Array.ext_getElem?
abbrev afD:=@List.getElem_replicate
abbrev afE:=@List.map_append
abbrev afF:=@List.length_singleton
abbrev afG:=@Array.getD_eq_getD_getElem?
abbrev afH:=@Array.getElem?_eq_some_iff
abbrev afI:=@List.drop_zero
abbrev afJ:=@Bool.and_false
abbrev afK:=@Option.ne_none_iff_exists'
abbrev afL:=@List.take_zero
abbrev afM:=@List.mem_of_find?_eq_some
abbrev afN:=@Option.isSome_iff_exists
abbrev afO:=@List.length_filterMap_le
abbrev afP:=@Bool.or_eq_true
abbrev afQ:=@Option.toList_some
abbrev afR:=@of_decide_eq_false
abbrev afS:=@List.getElem?_cons_succ
abbrev afT:=@List.length_eq_zero_iff
abbrev afU:=@Nat.add_sub_cancel_left
abbrev afV:=@Nat.mul_comm
abbrev afW:=@List.drop_of_length_le
abbrev afX:=@List.filter_eq_nil_iff
abbrev afY:=@Nat.lt_succ_of_lt
abbrev afZ:=@getElem!_pos
abbrev af0:=@List.eraseIdx_sublist
abbrev af1:=@decide_eq_decide
abbrev af2:=@Option.getD_some
abbrev af3:=@List.getElem_map
abbrev af4:=@Nat.div_lt_of_lt_mul
abbrev af5:=@List.mem_iff_getElem
abbrev af6:=@Array.getElem_toList
abbrev af7:=@Prod.mk.inj
abbrev af8:=@List.filterMap_cons
abbrev af9:=@List.mem_map_of_mem
abbrev agA:=@Nat.le_of_eq
abbrev agB:=@Nat.mod_lt
abbrev agC:=@Bool.false_and
instance:Coe Int aC:=⟨λx=>.int .i64 x⟩
instance:Coe Nat aC:=⟨λx=>.int .i64 x⟩
instance:Coe Nat (Option aJ):=⟨λx=>some ⟨x,0,none⟩⟩
instance:Coe Bool aC:=⟨λx=>.bool x⟩
instance:Coe aA Nat:=⟨λw=>w.heap.size⟩
instance(a b:Nat):CoeDep (Nat×Nat) (a,b) aJ:=⟨⟨a,b,none⟩⟩
instance(a:aA)(b:Nat):CoeDep (aA×Nat) (a,b) aJ:=⟨⟨a.heap.size,b,none⟩⟩
instance(a:Option aJ)(n c:Nat):CoeDep (Option aJ×Nat×Nat) (a,n,c) aC:=⟨.slice a n c⟩
instance(a n c:Nat):CoeDep (Nat×Nat×Nat) (a,n,c) aC:=⟨.slice (some ⟨a,0,none⟩) n c⟩
inductive aU
instance:CoeDep Type aU aC:=⟨.int .i64 0⟩
inductive bD
instance:CoeDep Type bD aC:=⟨.int .u64 0⟩
inductive bG
instance:CoeDep Type bG aC:=⟨.slice none 0 0⟩
inductive pO
instance:CoeDep Type pO aC:=⟨.pointer none⟩
theorem _root_.Go.RowKit.Hid.o{p:Prop}(h:aH p):p:=h.out
theorem aP{p:Prop}(h:p):aH p:=h
theorem aQ{P:Prop}(h:P:=by omega):P:=h
theorem aT{P:Prop}(h:P:=by simp):P:=h
theorem aV{P:Prop}(h:P:=by kernel_rfl):P:=h
theorem aZ{P:Prop}(h:P:=by rfl):P:=h
theorem cH{P:Prop}(h:P:=by decide):P:=h
theorem dN{P:Prop}(h:P:=by simp only[maxLen];omega):P:=h
theorem bX{P:Prop}(h:P:=by simp;omega):P:=h
theorem bO{a b:Prop}(x:a)(y:b):aH (a/\b):=⟨x,y⟩
theorem dE{a b c:Prop}(x:a)(y:b)(z:c):aH (a/\b/\c):=⟨x,y,z⟩
theorem jL{a b:Bool}(h:a=b):Ending.returned (.bool a)= .returned (.bool b):=by rw[h]
theorem lT{k:IntKind}{a b:Int}(h:a=b):Ending.returned (.int k a)= .returned (.int k b):=by rw[h]
theorem R8{k:IntKind}{a b:Int}(h:a=b):Ending.returned (.tuple #[.int k a,v])= .returned (.tuple #[.int k b,v]):=by rw[h]
theorem aX(w:aA)(o:Obj):aD w w (w.alloc o):=(Below.refl _ _).alloc (abQ _) _
theorem XY(hb:aD W W w1):(∀b o,b<W.heap.size->w1.cell? ⟨b,o,none⟩=W.cell? ⟨b,o,none⟩)/\(∀b o,b<W.heap.size->w1.frozen? ⟨b,o,none⟩=W.frozen? ⟨b,o,none⟩):=
 ⟨λb o h=>hb.cell (p:=⟨b,o,none⟩) h,λb o h=>hb.frozen (p:=⟨b,o,none⟩) h⟩
theorem bK{p:aJ}(hb:aD W W w1)(h:W.cell? p=some v):w1.cell? p=some v:=by
 rw[hb.cell (World.block_lt_of_cell? W p h)];exact h
theorem fI{B:Nat}(h:aD B W w1)(a:B<=W.heap.size)(b:aD w1 w1 w2):aD B W w2:=
 h.trans (b.mono (abX a h.size))
theorem fL{B:Nat}{a:aA}(h:aD B a w)(n:Nat):aD B a (w.drewN n):=⟨h.os,h.tape,h.output,h.size,h.block⟩
theorem Xm{p q:aJ}(h:aD W W w1/\w1.cell? p=some v/\w1.cell? q=some z)(hb:aD w1 w1 w2):
 aD W W w2/\w2.cell? p=some v/\w2.cell? q=some z:=⟨fI h.1 (abQ _) hb,bK hb h.2.1,bK hb h.2.2⟩
theorem wf_u64{x:Int}(h:(Lit.int .u64 x).wf=true):0<=x/\x<18446744073709551616:=by
 have:=h;simp[Lit.wf,IntKind.min,IntKind.max,IntKind.signed,IntKind.bits] at this;omega
theorem wf_u8{x:Int}(h:(Lit.int .u8 x).wf=true):0<=x/\x<256:=by
 have:=h;simp[Lit.wf,IntKind.min,IntKind.max,IntKind.signed,IntKind.bits] at this;omega
theorem own:ownKnob prog.godebug=none:=aV
theorem laidOut:laidOutB prog=true:=aV
theorem D6{H:Type}{enc:aN×aC->H}(hb:aD W W W'):
 ∀(ts:List aN) (e:List aC) (f:List (DataW H)) (ps:List MemPlace),
  (∀t∈ts,prog.readableRec t=true/\t<prog.types.size)->
  DataW.TrodAll enc prog W 0 (λ_=>true) true ts e f ps->(∀x∈ps,x.block<W.heap.size)->
  DataW.TrodAll enc prog W' 0 (λb=>decide (b<W.heap.size)) true ts e f ps
 | [], [], [],ps,_,h,_=>h
 |t::ts,v::e,d::f,ps,ht,h,a=>by
  obtain⟨p,q,h1,i,rfl⟩:=h;have c:=ht t aT;refine⟨p,q,Below.trod laidOut c.1 c.2 h1 hb (λx g=>a x (by simp[g])),?_,rfl⟩;exact D6 hb ts e f q (λj k=>ht j (by simp[k])) i (λx g=>a x (by simp[g]))
 | [],_::_,_,_,_,h,_=>by cases h
 | [], [],_::_,_,_,h,_=>by cases h
 |_::_, [],_,_,_,h,_=>by cases h
 |_::_,_::_, [],_,_,h,_=>by cases h
theorem Ht{H:Type}{enc:aN×aC->H}{f:Func}{s:ChangeSpec}{tb:aN}(a:s.vars= [])(e:f.resultTypes=#[tb])(b:prog.underlying tb=some .bool)
 {args:Array aC} {i gs:List (DataW H)} {before:List MemPlace}
 (c:∀t∈f.params.toList,prog.readableRec t=true/\t<prog.types.size)
 (j:DataW.Whole enc prog f.params.toList s.vars false W args.toList i gs before)
 (d:s.fn H (i++gs)={results:= [.lit (.bool true)],args:=i}) (hb:aD W W W'):
 s.post enc prog f false true false false W args (.bool true) W':=by
 have k:=j.lt;have l:=j;obtain⟨p,q,m,n,rfl,o,r⟩:=l;rw[a] at n;have g:∀x∈p,x.block<W.heap.size:=λx u=>k x (by simp[u])
 refine⟨i,gs,p++q, [],p, [],j,?_,?_,?_,hb.frame _,λh=>by cases h⟩
 .rw[d,e];exact trodAll_mk1 (shut_bool b true)
 .rw[d];exact D6 hb _ _ _ _ c m g
 .rw[d,a];rfl
theorem aR{n:FuncId}{a:Array aC}{K:aM->aA->Prop}(h:aH (aG P n a w K))(k:∀e b,K e b->K2 e b):aG P n a w K2:=Calls.mono h k
theorem aS{n:FuncId}{a:Array aC}{K:aM->aA->Prop}(h:aG P n a w K)(k:∀e b,K e b->K2 e b):aG P n a w K2:=Calls.mono h k
theorem eK{P:Prop}(p:P)(f:aH P->aa:=by intro a;(first|(refine C1 (by rfl) ?_;(try simp only[Act.put,abP,abV,abU]))|(refine yS (by rfl) (by rfl) (by rfl) (by rfl) (by rfl) (λK hK=>?_);go_big_quiet_op;refine hK _ ?_;clear hK K)|(refine MJ (by rfl) (by rfl) (by rfl) (by rfl) (by rfl) (by rfl) (λK hK=>?_);go_big_quiet_op;refine hK _ ?_;clear hK K)|(refine GH (by rfl) (by rfl) (by rfl) ?_;(try simp only[Act.put,abP,abV,abU]))|(refine yO (by rfl) (by rfl) (by rfl) (by rfl) (by rfl) (λK hK=>?_);go_simp;(try simp only[uL,adG]);first|(apply Exists.intro;refine⟨λn=>rfl,hK _ ?_⟩;clear hK K;(try simp only[Act.put,abP,abV,abU]))));exact a.o):aa:=f p
theorem abD{P:Prop}(p:P)(f:aH P->aa:=by intro a;(first|(refine ch_row (by rfl) ?_;(try simp only[Act.put,abP,abV,abU]))|(refine ch_free (by rfl) (by rfl) (by rfl) (λK hK=>?_);go_big_quiet_op;refine hK _ ?_;clear hK K)|(refine ch_read (by rfl) (by rfl) (by rfl) (λK hK=>?_);go_big_quiet_op;refine hK _ ?_;clear hK K)|(refine ch_no (by rfl) (by rfl) ?_;(try simp only[Act.put,abP,abV,abU])));exact a.o):aa:=f p
theorem abC{P:Prop}(p:P)(f:aH P->aa:=by intro a;(first|(refine sh_q (by rfl) (by rfl) (by rfl) (λK hK=>?_);go_big_quiet_op;refine hK _ ?_;clear hK K)|(refine sh_skip (by rfl) (by rfl) ?_;(try simp only[Act.put,abP,abV,abU]))|(refine sh_call (by rfl) (by rfl) (by rfl) (λK hK=>?_);go_simp;(try simp only[CUp,adG]);first|(apply Exists.intro;refine⟨λn=>rfl,hK _ ?_⟩;clear hK K;(try simp only[Act.put,abP,abV,abU]))));exact a.o):aa:=f p
theorem cI{P:Prop}(p:P)(f:aH P->aa:=by intro a;simp only[Act.put,abP,abV,abU];exact a.o):aa:=f p
theorem dS{P:Prop}(p:P)(f:aH P->aa:=by intro a;simp only[af8,List.filterMap_nil,afS,List.getElem?_cons_zero];exact a.o):aa:=f p
end
end
section
open Go.ChangeShapes Go.WideShapes Go.ChangeAt Go.RowKit Go.Deep
variable{w w' W w1 w2:aA}{A:Option aJ}{i b0 sz n:Nat}{v:aC}{P:aO}{fs:Array Field}
section
section
variable{α:Type}{enc:α->List aC}{sz:Nat}
theorem fF(he:∀x,(enc x).length=sz)(xs:List α):(xs.flatMap enc).length=xs.length *sz:=by
 induction xs with
 |nil=>simp
 |cons x xs a=>simp only[acK,ab6,acR,a,he x,adW];omega
theorem kH(he:∀x,(enc x).length=sz):∀(xs:List α) (i:Nat) (x:α) (j:Nat),xs[i]?=some x->j<sz->(xs.flatMap enc)[i *sz+j]?=(enc x)[j]?
 | [],i,x,j,h,_=>by simp at h
 |y::ys,0,x,j,h,a=>by
  simp at h;subst h;simp only[acK,ae6,acT];rw[acG (by rw[he];exact a)]
 |y::ys,i+1,x,j,h,a=>by
  simp at h;simp only[acK];rw[ab2 (by rw[he,adW];omega),he,show(i+1) *sz+j - sz=i *sz+j by rw[adW];omega];exact kH he ys i x j h a
def Sl(enc:α->List aC)(sz:Nat)(w:aA)(A:Option aJ)(xs:List α):Prop:=
 0<xs.length->∃b off,A=some ⟨b,off,none⟩/\∀(i:Nat) (x:α) (j:Nat) (u:aC),xs[i]?=some x->(enc x)[j]?=some u->w.cell? ⟨b,off+(i *sz+j),none⟩=some u
theorem Sl.nil(w:aA)(A:Option aJ):Sl enc sz w A []:=λh=>absurd h aT
theorem Sl.keep{xs:List α}(h:Sl enc sz w A xs)(hb:aD w w w'):Sl enc sz w' A xs:=λa=>by
 obtain⟨b,off,c,hc⟩:=h a;exact⟨b,off,c,λi x j u d hu=>bK hb (hc i x j u d hu)⟩
theorem Sl.alloc{w:aA}{A:Option aJ}{xs:List α}(h:Sl enc sz w A xs)(o:Obj):Sl enc sz (w.alloc o) A xs:=h.keep (aX _ _)
theorem Sl.at_{xs:List α}(h:Sl enc sz w A xs)(hi:i<xs.length):
 ∃b off,A=some ⟨b,off,none⟩/\∀(j:Nat) (u:aC),(enc xs[i])[j]?=some u->w.cell? ⟨b,off+(i *sz+j),none⟩=some u:=by
 obtain⟨b,off,a,hc⟩:=h aQ;exact⟨b,off,a,λj u hu=>hc i _ j u (abO hi) hu⟩
theorem YO{base:Nat}{e:aN}{xs:List α}(he:∀x,(enc x).length=sz)(h:w.ownsRow base e sz v xs.length (xs.flatMap enc)):
 ∃A c,v= .slice A xs.length c/\Sl enc sz w A xs:=by
 rcases h.2 with⟨a,f⟩|⟨g,cap,cur,a,l,m,h1,n,o,p⟩
 .refine⟨none,0,by rw[a,f],λq=>by omega⟩
 .refine⟨some ⟨g,0,none⟩,cap,a,λ_=>⟨g,0,rfl,λi x j u d hu=>?_⟩⟩;subst a;have k:j<sz:=by rw[<-he x];exact(ab7.1 hu).1
  have hi:i<xs.length:=(ab7.1 d).1;have b:i *sz+j<xs.length *sz:=by
   have:(i+1) *sz<=xs.length *sz:=adH _ hi;rw[adW] at this;omega
  rw[acT,h.cellAt _ b,kH he xs i x j d k,hu]
end
theorem LQ{row:Option Nat}(h:aD W W w1)(a:w1.grownBy w2 row)(b:∀k,row=some k->W.heap.size<=k):aD W W w2:=h.grown a h.size b
def eI(x:Int):List aC:= [.int .i64 x]
def eU(x:Int):List aC:= [.int .u64 x]
theorem LI(x:Int):(eI x).length=1:=rfl
theorem Vt(x:Int):(eU x).length=1:=rfl
theorem Sl.LP{xs:List Int}(h:Sl eI 1 w A xs)(hi:i<xs.length):
 ∃b off,A=some ⟨b,off,none⟩/\w.cell? ⟨b,off+i,none⟩=some (.int .i64 xs[i]):=by
 obtain⟨b,off,a,hc⟩:=h.at_ hi;refine⟨b,off,a,?_⟩;have:=hc 0 _ (show(eI xs[i])[0]?=some (.int .i64 xs[i]) from rfl);simpa using this
theorem Sl.Ah{xs:List Int}(h:Sl eU 1 w A xs)(hi:i<xs.length):
 ∃b off,A=some ⟨b,off,none⟩/\w.cell? ⟨b,off+i,none⟩=some (.int .u64 xs[i]):=by
 obtain⟨b,off,a,hc⟩:=h.at_ hi;refine⟨b,off,a,?_⟩;have:=hc 0 _ (show(eU xs[i])[0]?=some (.int .u64 xs[i]) from rfl);simpa using this
theorem ES(n:Nat):(madeCells (Value.int .i64 0).cells (n *1)).toList=(List.replicate n 0).flatMap eI:=by
 have h1:(List.replicate n (0:Int)).flatMap eI=List.replicate n (Value.int .i64 0):=by
  induction n with
  |zero=>rfl
  |succ n a=>rw[List.replicate_succ,acK,a];rfl
 rw[h1];apply adJ
 .simp[madeCells]
 .intro i b c;simp[madeCells,Value.cells,Nat.mod_one]
theorem Y5{H:Type}{B:aN×aC->H}{r:Reach}{t e:aN}{d:DataW H}{p:List MemPlace}{α:Type}{enc:α->List aC}(b:α->Prop)
 (V:P.underlying t=some (.slice e)) (hC:P.cellsOf e=sz) (jA:0<sz) (Z:Value.okWide P w r b0 t v) (h:DataW.Trod B P w 0 (λ_=>true) true t v d p)
 (E:∀(cs:List aC) (x:DataW H×List MemPlace) (n:Nat),cs.length=sz->DataW.trod B P w 0 (λ_=>true) true n e cs=some x->∃a:α,cs=enc a/\b a):
 ∃(A:Option aJ) (xs:List α) (c:Nat),v= .slice A xs.length c/\xs.length<=c/\c<=maxLen/\Sl enc sz w A xs/\(∀x∈xs,b x):=by
 obtain⟨A,len,cap,rfl⟩:=okWide_slice V Z;obtain⟨fuel,hf⟩:=h;rcases open_slice V hf with⟨g,_⟩|⟨a,W,X,m,n,D,Pl,g,_,hl,hm,F,_,hi⟩
 .simp[Value.cells] at g;obtain⟨rfl,rfl,rfl⟩:=g;exact⟨none, [],0,rfl,aT,by simp[maxLen],Sl.nil _ _,aT⟩
 .simp[Value.cells] at g;obtain⟨rfl,rfl,rfl⟩:=g;simp at F;subst F;have key:∀i:Nat,∃x:Option α,i<len->∃y,x=some y/\b y/\w.cells? 0 (a.add (i *sz)) sz=some (enc y):=λi=>by
   by_cases O:i<len
   .obtain⟨cs',hc,hd⟩:=hi i aQ;rw[hC] at hc;obtain⟨y,rfl,Q⟩:=E cs' _ n (World.cells?_some hc).2.1 hd;exact⟨some y,λ_=>⟨y,rfl,Q,hc⟩⟩
   .exact⟨none,λh=>absurd h O⟩
  obtain⟨f,R⟩:=Classical.axiomOfChoice key;let xs:=(List.range len).filterMap f
  have l:∀i,i<len->∃y,f i=some y/\b y/\w.cells? 0 (a.add (i *sz)) sz=some (enc y):=R;have hlen:∀k,k<=len->((List.range k).filterMap f).length=k:=by
   intro k;induction k with
   |zero=>simp
   |succ k S=>
    intro hk;obtain⟨y,C,_⟩:=l k aQ;rw[ad6,adX,ab6,S aQ];simp[C]
  have G:∀k,k<=len->∀i,i<k->((List.range k).filterMap f)[i]?=f i:=by
   intro k;induction k with
   |zero=>intro _ i hi;omega
   |succ k S=>
    intro hk i hi;obtain⟨y,C,_⟩:=l k aQ;rw[ad6,adX];by_cases I:i<k
    .rw[acG (by rw[hlen k aQ];exact I)];exact S aQ i I
    .obtain rfl:i=k:=aQ;rw[ab2 (by rw[hlen i aQ];omega),hlen i aQ];simp[C]
  have q:=hlen len (abQ _);refine⟨some a,xs,m,by rw[show xs.length=len from q],by rw[show xs.length=len from q];exact hl,hm,λM=>?_,λx N=>?_⟩
  .rw[show xs.length=len from q] at M;obtain⟨y0,_,_,J⟩:=l 0 M;have o:=(World.cells?_some J).2.2 0 jA;have a1:=(World.cells?_some J).2.1;have K:a.spot=none:=by
    have hz:(a.add (0 *sz)).add 0=a:=by simp[Addr.add]
    rw[hz,abO aQ] at o;unfold World.cell? at o;cases hs:a.spot with
    |none=>rfl
    |some s=>simp[hs] at o;split at o <;> simp at o
   obtain⟨ab,ao,asp⟩:=a;simp at K;subst K;refine⟨ab,ao,rfl,λi x j u N hu=>?_⟩;have L:i<len:=by
    have:=(ab7.1 N).1;rw[show xs.length=len from q] at this;exact this
   obtain⟨y,C,_,hc⟩:=l i L;have T:x=y:=by
    have:=G len (abQ _) i L;rw[show((List.range len).filterMap f)=xs from rfl,N,C] at this;injection this
   subst T;have hj:j<sz:=by
    have h1:=(World.cells?_some hc).2.1;have h2:=(ab7.1 hu).1;omega
   have Y:=(World.cells?_some hc).2.2 j hj;rw[hu] at Y;rw[<-Y];congr 1
   rw[Go.Deep.add_add];unfold Addr.add;split
   .rename_i M;rw[M,acD]
   .rfl
  .obtain⟨i,U,z⟩:=ad9.1 N;obtain⟨y,C,Q,_⟩:=l i (ac8.1 U);rw[C] at z;injection z with z;subst z;exact Q
theorem MT{H:Type}{b:aN×aC->H}{e:aN}{k:IntKind}(he:P.underlying e=some (.int k)):
 ∀(cs:List aC) (x:DataW H×List MemPlace) (n:Nat),cs.length=1->DataW.trod b P w 0 (λ_=>true) true n e cs=some x->∃a:Int,cs= [.int k a]/\(Lit.int k a).wf=true:=by
 intro cs x n _ h;obtain⟨a,rfl,_,hw⟩:=DataW.trod_int he h;exact⟨a,rfl,hw⟩
theorem nD{H:Type}{a:aN×aC->H}{e:aN}{cs:List aC}{x:DataW H×List MemPlace}(he:P.underlying e=some (.struct fs))(c:oneCellFields P fs=true)
 (hC:P.cellsOf e=fs.size) (h:DataW.trod a P w 0 (λ_=>true) true n e cs=some x) (j:Nat) (f:Field) (d:fs[j]?=some f):
 cs.length=fs.size/\∃(v:aC) (y:DataW H×List MemPlace) (m:Nat),cs[j]?=some v/\DataW.trod a P w 0 (λ_=>true) true m f.type [v]=some y:=by
 obtain⟨ys,g,i,o,hlen,k,hf⟩:=DataW.trod_struct he h;rw[hC] at hlen;obtain⟨ho,hk⟩:=hone_of c j f d;have l:j<fs.size:=(afH.1 d).1;have h1:=hf j f d;rw[ho,hk] at h1;have b:(cs.drop j).take 1= [cs[j]'(by omega)]:=by
  rw[aeD aQ];rfl
 rw[b,abO (show j<ys.length by omega)] at h1;exact⟨hlen,_,_,g,abO aQ,h1⟩
end
end
section
open Go.ChangeShapes Go.WideShapes Go.ChangeAt Go.RowKit Go.Deep Go.Joins Go.Lib
variable{P:aO}{w:aA}{v:aC}{n0 sz:Nat}
section
theorem jD{H:Type}{q:aN×aC->H}{t e:aN}{T:DataW H×List MemPlace}{α:Type}{enc:α->List aC}(b:α->Prop)
 (U:P.underlying t=some (.slice e)) (hC:P.cellsOf e=sz) (jA:0<sz) (hf:DataW.trod q P w 0 (λ_=>true) true n0 t [v]=some T)
 (z:∀(cs:List aC) (x:DataW H×List MemPlace) (n:Nat),cs.length=sz->DataW.trod q P w 0 (λ_=>true) true n e cs=some x->∃a:α,cs=enc a/\b a):
 ∃(A:Option aJ) (xs:List α) (c:Nat),v= .slice A xs.length c/\xs.length<=c/\c<=maxLen/\Sl enc sz w A xs/\(∀x∈xs,b x):=by
 obtain⟨A,len,cap,L⟩:=slice_form U hf;injection L with L;subst L;rcases open_slice U hf with⟨d,_⟩|⟨a,V,W,m,n,D,Pl,d,_,hl,hm,B,_,hi⟩
 .simp at d;obtain⟨rfl,rfl,rfl⟩:=d;exact⟨none, [],0,rfl,aT,by simp[maxLen],Sl.nil _ _,aT⟩
 .simp at d;obtain⟨rfl,rfl,rfl⟩:=d;simp at B;subst B;have key:∀i:Nat,∃x:Option α,i<len->∃y,x=some y/\b y/\w.cells? 0 (a.add (i *sz)) sz=some (enc y):=λi=>by
   by_cases M:i<len
   .obtain⟨cs',hc,hd⟩:=hi i aQ;rw[hC] at hc;obtain⟨y,rfl,N⟩:=z cs' _ n (World.cells?_some hc).2.1 hd;exact⟨some y,λ_=>⟨y,rfl,N,hc⟩⟩
   .exact⟨none,λh=>absurd h M⟩
  obtain⟨f,O⟩:=Classical.axiomOfChoice key;let xs:=(List.range len).filterMap f
  have g:∀i,i<len->∃y,f i=some y/\b y/\w.cells? 0 (a.add (i *sz)) sz=some (enc y):=O;have hlen:∀k,k<=len->((List.range k).filterMap f).length=k:=by
   intro k;induction k with
   |zero=>simp
   |succ k Q=>
    intro hk;obtain⟨y,r,_⟩:=g k aQ;rw[ad6,adX,ab6,Q aQ];simp[r]
  have C:∀k,k<=len->∀i,i<k->((List.range k).filterMap f)[i]?=f i:=by
   intro k;induction k with
   |zero=>intro _ i hi;omega
   |succ k Q=>
    intro hk i hi;obtain⟨y,r,_⟩:=g k aQ;rw[ad6,adX];by_cases E:i<k
    .rw[acG (by rw[hlen k aQ];exact E)];exact Q aQ i E
    .obtain rfl:i=k:=aQ;rw[ab2 (by rw[hlen i aQ];omega),hlen i aQ];simp[r]
  have o:=hlen len (abQ _);refine⟨some a,xs,m,by rw[show xs.length=len from o],by rw[show xs.length=len from o];exact hl,hm,λJ=>?_,λx K=>?_⟩
  .rw[show xs.length=len from o] at J;obtain⟨T,_,_,F⟩:=g 0 J;have l:=(World.cells?_some F).2.2 0 jA;have Y:=(World.cells?_some F).2.1;have G:a.spot=none:=by
    have Z:(a.add (0 *sz)).add 0=a:=by simp[Addr.add]
    rw[Z,abO aQ] at l;unfold World.cell? at l;cases hs:a.spot with
    |none=>rfl
    |some s=>simp[hs] at l;split at l <;> simp at l
   obtain⟨ab,ao,asp⟩:=a;simp at G;subst G;refine⟨ab,ao,rfl,λi x j u K hu=>?_⟩;have I:i<len:=by
    have:=(ab7.1 K).1;rw[show xs.length=len from o] at this;exact this
   obtain⟨y,r,_,hc⟩:=g i I;have R:x=y:=by
    have:=C len (abQ _) i I;rw[show((List.range len).filterMap f)=xs from rfl,K,r] at this;injection this
   subst R;have hj:j<sz:=by
    have h1:=(World.cells?_some hc).2.1;have h2:=(ab7.1 hu).1;omega
   have X:=(World.cells?_some hc).2.2 j hj;rw[hu] at X;rw[<-X];congr 1
   rw[Go.Deep.add_add];unfold Addr.add;split
   .rename_i J;rw[J,acD]
   .rfl
  .obtain⟨i,S,p⟩:=ad9.1 K;obtain⟨y,r,N,_⟩:=g i (ac8.1 S);rw[r] at p;injection p with p;subst p;exact N
end
end
section
section
namespace dL
structure En where
 env:Int
 cZ:Int
 frame:Int
 write:Bool
def mK(a p:Int)(e:En):Bool:=e.env==a&&e.cZ==p
variable{p:Int}
theorem kK{a:Int}{e:En}:mK a p e=true↔e.env=a/\e.cZ=p:=by simp[mK]
def fi(L:List En)(a p:Int):Option Nat:=L.findIdx? (mK a p)
def xN(L:List En)(a p:Int):Int:=match fi L a p with
 |some i=>(i:Int)
 |none=> -1
def mE(L:List En)(X:En):List En:=match fi L X.env X.cZ with
 |some i=>L.eraseIdx i
 |none=>if 16<=L.length then L.eraseIdx 0 else L
def ld(L:List En)(X:En):List En:=mE L X++ [X]
def lk(L:List En)(a p:Int):List En:=match fi L a p with
 |some i=>L.eraseIdx i++(L[i]?).toList
 |none=>L
def lH(e:En):Bool:=decide (0<=e.env/\e.env<=7/\0<=e.cZ/\e.cZ<=65535/\0<=e.frame/\e.frame<=31)
def qH(L:List En):Prop:=L.Pairwise λx y=>¬(x.env=y.env/\x.cZ=y.cZ)
variable{L:List En}
theorem M7{a:Int}(h:fi L a p=none):∀e∈L,¬(e.env=a/\e.cZ=p):=by
 intro e he hk;have:=ac1.1 h e he;rw[kK.2 hk] at this;cases this
variable{i:Nat}
theorem pT{a:Int}(h:fi L a p=some i):∃hi:i<L.length,(L[i].env=a/\L[i].cZ=p)/\∀j,(b:j<i)->¬(L[j].env=a/\L[j].cZ=p):=by
 obtain⟨hi,h1,c⟩:=acB.1 h;refine⟨hi,kK.1 h1,λj b hk=>?_⟩;have:=c j b;rw[kK.2 hk] at this;simp at this
theorem BB(h:qH L)(i:Nat):qH (L.eraseIdx i):=List.Pairwise.sublist (af0 L i) h
theorem JG{X:En}(h:qH L)(c:∀e∈L,¬(e.env=X.env/\e.cZ=X.cZ)):qH (L++ [X]):=by
 refine aeI.2 ⟨h,aeJ _ _,λa ha b hb=>?_⟩;rw[ab3] at hb;subst hb;exact c a ha
theorem JA(h:qH L)(hi:i<L.length):∀e∈L.eraseIdx i,¬(e.env=L[i].env/\e.cZ=L[i].cZ):=by
 intro e he hk;rw[aeT] at he;obtain⟨j,c,a,rfl⟩:=he;have hp:=ad5.1 h;rcases Nat.lt_or_gt_of_ne a with b|hgt
 .exact hp j i c hi b hk
 .exact hp i j hi c hgt ⟨hk.1.symm,hk.2.symm⟩
end dL
end
end
section
open Go.RowKit
namespace dL
theorem tW(e:En)(w:aA):aG prog 244 #[.agg #[e.env,e.cZ,e.frame,e.write]] w λr w'=>r= .returned (.bool (lH e))/\aD w w w':=by
 go_enter func244,ntmps244
 go_wp2
 all_goals go_ret
 all_goals refine⟨jL ?_,aX _ _⟩
 all_goals unfold lH
 all_goals first|(simp;done)|(simp;omega)|(rw[af1];omega)
end dL
def bF(w:aA)(g:Nat)(t:aN)(cs:Array aC):Prop:=w.heap[g]?=some (.cells cs t (0,0))
section
variable{w w':aA}{g:Nat}{t:aN}{cs:Array aC}
theorem bF.lt(h:bF w g t cs):g<w.heap.size:=by
 rcases aeH g w with b|hge
 .exact b
 .unfold bF at h;rw[aeM hge] at h;cases h
theorem bF.cell(h:bF w g t cs)(i:Nat)(v:aC)(b:cs[i]?=some v):w.cell? (g,i)=some v:=(cell_of_row w g i cs t (0,0) h).trans b
theorem bF.frozen(h:bF w g t cs)(i:Nat):w.frozen? (g,i)=false:=by
 unfold bF at h;simp[World.frozen?,h]
theorem bF.new(w:aA)(t:aN)(cs:Array aC):bF (w.alloc (.cells cs t)) w t cs:=heap_alloc_new w _
theorem bF.fH(w:aA)(t:aN)(cs:Array aC)(h:w.heap.size=g):bF (w.alloc (.cells cs t)) g t cs:=by subst h;exact bF.new w t cs
theorem bF.alloc(h:bF w g t cs)(o:Obj):bF (w.alloc o) g t cs:=(Below.heap_alloc w o g h.lt).trans h
theorem bF.drewN(h:bF w g t cs)(n:Nat):bF (w.drewN n) g t cs:=h
theorem bF.cB(h:bF w g t cs)(i:Nat)(u:aC):bF (w.setCell (g,i) u) g t (cs.setIfInBounds i u):=by
 unfold bF at h⊢;simp[World.setCell,ae4,h]
theorem bF.r8(h:bF w g t cs){p:aJ}(hp:g≠p.block)(u:aC):bF (w.setCell p u) g t cs:=(Below.heap_setCell w p u g hp).trans h
theorem bF.keep(h:bF w g t cs)(hb:aD w w w'):bF w' g t cs:=(hb.block g h.lt).trans h
theorem bF.grown{row:Option Nat}(h:bF w g t cs)(hb:w.grownBy w' row)(b:some g≠row):bF w' g t cs:=(hb.block g h.lt b).trans h
end
variable{W:aA}
section
variable{a w w1:aA}{g:Nat}
theorem bL(w:aA)(g:Nat):w.grownBy w (some g):=World.grownBy.refl w _
theorem X7(h:a.grownBy w (some g))(o:Obj):a.grownBy (w.alloc o) (some g):=
 ⟨h.os,h.tape,h.output,abX h.size aT,λi hi b=>(Below.heap_alloc w o i (abR hi h.size)).trans (h.block i hi b)⟩
theorem bC(h:a.grownBy w (some g))(i:Nat)(u:aC):a.grownBy (w.setCell (g,i) u) (some g):=
 ⟨h.os,h.tape,h.output,by simpa[World.setCell] using h.size,λk hk b=>(Below.heap_setCell w ⟨g,i,none⟩ u k (λe=>b (by rw[e]))).trans (h.block k hk b)⟩
theorem pF(h:a.grownBy w (some g))(k:w.grownBy w1 (some g)):a.grownBy w1 (some g):=
 ⟨k.os.trans h.os,k.tape.trans h.tape,k.output.trans h.output,abX h.size k.size,λi hi b=>(k.block i (abR hi h.size) b).trans (h.block i hi b)⟩
theorem pB(h:a.grownBy w (some g))(k:aD w w w1):a.grownBy w1 (some g):=
 ⟨k.os.trans h.os,k.tape.trans h.tape,k.output.trans h.output,abX h.size k.size,λi hi b=>(k.block i (abR hi h.size)).trans (h.block i hi b)⟩
theorem LA(h:aD W W w)(k:w.grownBy w1 (some g))(b:W.heap.size<=g):aD W W w1:=
 h.grown k h.size (λq hq=>by injection hq with hq;omega)
end
variable{P:aO}{sz i m d n base:Nat}{z:aC}{B A:Option aJ}{Q:Exit->Act->aA->Prop}{aa:Prop}{w w':aA}
section
def jR(P:aO)(t e:aN)(sz bytes:Nat):Prop:=
 P.underlying t=some (.slice e)/\∃i z,P.info? e=some i/\i.zero=some z/\i.size=sz/\i.bytes=bytes/\z.cells.size=sz/\0<sz
theorem fX{t e:aN}{bytes:Nat}(a:P.underlying t=some (.slice e))(h:(P.info? e).map (λi=>(i.zero,i.size,i.bytes))=some (some z,sz,bytes))(b:z.cells.size=sz)(d:0<sz):jR P t e sz bytes:=by
 obtain⟨i,hi,h1,f,g⟩:=info_parts h;exact⟨a,i,z,hi,h1,f,g,b,d⟩
structure eW{α:Type}(enc:α->List aC)(sz:Nat):Prop where
 len:∀x,(enc x).length=sz
 one:∀x,∀u∈enc x,u.oneCell'=true
theorem gR:eW eI 1:=⟨LI,λx u hu=>by simp[eI] at hu;subst hu;rfl⟩
theorem yF:eW eU 1:=⟨Vt,λx u hu=>by simp[eU] at hu;subst hu;rfl⟩
def aY(A:Option aJ):Option Nat:=A.map (·.block)
theorem CF(A:Option aJ)(n c:Nat):(Value.slice A n c).ownBlock=aY A:=by cases A <;> rfl
section
variable{α:Type}{enc:α->List aC}{sz:Nat}
def bH(enc:α->List aC)(sz:Nat)(w:aA)(base:Nat)(e:aN)(A:Option aJ)(c:Nat)(xs:List α):Prop:=
 w.ownsRow base e sz (.slice A xs.length c) xs.length (xs.flatMap enc)
variable{w w':aA}{base:Nat}{e:aN}{A:Option aJ}{c:Nat}{xs:List α}
theorem bH.nil(w:aA)(base:Nat)(e:aN):bH enc sz w base e none 0 []:=⟨aT, .inl ⟨rfl,rfl⟩⟩
theorem bH.sl(h:bH enc sz w base e A c xs)(hc:eW enc sz):Sl enc sz w A xs:=by
 obtain⟨A',b,a,hs⟩:=YO hc.len h;injection a with h1 _ _;rw[h1];exact hs
theorem bH.alloc(h:bH enc sz w base e A c xs)(o:Obj):bH enc sz (w.alloc o) base e A c xs:=World.ownsRow.alloc h o
theorem bH.drew(h:bH enc sz w base e A c xs):bH enc sz w.drew base e A c xs:=h
theorem bH.drewN(h:bH enc sz w base e A c xs)(n:Nat):bH enc sz (w.drewN n) base e A c xs:=h
theorem bH.lt(h:bH enc sz w base e A c xs):∀k,aY A=some k->base<=k/\k<w.heap.size:=λk hk=>World.ownsRow.lt h k (by rw[CF];exact hk)
theorem bH.kept{row:Option Nat}(h:bH enc sz w base e A c xs)(b:w.grownBy w' row)(a:aY A=none\/aY A≠row):bH enc sz w' base e A c xs:=
 World.ownsRow.kept h b (by rw[CF];exact a)
theorem bH.keep(h:bH enc sz w base e A c xs)(hb:aD w w w'):bH enc sz w' base e A c xs:=by
 refine World.ownsRow.kept (row:=none) h ⟨hb.os,hb.tape,hb.output,hb.size,λi hi _=>hb.block i hi⟩ ?_;rw[CF];cases h1:aY A with
 |none=>exact .inl rfl
 |some k=>exact .inr aT
theorem bH.cap(h:bH enc sz w base e A c xs):xs.length<=c:=by
 rcases h.2 with⟨h1,a⟩|⟨g,cap,cur,h1,_,_,b,_⟩
 .omega
 .injection h1 with _ _ h1;omega
theorem bH.shape(h:bH enc sz w base e A c xs):(A=none/\xs= []/\c=0)\/∃g,A=some ⟨g,0,none⟩:=by
 rcases h.2 with⟨h1,b⟩|⟨g,cap,cur,h1,_⟩
 .injection h1 with a a2 a3;exact .inl ⟨a,acQ b,a3⟩
 .injection h1 with a;exact .inr ⟨g,a⟩
theorem bH.from_(h:bH enc sz w base e A c xs)(hb:i<=base):bH enc sz w i e A c xs:=by
 refine⟨h.1,?_⟩;rcases h.2 with h1|⟨g,cap,cur,h1,a,b⟩
 .exact .inl h1
 .exact .inr ⟨g,cap,cur,h1,abX hb a,b⟩
theorem bH.ne{p:aJ}{B:Nat}(h:bH enc sz w base e A c xs)(hp:p.block<B)(a:B<=base):aY A=none\/aY A≠some p.block:=by
 cases h1:aY A with
 |none=>exact .inl rfl
 |some k=>right;intro he;injection he with he;have:=(h.lt k h1).1;omega
theorem Sl.new(hc:eW enc sz)(w:aA)(y:α)(cs:Array aC)(a:cs.toList=enc y)(t:aN):Sl enc sz (w.alloc (.cells cs t)) (some ⟨w.heap.size,0,none⟩) [y]:=λ_=>by
 refine⟨w.heap.size,0,rfl,λi x j u b hu=>?_⟩;have hi:i=0:=by
  have:=(ab7.1 b).1;simp at this;exact this
 subst hi;simp at b;subst b;have h1:=cell_of_row (w.alloc (.cells cs t)) w j cs t (0,0) (heap_alloc_new w _);rw[ae6,acT,acT,h1,<-acH,a,hu]
theorem rG(hc:eW enc sz)(ys:List α):∀u∈ys.flatMap enc,u.oneCell'=true:=λu hu=>by
 obtain⟨y,_,a⟩:=List.mem_flatMap.1 hu;exact hc.one y u a
variable{P:aO}
theorem PA{t ty:aN}{bytes:Nat}(w:aA)(O:jR P t e sz bytes)(hc:eW enc sz)(a:bH enc sz w base e A c xs){ys:List α}(hm:ys.length=m)(q:Sl enc sz w B ys)
 (C:xs.length+m<=maxLen) (f:(xs.length+m) *bytes<=140737488355328) (l:base<=w.heap.size):
 ∃A' n w',(Builtin.append_ #[t,t] ty #[(A,xs.length,c),(B,m,d)]).run P w= .ok (.slice A' (xs.length+m) n) w'/\bH enc sz w' base e A' n (xs++ys)/\w.grownBy w' (aY A)/\
  (aY A'=aY A\/aY A'=some w.heap.size):=by
 obtain⟨D,i,z,hi,Q,hs,E,F,L⟩:=O;subst hm;have fin:∀p w',(Builtin.append_ #[t,t] ty #[(A,xs.length,c),(B,ys.length,d)]).run P w= .ok p w'->w'.ownsRow base e sz p (xs.length+ys.length) (xs.flatMap enc++ys.flatMap enc)->w.grownBy w' (Value.slice A xs.length c).ownBlock->
  (p.ownBlock=(Value.slice A xs.length c).ownBlock\/p.ownBlock=some w.heap.size)->
  ∃A' n w',(Builtin.append_ #[t,t] ty #[(A,xs.length,c),(B,ys.length,d)]).run P w= .ok (.slice A' (xs.length+ys.length) n) w'/\bH enc sz w' base e A' n (xs++ys)/\w.grownBy w' (aY A)/\(aY A'=aY A\/aY A'=some w.heap.size):=by
  intro p w' G ho M hb;rw[<-aeY] at ho;have hl:(xs++ys).length=xs.length+ys.length:=ab6;rw[<-hl] at ho;obtain⟨A',n,rfl,_⟩:=YO hc.len ho;rw[CF] at M hb;rw[CF] at hb;exact⟨A',n,w',by rw[<-hl];exact G,ho,M,hb⟩
 cases B with
 |none=>
  have R:ys= []:=by
   cases ys with
   |nil=>rfl
   |cons y ys=>obtain⟨_,_,h,_⟩:=q aT;cases h
  subst R;refine fin (.slice A xs.length c) w ?_ (by simpa[bH] using a) (World.grownBy.refl w _) (.inl rfl);rcases a.2 with⟨h1,r⟩|⟨g,cap,cur,h1,_,_,H,_⟩
  .rw[h1];simp[Builtin.append_,run_underlying D,sizeOf,typeInfo,hi,Builtin.lenOf,Builtin.firstCells]
  .rw[h1];simp[Builtin.append_,run_underlying D,sizeOf,typeInfo,hi,Builtin.lenOf,Builtin.firstCells,H,storeCells]
 |some N=>
  have k:∀j u,(ys.flatMap enc)[j]?=some u->w.cell? (N.add j)=some u:=by
   intro j u hu;have s:0<ys.length:=by
    cases ys with
    |nil=>simp at hu
    |cons y ys=>simp
   obtain⟨b,off,I,J⟩:=q s;injection I with I;subst I;have S:j<ys.length *sz:=by
    have:=(ab7.1 hu).1;rw[fF hc.len] at this;exact this
   have hq:j /sz<ys.length:=af4 (by rw[afV];exact S);have G:j%sz<sz:=agB _ L;have v:j /sz *sz+j%sz=j:=by rw[afV];exact Nat.div_add_mod j sz
   have h1:=kH hc.len ys (j /sz) _ (j%sz) (abO hq) G;rw[v,hu] at h1;have r:=J (j /sz) _ (j%sz) u (abO hq) h1.symm;rw[v] at r;rw[<-r];unfold Addr.add;split
   .rename_i K;rw[K,acD]
   .rfl
  obtain⟨p,w',x,r,H,_,T⟩:=run_append_own_at (P:=P) w base t ty e i z sz bytes D hi Q hs E F L (.slice A xs.length c) xs.length (xs.flatMap enc) a N ys.length d (ys.flatMap enc) (fF hc.len ys) k (rG hc ys) C f l;exact fin p w' x r H T
theorem FZ{o:aK}{a:Act}{K:Act->aA->Prop}{t:aN}{bytes:Nat}(w:aA)(s x:Operand)(ho:o.op= .call {callee:= .builtin .append,args:=#[s,x],argTypes:=#[t,t]})
 (l:jR P t e sz bytes) (hc:eW enc sz) (g:bH enc sz w base e A c xs) (p:xs.length=n) (hs:a.eval s= .slice A n c) {ys:List α} (q:a.eval x= .slice B m d) (hm:ys.length=m) (j:Sl enc sz w B ys)
 (k:n+m<=maxLen) (b:(n+m) *bytes<=140737488355328) (f:base<=w.heap.size) (H:Nat) (hH:w.heap.size=H) (N:Nat) (r:n+m=N)
 (h:∀A' i w',bH enc sz w' base e A' i (xs++ys)->w.grownBy w' (aY A)->(aY A'=aY A\/aY A'=some H)->K (a.put o.dst (.slice A' N i)) w'):o.wp P a w K Q:=by
 subst p;subst hH;subst r;obtain⟨A',i,w',u,v,y,z⟩:=PA (P:=P) (ty:=o.type) w l hc g hm j k b f;unfold Oper.wp execOp;simp only[ho,resolve,invoke,builtin,Sem.run_bind,Sem.run_pure,Result.andThen_ok,List.map_toArray,List.map_cons,List.map_nil,hs,q];rw[u];exact h A' i w' v y z
theorem bQ{ops:Array aK}{rest:List aK}{o:aK}{a:Act}{t:aN}{bytes:Nat}(w:aA)(j:o.guard=none)(s x:Operand)(ho:o.op= .call {callee:= .builtin .append,args:=#[s,x],argTypes:=#[t,t]})
 (p:jR P t e sz bytes) (hc:eW enc sz) (g:bH enc sz w base e A c xs) (q:xs.length=n) (hs:a.eval s= .slice A n c) {ys:List α} (r:a.eval x= .slice B m d) (hm:ys.length=m) (k:Sl enc sz w B ys)
 (l:n+m<=maxLen) (b:(n+m) *bytes<=140737488355328) (f:base<=w.heap.size) (H:Nat) (hH:w.heap.size=H) (N:Nat) (u:n+m=N)
 (h:∀A' i w',bH enc sz w' base e A' i (xs++ys)->w.grownBy w' (aY A)->(aY A'=aY A\/aY A'=some H)->wpList P ops Q rest (a.put o.dst (.slice A' N i)) w'):wpList P ops Q (o::rest) a w:=
 wpList_plain j λ_ hK=>FZ w s x ho p hc g q hs r hm k l b f H hH N u λA' i w' v y z=>hK _ _ (h A' i w' v y z)
theorem kM{ops:Array aK}{o:aK}{a:Act}{K:Act->aA->Prop}{t:aN}{bytes:Nat}(w:aA)(i:o.guard=none)(s x:Operand)(ho:o.op= .call {callee:= .builtin .append,args:=#[s,x],argTypes:=#[t,t]})
 (p:jR P t e sz bytes) (hc:eW enc sz) (g:bH enc sz w base e A c xs) (q:xs.length=n) (hs:a.eval s= .slice A n c) {ys:List α} (r:a.eval x= .slice B m d) (hm:ys.length=m) (j:Sl enc sz w B ys)
 (k:n+m<=maxLen) (b:(n+m) *bytes<=140737488355328) (f:base<=w.heap.size) (H:Nat) (hH:w.heap.size=H) (N:Nat) (u:n+m=N)
 (h:∀A' l w',bH enc sz w' base e A' l (xs++ys)->w.grownBy w' (aY A)->(aY A'=aY A\/aY A'=some H)->K (a.put o.dst (.slice A' N l)) w'):
 if Region.wanted o (yielded ops a.tmps)=true then Oper.wp P o a w K Q else aa:=by
 have hw:Region.wanted o (yielded ops a.tmps)=true:=by simp[Region.wanted,i]
 rw[abS hw];exact FZ w s x ho p hc g q hs r hm j k b f H hH N u h
theorem Sl.drop{b off k:Nat}(h:Sl enc sz w (some ⟨b,off,none⟩) xs)(hk:k<xs.length):Sl enc sz w (some ⟨b,off+k *sz,none⟩) (xs.drop k):=λ_=>by
 obtain⟨l,d,a,hc⟩:=h aQ;injection a with a;injection a with h1 g;subst h1 g;refine⟨b,off+k *sz,rfl,λi x j u f hu=>?_⟩;rw[adF] at f;have:=hc (k+i) x j u f hu;rw[adW] at this;rw[show off+k *sz+(i *sz+j)=off+(k *sz+i *sz+j) by omega];exact this
end
theorem bH.empty{α:Type}{enc:α->List aC}(w:aA)(e:aN)(hb:base<=w.heap.size):bH enc sz (w.alloc (.cells #[] e)) base e (some ⟨w.heap.size,0,none⟩) 0 []:=
 ⟨aT, .inr ⟨w.heap.size,0,#[],rfl,hb,heap_alloc_new w _,abQ _,by simp[maxLen],aT,aT⟩⟩
theorem Sl.grown{α:Type}{enc:α->List aC}{xs:List α}{row:Option Nat}(h:Sl enc sz w A xs)(f:w.grownBy w' row)(a:∀g,row=some g->aY A≠some g):Sl enc sz w' A xs:=λk=>by
 obtain⟨b,off,d,hc⟩:=h k;refine⟨b,off,d,λi x j u l hu=>?_⟩;have h1:=hc i x j u l hu;rw[World.cell?_of_block (w:=w) (f.block b (World.block_lt_of_cell? w _ h1) (λe=>a b e.symm (by rw[d];rfl)))];exact h1
theorem Sl.fH{α:Type}{enc:α->List aC}(hc:eW enc sz)(w:aA)(y:α)(cs:Array aC)(a:cs.toList=enc y)(t:aN){G:Nat}(b:w.heap.size=G):Sl enc sz (w.alloc (.cells cs t)) G [y]:=by
 subst b;exact Sl.new hc w y cs a t
def XF{α:Type}(enc:α->List aC)(sz:Nat)(e:aN)(xs:List α)(w:aA)(en:aM)(w':aA):Prop:=
 ∃A c,en= .returned (.slice A xs.length c)/\bH enc sz w' w e A c xs/\aD w w w'
end
section
namespace Fr
structure dK where
 n:Nat
 T:List Bool
 B:List Int
def fc(s:dK):List aC:= .int .i64 s.n::(s.T.map Value.bool++s.B.map (Value.int .u8))
structure Fm(w:aA)(g:Nat)(s:dK):Prop where
 n0:s.n<=32
 t:s.T.length=32
 b:s.B.length=512
 at_:bF w g 150 (fc s).toArray
theorem Zz(s:dK)(a:s.T.length=32)(hi:i<32):(fc s)[1+i]?=some (.bool (s.T[i]'(by omega))):=by
 unfold fc;rw[Nat.add_comm,afS,acG bX,ad1,abO aQ];rfl
theorem Zb(s:dK)(a:s.T.length=32)(hb:s.B.length=512)(hm:m<512):(fc s)[33+m]?=some (.int .u8 (s.B[m]'(by omega))):=by
 unfold fc;rw[show 33+m=(32+m)+1 by omega,afS,ab2 bX,ad1,acU,a,show 32+m - 32=m by omega,abO aQ];rfl
theorem Ox(s:dK)(a:s.T.length=32)(hi:i<32)(v:Bool):(fc s).set (1+i) (.bool v)=fc {s with T:=s.T.set i v}:=by
 unfold fc;rw[Nat.add_comm,abU,adV _ _ bX,adS]
theorem Ps(s:dK)(a:s.T.length=32)(v:Int):(fc s).set (33+m) (.int .u8 v)=fc {s with B:=s.B.set m v}:=by
 unfold fc;rw[show 33+m=(32+m)+1 by omega,abU,acA _ _ bX,acU,a,show 32+m - 32=m by omega,adS]
section
variable{w w':aA}{g:Nat}{s:dK}
theorem Fm.cn(h:Fm w g s):w.cell? (g,0)=some (.int .i64 s.n):=h.at_.cell 0 _ (by rw[ab4];rfl)
theorem Fm.ct(h:Fm w g s)(hi:i<32):w.cell? (g,1+i)=some (.bool (s.T[i]'(by rw[h.t];exact hi))):=h.at_.cell _ _ (by rw[ab4];exact Zz s h.t hi)
theorem Fm.cb(h:Fm w g s)(hm:m<512):w.cell? (g,33+m)=some (.int .u8 (s.B[m]'(by rw[h.b];exact hm))):=h.at_.cell _ _ (by rw[ab4];exact Zb s h.t h.b hm)
theorem Fm.keep(h:Fm w g s)(hb:aD w w w'):Fm w' g s:=⟨h.n0,h.t,h.b,h.at_.keep hb⟩
theorem Fm.Vi(h:Fm w g s)(hi:i<32)(v:Bool):Fm (w.setCell (g,1+i) (.bool v)) g {s with T:=s.T.set i v}:=by
 refine⟨h.n0,by simpa using h.t,h.b,?_⟩;have:=h.at_.cB (1+i) (.bool v);rw[abP,Ox s h.t hi] at this;exact this
theorem Fm.Uz(h:Fm w g s)(m:Nat)(v:Int):Fm (w.setCell (g,33+m) (.int .u8 v)) g {s with B:=s.B.set m v}:=by
 refine⟨h.n0,h.t,by simpa using h.b,?_⟩;have:=h.at_.cB (33+m) (.int .u8 v);rw[abP,Ps s h.t] at this;exact this
end
def zQ(s:dK)(i:Int):Bool:=decide (0<=i/\i<s.n)
def dA(s:dK)(i:Int):Bool:=zQ s i&&(s.T[i.toNat]?).getD false
theorem kZ(s:dK)(g:Nat)(i:Int)(w:aA)(h:Fm w g s):aG prog 39 #[.pointer g,i] w λe w'=>e= .returned (.bool (zQ s i))/\w=w':=by
 have c0:=h.cn;clear h;by_cases b:0<=i
 .have a:aH (zQ s i=decide (i<(s.n:Int))):=by unfold aH zQ;rw[af1];omega
  go_enter func39,ntmps39
  go_wp2
  go_ret
  exact⟨jL a.o.symm,rfl⟩
 .have a:aH (zQ s i=false):=by unfold aH zQ;exact ab8 aQ
  go_enter func39,ntmps39
  go_wp2
  go_ret
  exact⟨jL a.o.symm,rfl⟩
theorem ZN{s:dK}{i:Int}(h:zQ s i=true):∃k:Nat,i=k/\k<s.n:=by
 have a:0<=i/\i<s.n:=adD h;obtain⟨k,rfl⟩:=abW a.1;exact⟨k,rfl,aQ⟩
theorem BJ(s:dK)(g:Nat)(i:Int)(w:aA)(h:Fm w g s):aG prog 14 #[.pointer g,i] w λe w'=>e= .returned (.bool (dA s i))/\w=w':=by
 have H:=aP (λW j=>kZ s g i W j);cases c:zQ s i
 .rw[c] at H;have d:aH (dA s i=false):=by unfold aH dA;rw[c];rfl
  go_enter func14,ntmps14
  go_wp2_with fail
  refine(H.o _ h).mono ?_;rintro e l ⟨rfl,rfl⟩;go_wp2_with fail
  go_ret
  exact⟨jL d.o.symm,rfl⟩
 .rw[c] at H;obtain⟨k,rfl,hk⟩:=ZN c;have m:=h.n0;have a:k<32:=aQ;have c1:=h.ct a;have f:k<s.T.length:=by rw[h.t];exact a
  have d:aH (dA s k=s.T[k]):=by unfold aH dA;rw[c,abZ,abO f];rfl
  have n:(0:Int)<=k:=aQ;have p:(k:Int)<32:=aQ;generalize s.T[k]=b at *;go_enter func14,ntmps14
  go_wp2_with fail
  refine(H.o _ h).mono ?_;rintro e l ⟨rfl,rfl⟩;go_wp2_with fail
  go_ret
  exact⟨jL d.o.symm,rfl⟩
end Fr
end
namespace Fr
def fO(s:dK)(i a:Int):Int:=if dA s i=false then 6 else if a<0\/15<a then 1 else 0
theorem JZ(s:dK)(g:Nat)(i a:Int)(w:aA)(h:Fm w g s):aG prog 243 #[.pointer g,i,a] w λe w'=>e= .returned (.int .i64 (fO s i a))/\w=w':=by
 have H:=aP (BJ s g i w h);unfold fO;cases c:dA s i
 .rw[c] at H;simp only[ac2];go_enter func243,ntmps243
  go_wp2_with fail
  refine H.o.mono ?_;rintro e b ⟨rfl,rfl⟩;go_wp2_with fail
  go_ret
  exact⟨rfl,rfl⟩
 .rw[c] at H;simp only[ae1,acI];by_cases d:a<0
  .rw[abS (.inl d)];go_enter func243,ntmps243
   go_wp2_with fail
   refine H.o.mono ?_;rintro e b ⟨rfl,rfl⟩;go_wp2_with fail
   go_ret
   exact⟨rfl,rfl⟩
  .by_cases h1:15<a
   .rw[abS (.inr h1)];have f:(16:Int)<=a:=aQ;go_enter func243,ntmps243
    go_wp2_with fail
    refine H.o.mono ?_;rintro e b ⟨rfl,rfl⟩;go_wp2_with fail
    go_ret
    exact⟨rfl,rfl⟩
   .rw[abT aQ];have f:¬(16:Int)<=a:=aQ;go_enter func243,ntmps243
    go_wp2_with fail
    refine H.o.mono ?_;rintro e b ⟨rfl,rfl⟩;go_wp2_with fail
    go_ret
    exact⟨rfl,rfl⟩
theorem SL{s:dK}{i:Int}(h:dA s i=true):∃k:Nat,i=k/\k<s.n:=by
 unfold dA at h;rw[acM] at h;exact ZN h.1
theorem NB{s:dK}{i a:Int}(h:fO s i a=0):∃k m:Nat,i=k/\a=m/\k<s.n/\m<16:=by
 unfold fO at h;cases b:dA s i
 .rw[b] at h;simp at h
 .rw[b] at h;simp only[ae1,acI] at h;split at h
  .omega
  .obtain⟨k,rfl,hk⟩:=SL b;obtain⟨m,rfl⟩:=abW (show 0<=a by omega);exact⟨k,m,rfl,rfl,hk,aQ⟩
def rU(s:dK)(i a:Int):Int:=if fO s i a=0 then(s.B[i.toNat *16+a.toNat]?).getD 0 else 0
theorem AD(s:dK)(g:Nat)(i a:Int)(w:aA)(h:Fm w g s):aG prog 208 #[.pointer g,i,a] w λe w'=>e= .returned (.tuple #[.int .u8 (rU s i a), .int .i64 (fO s i a)])/\w=w':=by
 have H:=aP (JZ s g i a w h);by_cases he:fO s i a=0
 .obtain⟨k,m,rfl,rfl,hk,hm⟩:=NB he;have l:=h.n0;have d:=h.cb (m:=k *16+m) aQ;have hl:k *16+m<s.B.length:=by rw[h.b];omega
  have c:aH (rU s k m=s.B[k *16+m]):=by unfold aH rU;rw[abS he,abZ,abZ,abO hl];rfl
  rw[he] at H;rw[he];rw[<-acY] at d;have n:(0:Int)<=k:=aQ;have p:(k:Int)<32:=aQ;have m0:(0:Int)<=m:=aQ;have m1:(m:Int)<16:=aQ;clear he;generalize s.B[k *16+m]=v at *;go_enter func208,ntmps208
  go_wp2_with fail
  refine H.o.mono ?_;rintro e f ⟨rfl,rfl⟩;go_wp2_with fail
  go_ret2
  exact⟨R8 c.o.symm,rfl⟩
 .have c:aH (rU s i a=0):=by unfold aH rU;rw[abT he]
  have j:(fO s i a !=0)=true:=by simp[he]
  clear he;generalize fO s i a=v at *;go_enter func208,ntmps208
  go_wp2_with fail
  refine H.o.mono ?_;rintro e f ⟨rfl,rfl⟩;go_wp2_with fail
  go_ret2
  exact⟨R8 c.o.symm,rfl⟩
def iV(s:dK)(i a:Int)(v:Int):dK:=if fO s i a=0 then {s with B:=s.B.set (i.toNat *16+a.toNat) v} else s
def WL(s:dK)(g:Nat)(v:aC)(w:aA)(e:aM)(w':aA):Prop:=e= .returned v/\Fm w' g s/\w.grownBy w' (some g)
theorem xQ(s:dK)(g:Nat)(i a v:Int)(w:aA)(h:Fm w g s):aG prog 209 #[.pointer g,i,a, .int .u8 v] w (WL (iV s i a v) g (.int .i64 (fO s i a)) w):=by
 have H:=aP (JZ s g i a w h);unfold iV;by_cases he:fO s i a=0
 .rw[abS he];obtain⟨k,m,rfl,rfl,hk,hm⟩:=NB he;have l:=h.n0;obtain⟨v0,d⟩:∃v0,w.cell? (g,33+(k *16+m))=some (.int .u8 v0):=⟨_,h.cb (m:=k *16+m) aQ⟩
  have hf:=h.at_.frozen (33+(k *16+m));have b:=aP (h.Uz (k *16+m) v);have c:=aP (bC (bL w g) (33+(k *16+m)) (.int .u8 v));simp only[abZ];rw[he] at H;rw[he];rw[<-acY] at d hf b c;have n:(0:Int)<=k:=aQ;have p:(k:Int)<32:=aQ;have m0:(0:Int)<=m:=aQ;have m1:(m:Int)<16:=aQ;clear he h;go_enter func209,ntmps209
  go_wp2_with fail
  refine H.o.mono ?_;rintro e f ⟨rfl,rfl⟩;go_wp2_with fail
  go_ret
  exact⟨rfl,b.o,c.o⟩
 .rw[abT he];have j:(fO s i a !=0)=true:=by simp[he]
  clear he;generalize fO s i a=e0 at *;go_enter func209,ntmps209
  go_wp2_with fail
  refine H.o.mono ?_;rintro e f ⟨rfl,rfl⟩;go_wp2_with fail
  go_ret
  exact⟨rfl,h,bL w g⟩
def uP(s:dK)(i:Int):dK:=if dA s i then {s with T:=s.T.set i.toNat false} else s
theorem Im(s:dK)(g:Nat)(i:Int)(w:aA)(h:Fm w g s):aG prog 199 #[.pointer g,i] w (WL (uP s i) g (.int .i64 (if dA s i then 0 else 6)) w):=by
 have H:=aP (BJ s g i w h);unfold uP;have b:=aP h;cases a:dA s i
 .rw[a] at H;simp only[acJ,acI];clear h;go_enter func199,ntmps199
  go_wp2_with fail
  refine H.o.mono ?_;rintro e c ⟨rfl,rfl⟩;go_wp2_with fail
  go_ret
  exact⟨rfl,b.o,bL w g⟩
 .rw[a] at H;simp only[ac2];obtain⟨k,rfl,hk⟩:=SL a;have j:=h.n0;obtain⟨v0,l⟩:∃v0,w.cell? (g,1+k)=some (.bool v0):=⟨_,h.ct (i:=k) aQ⟩
  have hf:=h.at_.frozen (1+k);have d:=aP (h.Vi (i:=k) aQ false);have f:=aP (bC (bL w g) (1+k) (.bool false));have m:(0:Int)<=k:=aQ;have n:(k:Int)<32:=aQ;simp only[abZ];clear h a;go_enter func199,ntmps199
  go_wp2_with fail
  refine H.o.mono ?_;rintro e c ⟨rfl,rfl⟩;go_wp2_with fail
  go_ret
  exact⟨rfl,d.o,f.o⟩
end Fr
end
section
open Go.RowKit Go.Lib
variable{w:aA}{g:Nat}{P:aO}
section
theorem iX(g:Nat)(t:aN):∀(a:List aC) (o:Nat) (w:aA) (cur:Array aC),w.heap[g]?=some (.cells cur t (0,0))->(w.setCells g o a).heap[g]?=some (.cells (lay cur o a) t (0,0))
 | [],_,_,_,h=>h
 |v::r,o,w,cur,h=>by
  rw[World.setCells,lay];exact iX g t r (o+1) _ _ (by simp[World.setCell,ae4,h])
theorem fN(g:Nat):∀(b:List aC) (o:Nat) (a w:aA),a.grownBy w (some g)->a.grownBy (w.setCells g o b) (some g)
 | [],_,_,_,h=>h
 |v::r,o,a,w,h=>fN g r (o+1) a _ (bC h o v)
section
variable{α:Type}{enc:α->List aC}{sz:Nat}
theorem N2(he:∀x,(enc x).length=sz)(xs:List α)(i:Nat):(xs.take i).flatMap enc=(xs.flatMap enc).take (i *sz):=by
 induction xs generalizing i with
 |nil=>simp
 |cons x xs a=>
  cases i with
  |zero=>simp
  |succ i=>
   rw[aeZ,acK,acK,List.take_append,a,he,show(i+1) *sz - sz=i *sz by rw[adW];omega,acC (l:=enc x) (by rw[he,adW];omega)]
theorem oR(he:∀x,(enc x).length=sz)(xs:List α)(i:Nat):(xs.drop i).flatMap enc=(xs.flatMap enc).drop (i *sz):=by
 induction xs generalizing i with
 |nil=>simp
 |cons x xs a=>
  cases i with
  |zero=>simp
  |succ i=>
   rw[ae0,acK,List.drop_append,a,he,show(i+1) *sz - sz=i *sz by rw[adW];omega,show(enc x).drop ((i+1) *sz)= [] from afW (by rw[he,adW];omega),aeP]
theorem Gg(cur:Array aC)(F zs:List aC)(i k sz c:Nat)(hF:F.length=(i+1+k) *sz)(hc:i+1+k<=c)(hs:cur.size=c *sz)(a:cur.toList.take ((i+1+k) *sz)=F)(b:zs.length=sz):
 (lay (lay cur (i *sz) (F.drop ((i+1) *sz))) ((i+k) *sz) zs).toList.take ((i+k) *sz)=F.take (i *sz)++F.drop ((i+1) *sz):=by
 have e:(i+1+k) *sz=i *sz+sz+k *sz:=by rw[adW,adW,ae7]
 have f:(i+k) *sz=i *sz+k *sz:=adW _ _ _;have g:(i+1) *sz=i *sz+sz:=by rw[adW,ae7]
 have h:(i+1+k) *sz<=c *sz:=adH _ hc;have hd:(F.drop ((i+1) *sz)).length=k *sz:=by rw[ad7,hF];omega
 apply aeW;intro j;rw[acN];by_cases h1:j<(i+k) *sz
 .rw[abS h1,acH,lay_get? _ _ _ _ (by rw[lay_size,b];omega),abT aQ,lay_get? _ _ _ _ (by rw[hd];omega),hd];by_cases d:j<i *sz
  .rw[abT aQ,acG (by rw[ac9,hF];omega),acN,abS d,<-a,acN,abS aQ,acH]
  .rw[abS aQ,ab2 (by rw[ac9,hF];omega),ac9,hF,Nat.min_eq_left aQ]
 .rw[abT h1,adC];rw[ab6,ac9,hd,hF];omega
theorem eY{base:Nat}{e:aN}{c:Nat}{xs:List α}(h:bH enc sz w base e g c xs):
 ∃cur,base<=g/\w.heap[g]?=some (.cells cur e (0,0))/\xs.length<=c/\c<=maxLen/\cur.size=c *sz/\cur.toList.take (xs.length *sz)=xs.flatMap enc:=by
 rcases h.2 with⟨a,_⟩|⟨i,b,cur,a,d,a2,a3,a4,a5,f⟩
 .simp at a
 .simp only[Value.slice.injEq,Option.some.injEq,Addr.mk.injEq,and_true,adG] at a;obtain⟨rfl,rfl⟩:=a;exact⟨cur,d,a2,a3,a4,a5,f⟩
theorem dD{base:Nat}{e:aN}{c:Nat}{xs:List α}(h:bH enc sz w base e g c xs)(j:Nat)(b:j<c *sz):(w.cell? (g,j)).isSome=true/\w.frozen? (g,j)=false:=by
 obtain⟨cur,_,a,_,_,d,_⟩:=eY h;refine⟨?_,by simp[World.frozen?,a]⟩;rw[cell_of_row w g j cur e (0,0) a,acV aQ];rfl
theorem tS{base:Nat}{e:aN}{c:Nat}{xs:List α}(he:∀x,(enc x).length=sz)(h:bH enc sz w base e g c xs)(i k:Nat)(b:xs.length=i+1+k)(zs:List aC)(d:zs.length=sz):
 bH enc sz ((w.setCells g (i *sz) ((xs.drop (i+1)).flatMap enc)).setCells g ((i+k) *sz) zs) base e g c (xs.eraseIdx i)/\w.grownBy ((w.setCells g (i *sz) ((xs.drop (i+1)).flatMap enc)).setCells g ((i+k) *sz) zs) (some g):=by
 obtain⟨cur,f,a2,a3,a4,a5,j⟩:=eY h;refine⟨?_,fN g _ _ _ _ (fN g _ _ _ _ (bL w g))⟩;have hl:(xs.eraseIdx i).length=i+k:=by rw[adN,abS aQ];omega
 have a:=fF he xs;refine⟨fF he _, .inr ⟨g,c,_,rfl,f,iX g e _ _ _ _ (iX g e _ _ _ _ a2),aQ,a4,by rw[lay_size,lay_size,a5],?_⟩⟩;rw[hl,List.eraseIdx_eq_take_drop_succ,aeY,N2 he,oR he];exact Gg cur _ zs i k sz c (by rw[a,b]) aQ a5 (by rw[<-b];exact j) d
end
theorem lE(w:aA)(t e ty:aN)(z:aC)(f:P.underlying t=some (.slice e))(g:∀w,(zeroValue e).run P w= .ok z w)(zs:List aC)(h:(Builtin.zeroCells z.cells 1).toList=zs)(h1:∀u∈zs,u.oneCell'=true)(b o n c:Nat)(i:n=1)
 (hc:∀j,j<zs.length->(w.cell? ⟨b,o+j,none⟩).isSome=true/\w.frozen? ⟨b,o+j,none⟩=false):
 (Builtin.clear_ #[t] ty #[.slice (some ⟨b,o,none⟩) n c]).run P w= .ok (.tuple #[]) (w.setCells b o zs):=by
 subst i;have a:=run_storeCells_cells (P:=P) b o zs 0 w (λj d=>(hc j d).1) (λj d=>(hc j d).2) h1;simp only[acD] at a;simp[Builtin.clear_,run_underlying f,g,h,a]
end
variable{n i:Nat}{Q:Exit->Act->aA->Prop}{cs:Array aC}
section
theorem Np(cur:Array aC)(L:List aC)(h:cur.size=L.length):lay cur 0 L=L.toArray:=by
 apply afC;intro j;rw[lay_get? _ _ _ _ aQ];by_cases a:j<L.length
 .rw[abS aQ,Nat.sub_zero,ab4]
 .rw[abT aQ,aeM aQ,ab4,adC aQ]
section
variable{w:aA}{g:Nat}{t:aN}{cur:Array aC}
theorem bF.fill(h:bF w g t cur)(L:List aC)(hl:cur.size=L.length):bF (w.setCells g 0 L) g t L.toArray:=by
 have:=iX g t L 0 w cur h;rw[Np cur L hl] at this;exact this
theorem bF.there(h:bF w g t cur)(a:n<=cur.size):w.there g 0 n:=λj b=>by
 rw[acT];refine⟨?_,h.frozen j⟩;rw[h.cell j _ (acV aQ)];rfl
theorem bF.range{L:List aC}(h:bF w g t L.toArray):w.rangeAt g 0 L:=λj v a=>by
 rw[acT];exact h.cell j v (by rw[ab4];exact a)
end
theorem size_setCells(g:Nat):∀(a:List aC) (o:Nat) (w:aA),(w.setCells g o a).heap.size=w.heap.size
 | [],_,_=>rfl
 |v::r,o,w=>by rw[World.setCells,size_setCells g r (o+1)];simp[World.setCell]
theorem GZ(w:aA)(g i:Nat)(ty:aN)(v:aC)(hi:(P.info? ty).map (·.size)=some 1)(h1:v.oneCell'=true)(hc:w.there g i 1):(storeVar ty ⟨g,i,none⟩ v).run P w= .ok () (w.setCell (g,i) v):=by
 have:=run_storeCells_cells (P:=P) g i [v] 0 w (λj a=>by simpa using (hc j (by simpa using a)).1) (λj a=>by simpa using (hc j (by simpa using a)).2) (λx c=>by simp at c;subst c;exact h1);have b:v.cells=#[v]:=by cases v <;> first|rfl|cases h1
 cases hq:P.info? ty with
 |none=>simp[hq] at hi
 |some u=>
  have hs:u.size=1:=by simpa[hq] using hi
  simp only[acD] at this;simp[storeVar,sizeOf,typeInfo,hq,b,hs,this];rfl
theorem dY{ops:Array aK}{rest:List aK}{op:aK}{a:Act}(w:aA)(b:op.guard=none)(ty:aN)(x y:Operand)(ho:op.op= .store ty x y)(g i:Nat)(v:aC)
 (c:a.eval x= .pointer (some ⟨g,i,none⟩)) (d:a.eval y=v) (hi:(P.info? ty).map (·.size)=some 1) (h1:v.oneCell'=true) (hc:w.there g i 1)
 (h:wpList P ops Q rest (a.put op.dst undef) (w.setCell (g,i) v)):wpList P ops Q (op::rest) a w:=
 wpList_plain b λ_ hK=>by
  unfold Oper.wp execOp;simp only[ho,c,d,Instr.storeAt,Instr.sureAddr,Sem.run_bind,Sem.run_pure,Result.andThen_ok,GZ w g i ty v hi h1 hc];exact hK _ _ h
theorem bF.one{t:aN}(h:bF w g t cs)(hi:i<cs.size):w.there g i 1:=λj a=>by
 obtain rfl:j=0:=aQ;rw[acD];refine⟨?_,h.frozen i⟩;rw[h.cell i _ (acV hi)];rfl
end
end
section
open Go.RowKit
variable{W w:aA}{v:aC}{P:aO}{f:FuncId}{id:Nat}{Q:Exit->Act->aA->Prop}
section
structure cC(W:aA) where
 w:aA
 ok:aD W W w
instance Vy (W:aA):Nonempty (cC W):=⟨⟨W,Below.refl _ _⟩⟩
theorem cC.cell{p:aJ}(c:W.cell? p=some v):∀n:cC W,n.w.cell? p=some v:=λn=>bK n.ok c
theorem cC.below(h:∃n:cC W,w=n.w):aD W W w:=by
 obtain⟨n,rfl⟩:=h;exact n.ok
theorem iM{args:Array aC}{n:cC W}(h:aG P f args n.w λe w'=>e= .returned v/\aD n.w.heap.size n.w w'):
 aG P f args n.w λe a=>e= .returned v/\∃m:cC W,a=m.w:=
 h.mono λ_ w' ⟨he,hb⟩=>⟨he,⟨w',fI n.ok (abQ _) hb⟩,rfl⟩
theorem pN{args:Array aC}{n:cC W}(h:aG P f args n.w λe w'=>e= .returned v/\n.w=w'):
 aG P f args n.w λe a=>e= .returned v/\∃m:cC W,a=m.w:=
 h.mono λ_ _ ⟨he,hb⟩=>⟨he,n,hb.symm⟩
theorem dH{a:Act}{l:List aK}(hm:P.follows .mixedOrders=true)(b:Region.lexB .any l.toArray=true)
 (h:wpQuiet P l.toArray (λw'=>∃n:cC W,w'=n.w) (λa'=>∀w',(∃n:cC W,w'=n.w)->Q .normal a' w') l a):(Code.region id l.toArray true).wp P Q a W:=
 wp_region_quiet (C:=λw'=>∃n:cC W,w'=n.w) hm b ⟨⟨_,(Below.refl _ _).drew⟩,rfl⟩ (by simpa using h)
end
structure Mk where
 t:aN
 val:Nat->aC
 c0:Array aC
 c1:Array aC
inductive Kd where
 |q
 |m (d:Nat)
 |s (d:Nat)
def kd(made:List Nat)(o:aK):Kd:=
 match o.op with
 | .alloc _=>match o.dst with
  |some d=>if made.contains d then .m d else .q
  |none=> .q
 | .store _ (.tmp d) _=>if made.contains d then .s d else .q
 |_=> .q
def nF(o:aK):Bool:=match o.op with
 | .call _=>true
 |_=>false
def plain(o:aK):Bool:=match o.op with
 | .move _| .assign _| .pick _ _ _| .build _ _| .load _ _| .binOp _ _ _ _ _| .unOp _ _ _| .convert _ _ _| .slice _ _ _ _ _| .fieldAddr _ _ _| .field _ _ _| .indexAddr _ _ _| .index _ _ _| .extract _ _| .nilCheck _=>true
 |_=>false
section
variable{P:aO}{W:aA}
def fR(a:Act)(l:List aK)(vals:Nat->aC):Nat->Act
 |0=>a
 |j+1=>match l[j]? with
  |some o=>(fR a l vals j).put o.dst (vals j)
  |none=>fR a l vals j
theorem zW(a:Act)(o:aK)(l:List aK)(vals:Nat->aC):∀j,fR a (o::l) vals (j+1)=fR (a.put o.dst (vals 0)) l (λi=>vals (i+1)) j
 |0=>rfl
 |j+1=>by
  rw[fR];have:(o::l)[j+1]?=l[j]?:=rfl;rw[this,zW a o l vals j];rfl
theorem XR{a b:Act}{k:Nat}(h:a.tmps[k]?=b.tmps[k]?):a.eval (.tmp k)=b.eval (.tmp k):=by
 simp[Act.eval,afG,h]
theorem DB{a b:Act}{ops:Array aK}(o:aK)(hs:∀cs b,o.op≠ .select cs b)(h:∀k∈o.looksAt ops,a.tmps[k]?=b.tmps[k]?):execOp a.eval o=execOp b.eval o:=by
 refine execOp_congr o hs λx c=>?_
 cases x with
 |tmp k=>exact XR (h k (by unfold Oper.looksAt;exact aeU _ (ad9.2 ⟨.tmp k,by simpa using c,rfl⟩)))
 |_=>rfl
theorem kY(a:Act)(dst:Option Nat)(v:aC)(k:Nat)(h:dst≠some k):(a.put dst v).tmps[k]?=a.tmps[k]?:=by
 cases dst with
 |none=>rfl
 |some d=>
  have:d≠k:=λe=>h (by rw[e])
  simp[Act.put,Array.getElem?_setIfInBounds_ne this]
theorem tK(a:Act)(dst:Option Nat)(v:aC):(a.put dst v).tmps.size=a.tmps.size:=by cases dst <;> simp[Act.put]
theorem tM(a:Act)(dst:Option Nat)(v:aC):(a.put dst v).defers=a.defers:=by cases dst <;> rfl
theorem CQ(a:Act)(k:Nat)(v:aC)(h:k<a.tmps.size):(a.put (some k) v).tmps[k]?=some v:=by simp[Act.put,h]
theorem lF(a:Act)(l:List aK)(vals:Nat->aC):∀n,(fR a l vals n).tmps.size=a.tmps.size/\(fR a l vals n).defers=a.defers
 |0=>⟨rfl,rfl⟩
 |n+1=>by
  unfold fR;split
  .exact⟨by rw[tK];exact(lF a l vals n).1,by rw[tM];exact(lF a l vals n).2⟩
  .exact lF a l vals n
theorem tX(a:Act)(l:List aK)(vals:Nat->aC)(k:Nat):∀n,(∀j o,j<n->l[j]?=some o->o.dst≠some k)->(fR a l vals n).tmps[k]?=a.tmps[k]?
 |0,_=>rfl
 |n+1,h=>by
  unfold fR;split
  .rename_i o ho;rw[kY _ _ _ _ (h n o aQ ho)];exact tX a l vals k n λj c d b=>h j c aQ b
  .exact tX a l vals k n λj c d b=>h j c aQ b
theorem yL(a:Act)(l:List aK)(vals:Nat->aC)(k i:Nat)(c:aK)(hi:l[i]?=some c)(hd:c.dst=some k)(hk:k<a.tmps.size)
 (b:∀j o,l[j]?=some o->j≠i->o.dst≠some k):∀n,i<n->(fR a l vals n).tmps[k]?=some (vals i)
 |0,h=>by omega
 |n+1,h=>by
  unfold fR;by_cases d:n=i
  .subst d;simp only[hi,hd];exact CQ _ _ _ (by rw[(lF a l vals n).1];exact hk)
  .split
   .rename_i o ho;rw[kY _ _ _ _ (b n o ho d)];exact yL a l vals k i c hi hd hk b n aQ
   .exact yL a l vals k i c hi hd hk b n aQ
end
variable{i:Nat}{ba:Array Bool}
section
def fV(ops:Array aK)(j:Nat):Option Nat:=(ops[j]?).bind (·.dst)
def sOf(made:List Nat)(ops:Array aK)(i:Nat):Option Nat:=match ops[i]? with
 |some o=>match kd made o with
  | .s d=>some d
  |_=>none
 |none=>none
def PJ(ops:Array aK)(i:Nat):Bool:=match ops[i]? with
 |some o=>(o.looksAt ops).all λk=>(List.range ops.size).all λj=>fV ops j !=some k || (decide (j<i)&&Region.waitsFor .any ops i j) || (decide (i<j)&&Region.waitsFor .any ops j i)
 |none=>true
def PG(ops:Array aK)(i:Nat):Bool:=match ops[i]? with
 |some o=>o.after.all λe=>!Region.binds .any e || decide (e.on<i)
 |none=>true
structure aa0(made:List Nat)(N:Nat)(ops:Array aK):Prop where
 UA:∀(j:Nat) (o:aK) cs b,ops[j]?=some o->o.op≠ .select cs b
 p7:∀(i j:Nat) (oi oj:aK) (k:Nat),ops[i]?=some oi->ops[j]?=some oj->oi.dst=some k->oj.dst=some k->i=j
 back:∀(i:Nat) (o:aK),ops[i]?=some o->∀e∈o.after,Region.binds .any e=true->e.on<i
 look:∀(i j:Nat) (oi oj:aK) (k:Nat),ops[i]?=some oi->ops[j]?=some oj->k∈oi.looksAt ops->oj.dst=some k->(j<i/\Region.waitsFor .any ops i j=true)\/(i<j/\Region.waitsFor .any ops j i=true)
 kq:∀(i:Nat) (o:aK),ops[i]?=some o->kd made o= .q->(∀k∈o.looksAt ops,k∉made)/\(∀d,o.dst=some d->d∉made)/\(plain o=true\/nF o=true)
 km:∀(i:Nat) (o:aK) (d:Nat),ops[i]?=some o->kd made o= .m d->o.dst=some d/\d∈made/\o.guard=none/\(∀k∈o.looksAt ops,k∉made)
 ks:∀(i:Nat) (o:aK) (d:Nat),ops[i]?=some o->kd made o= .s d->d∈made/\d∈o.looksAt ops/\o.guard=none/\o.dst=none/\(∀k∈o.looksAt ops,k=d\/k∉made)/\∃(j:Nat) (oj:aK),ops[j]?=some oj/\kd made oj= .m d/\Region.waitsFor .any ops i j=true
 Rb:∀(i j:Nat) (oi oj:aK) (d:Nat),ops[i]?=some oi->ops[j]?=some oj->kd made oi= .s d->kd made oj= .s d->i=j
 abG:∀d∈made,∃(j:Nat) (oj:aK),ops[j]?=some oj/\kd made oj= .m d
 abH:∀d∈made,∃(j:Nat) (oj:aK),ops[j]?=some oj/\kd made oj= .s d
 size:∀(j:Nat) (o:aK) (s:Nat),ops[j]?=some o->o.dst=some s->s<N
 GJ:∀d∈made,d<N
theorem dF{ops:Array aK}{o:aK}(h:ops[i]?=some o):i<ops.size:=(afH.1 h).1
def rH(listed:Array Bool):Nat:=(listed.toList.filter (! ·)).length
theorem PU(h:rH ba=0)(i:Nat)(hi:i<ba.size):ba.getD i false=true:=by
 unfold rH at h;have:=acQ h;rw[afX] at this;have h1:=this ba[i] (by simp[Array.getElem_mem_toList]);simp[hi];simpa using h1
theorem US:∀(l:List Bool) (i:Nat),l[i]?=some false->((l.set i true).filter (! ·)).length+1=(l.filter (! ·)).length
 | [],i,h=>by simp at h
 |b::l,0,h=>by simp at h;subst h;simp
 |b::l,i+1,h=>by
  have:=US l i (by simpa using h);cases b <;> simp <;> omega
theorem QD(h:ba.getD i true=false):rH (ba.setIfInBounds i true)+1=rH ba:=by
 unfold rH;rw[Array.toList_setIfInBounds];refine US _ _ ?_;rcases aeH i ba.size with a|a
 .simp[a] at h⊢;exact h
 .simp[aeM a] at h
end
variable{md:Region.Mode}{j:Nat}
section
variable{P:aO}{W:aA}{made:List Nat}{D:Nat->Mk}{ops:Array aK}{l:List aK}{a0:Act}{vals:Nat->aC}{N:Nat}
def rv(made:List Nat)(D:Nat->Mk)(vals:Nat->aC)(γ:Nat->Nat)(j:Nat)(o:aK):aC:=match kd made o with
 | .m d=>(D d).val (γ d)
 |_=>vals j
def mL(made:List Nat)(ops:Array aK)(listed:Array Bool)(d:Nat):Prop:=∃(j:Nat) (o:aK),ops[j]?=some o/\kd made o= .m d/\listed.getD j false=true
structure abF(W:aA)(made:List Nat)(D:Nat->Mk)(ops:Array aK)(a0:Act)(vals:Nat->aC)(listed:Array Bool)(a:Act)(w:aA)(γ:Nat->Nat)(σ:Nat->Bool):Prop where
 size:listed.size=ops.size
 closed:∀(j:Nat) (oj:aK),ops[j]?=some oj->listed.getD j false=true->∀e∈oj.after,Region.binds .any e=true->listed.getD e.on false=true
 yI:a.tmps.size=a0.tmps.size
 defs:a.defers=a0.defers
 new:∀(j:Nat) (o:aK) (s:Nat),ops[j]?=some o->o.dst=some s->listed.getD j false=true->a.tmps[s]?=some (rv made D vals γ j o)
 vM:∀s:Nat,(∀(j:Nat) (o:aK),ops[j]?=some o->listed.getD j false=true->o.dst≠some s)->a.tmps[s]?=a0.tmps[s]?
 below:aD W W w
 mem:∀d∈made,mL made ops listed d->W.heap.size<=γ d/\bF w (γ d) (D d).t (if σ d then(D d).c1 else(D d).c0)
 inj:∀d∈made,∀d'∈made,mL made ops listed d->mL made ops listed d'->γ d=γ d'->d=d'
 sig:∀d,σ d=true->∃(j:Nat) (o:aK),ops[j]?=some o/\kd made o= .s d/\listed.getD j false=true
 abI:∀(d j:Nat) (o:aK),ops[j]?=some o->kd made o= .s d->listed.getD j false=true->σ d=true
theorem xM{o:aK}(hi:ops[i]?=some o)(h:Region.waitsFor md ops i j=true):∃e∈o.after,Region.binds md e=true/\e.on=j:=by
 obtain⟨a,ho,he⟩:=Region.waitsFor_spec h;rw[hi] at ho;injection ho with ho;subst ho;exact he
theorem qE{o:aK}(h:plain o=true)(ρ:Operand->aC)(w w':aA)(f:FuncId)(args:Array aC):(execOp ρ o).run P w≠ .ok (.enter f args) w':=by
 have key:∀s:Sem aC,(do let x<-s;pure (Next.value x):Sem Next).run P w≠ .ok (.enter f args) w':=by
  intro s he;simp only[Sem.run_bind] at he;cases hs:s.run P w <;> simp[hs,Sem.run_pure] at he
 obtain⟨dst,op,ty,pos,after,guard⟩:=o;cases op <;> simp only[plain] at h <;> (try cases h) <;> simp only[execOp]
 case nilCheck x=>
  have d:∀{α:Type} (s:Sem α) (k:α->Sem Next),(∀a w,(k a).run P w≠ .ok (.enter f args) w')->∀w,(s >>= k).run P w≠ .ok (.enter f args) w':=by
   intro α s k hk w he;simp only[Sem.run_bind] at he;cases hs:s.run P w with
   |ok a i=>rw[hs] at he;exact hk a i he
   |halt x i=>rw[hs] at he;cases he
  have e:∀v w,(pure (Next.value v):Sem Next).run P w≠ .ok (.enter f args) w':=λv w he=>by simp[Sem.run_pure] at he
  have g:∀{α:Type} (s:Sem α) (v:aC) w,(Functor.map (λ_=>Next.value v) s).run P w≠ .ok (.enter f args) w':=λ{α} s v w he=>by
   have j:=d s (λ_=>pure (Next.value v)) (λ_ w=>e v w) w;rw[map_eq_pure_bind] at he;exact j he
  generalize ρ x=v;split
  all_goals first
   |exact e _ _
   |(intro he;simp[runtimePanic] at he;done)
   |skip
  split
  all_goals first
   |exact e _ _
   |(intro he;simp[runtimePanic] at he;done)
   |skip
  refine d _ _ (λa i=>d _ _ (λb n=>?_) i) w;split
  all_goals first
   |exact e _ _
   |exact d _ _ (λ_ m=>e _ m) _
   |exact g _ _ _
 case pick c x y=>
  intro he;simp only[Sem.run_bind] at he;cases hs:(asBool (ρ c)).run P w <;> simp[hs,Sem.run_pure] at he
 all_goals first|exact key _|(intro he;simp[Sem.run_pure] at he;done)
end
structure Way(R:aA->aA->Prop):Prop where
 refl:∀w,R w w
 trans:∀a b c,R a b->R b c->R a c
 drew:∀w,R w {w with drawn:=w.drawn+1}
structure K7(R:aA->aA->Prop)(W:aA) where
 w:aA
 ok:R W w
def jP(made:List Nat)(o:aK):Option Nat:=match o.dst with
 |some d=>if made.contains d then some d else none
 |none=>none
def gL(made:List Nat)(ops:Array aK)(o:aK):List Nat:=made.filter λk=>(o.looksAt ops).contains k
def cE(γ:Nat->aC):List Nat->Act->Act
 | [],a=>a
 |k::ks,a=>cE γ ks (a.put (some k) (γ k))
variable{ga:Act->Prop}{d:Nat}{γ γ':Nat->aC}{w':aA}
section
variable{P:aO}{R:aA->aA->Prop}{W:aA}{made:List Nat}{S:Nat->aC->aA->Prop}{ops:Array aK}
def J3(P:aO)(R:aA->aA->Prop)(T:aC->aA->Prop)(w:aA):Result Next->Prop
 | .ok (.value v) w'=>R w w'/\T v w'
 | .ok .skip w'=>R w w'/\T undef w'
 | .ok (.enter f args) w'=>R w w'/\aG P f args w' λe w''=>∃v,e= .returned v/\R w' w''/\T v w''
 |_=>False
def uL(P:aO)(R:aA->aA->Prop)(w:aA)(v:aC):Result Next->Prop
 | .ok (.enter f args) w'=>w'=w/\aG P f args w λe w''=>e= .returned v/\R w w''
 | .ok (.value u) w'=>w'=w/\u=v
 |_=>False
def PY(P:aO)(R:aA->aA->Prop)(W:aA)(made:List Nat)(S:Nat->aC->aA->Prop)(ops:Array aK)(o:aK)(a:Act)(v:aC):Prop:=
 match jP made o with
 |some d=>v=undef/\∀(γ:Nat->aC) (w:aA),R W w->(∀k∈gL made ops o,S k (γ k) w)->J3 P R (S d) w ((execOp (cE γ (gL made ops o) a).eval o).run P w)
 |none=>
  if gL made ops o= [] then
   (if nF o then ∀n:K7 R W,uL P R n.w v ((execOp a.eval o).run P n.w) else ∀w,(∃n:K7 R W,w=n.w)->o.quietAt P a (λw=>∃n:K7 R W,w=n.w) w v)
  else ∀(γ:Nat->aC) (w:aA),R W w->(∀k∈gL made ops o,S k (γ k) w)->J3 P R (λu _=>u=v) w ((execOp (cE γ (gL made ops o) a).eval o).run P w)
def Yj(R:aA->aA->Prop)(W:aA)(made:List Nat)(S:Nat->aC->aA->Prop)(o:aK):Prop:=∀d,jP made o=some d->∀w,R W w->S d undef w
def mI(P:aO)(ops:Array aK)(R:aA->aA->Prop)(W:aA)(made:List Nat)(S:Nat->aC->aA->Prop)(Q:Act->Prop):List aK->Act->Prop
 | [],a=>Q a
 |o::rest,a=>
  if Region.wanted o (yielded ops a.tmps)=true then ∃v,PY P R W made S ops o a v/\mI P ops R W made S Q rest (a.put o.dst v)
  else Yj R W made S o/\mI P ops R W made S Q rest (a.put o.dst undef)
def Kk(P:aO)(ops:Array aK)(R:aA->aA->Prop)(W:aA)(made:List Nat)(S:Nat->aC->aA->Prop)(o:aK)(a:Act)(v:aC):Prop:=
 (Region.wanted o (yielded ops a.tmps)=true/\PY P R W made S ops o a v)\/(Region.wanted o (yielded ops a.tmps)=false/\v=undef/\Yj R W made S o)
theorem Bn:∀(l:List aK) (a:Act),mI P ops R W made S ga l a->
 ∃vals:Nat->aC,(∀j o,l[j]?=some o->Kk P ops R W made S o (fR a l vals j) (vals j))/\ga (fR a l vals l.length)
 | [],a,h=>⟨λ_=>undef,λj o b=>by simp at b,h⟩
 |o::l,a,h=>by
  have key:∀v,Kk P ops R W made S o a v->mI P ops R W made S ga l (a.put o.dst v)->∃vals:Nat->aC,(∀j c,(o::l)[j]?=some c->Kk P ops R W made S c (fR a (o::l) vals j) (vals j))/\ga (fR a (o::l) vals (o::l).length):=by
   intro v d e;obtain⟨f,h1,g⟩:=Bn l _ e;refine⟨λi=>match i with|0=>v|i+1=>f i,λj c b=>?_,?_⟩
   .cases j with
    |zero=>
     simp at b;subst b;exact d
    |succ j=>
     rw[zW];exact h1 j c b
   .rw[acR,zW];exact g
  unfold mI at h;by_cases hw:Region.wanted o (yielded ops a.tmps)=true
  .rw[abS hw] at h;obtain⟨v,d,e⟩:=h;exact key v (.inl ⟨hw,d⟩) e
  .rw[abT hw] at h;exact key undef (.inr ⟨by simpa using hw,rfl,h.1⟩) h.2
theorem uM(γ:Nat->aC):∀(b:List Nat) (a:Act),(cE γ b a).tmps.size=a.tmps.size/\(cE γ b a).defers=a.defers
 | [],a=>⟨rfl,rfl⟩
 |d::b,a=>by
  unfold cE;exact⟨by rw[(uM γ b _).1,tK],by rw[(uM γ b _).2,tM]⟩
theorem tN(γ:Nat->aC)(k:Nat):∀(b:List Nat) (a:Act),k∉b->(cE γ b a).tmps[k]?=a.tmps[k]?
 | [],a,_=>rfl
 |d::b,a,h=>by
  unfold cE;rw[tN γ k b _ (λc=>h (by simp[c])),kY _ _ _ _ (λe=>h (by injection e with e;simp[e]))]
theorem AE(γ:Nat->aC)(k:Nat):∀(c:List Nat) (a:Act),k∈c->k<a.tmps.size->(cE γ c a).tmps[k]?=some (γ k)
 |d::c,a,h,hk=>by
  unfold cE;by_cases b:k∈c
  .exact AE γ k c _ b (by rw[tK];exact hk)
  .have:k=d:=by simpa[b] using h
   subst this;rw[tN γ k c _ b,CQ _ _ _ hk]
def WO(made:List Nat)(N:Nat)(ops:Array aK):Bool:=
 Region.noSelect ops&&
 ((List.range ops.size).all λi=>(List.range ops.size).all λj=>i==j || (fV ops i).isNone || fV ops i !=fV ops j)&&
 ((List.range ops.size).all λi=>PG ops i)&&
 ((List.range ops.size).all λi=>PJ ops i)&&
 ((List.range ops.size).all λi=>match ops[i]? with
  |some o=>((o.looksAt ops).all λk=>!made.contains k || (List.range i).any λj=>fV ops j==some k&&Region.waitsFor .any ops i j)&&
   (match o.guard with|some (g,_)=>(match fV ops g with|some k=>!made.contains k|none=>true)|none=>true)&&(plain o || nF o || (jP made o).isSome)
  |none=>true)&&
 (made.all λd=>(List.range ops.size).any λi=>fV ops i==some d)&&
 ((List.range ops.size).all λj=>match fV ops j with|some s=>decide (s<N)|none=>true)&&
 (made.all λd=>decide (d<N))
structure KF(made:List Nat)(N:Nat)(ops:Array aK):Prop where
 UA:∀(j:Nat) (o:aK) cs b,ops[j]?=some o->o.op≠ .select cs b
 p7:∀(i j:Nat) (oi oj:aK) (k:Nat),ops[i]?=some oi->ops[j]?=some oj->oi.dst=some k->oj.dst=some k->i=j
 back:∀(i:Nat) (o:aK),ops[i]?=some o->∀e∈o.after,Region.binds .any e=true->e.on<i
 look:∀(i j:Nat) (oi oj:aK) (k:Nat),ops[i]?=some oi->ops[j]?=some oj->k∈oi.looksAt ops->oj.dst=some k->(j<i/\Region.waitsFor .any ops i j=true)\/(i<j/\Region.waitsFor .any ops j i=true)
 XP:∀(i:Nat) (o:aK) (k:Nat),ops[i]?=some o->k∈o.looksAt ops->k∈made->∃(j:Nat) (oj:aK),ops[j]?=some oj/\oj.dst=some k/\Region.waitsFor .any ops i j=true
 Un:∀(i:Nat) (o:aK) (g:Nat) (b:Bool) (k:Nat),ops[i]?=some o->o.guard=some (g,b)->fV ops g=some k->k∉made
 pl:∀(i:Nat) (o:aK),ops[i]?=some o->plain o=true\/nF o=true\/(jP made o).isSome=true
 has:∀d∈made,∃(j:Nat) (oj:aK),ops[j]?=some oj/\oj.dst=some d
 size:∀(j:Nat) (o:aK) (s:Nat),ops[j]?=some o->o.dst=some s->s<N
 GJ:∀d∈made,d<N
theorem DG{k:Nat}(h:(fV ops i==some k)=true):∃o,ops[i]?=some o/\o.dst=some k:=by
 unfold fV at h;cases ho:ops[i]? with
 |none=>simp[ho] at h
 |some o=>simp[ho] at h;exact⟨o,rfl,h⟩
theorem Cv{N:Nat}(h:WO made N ops=true):KF made N ops:=by
 simp only[WO,acM,adU,ac8] at h;obtain⟨⟨⟨⟨⟨⟨⟨q,h1⟩,h2⟩,h3⟩,h4⟩,h6⟩,h7⟩,h8⟩:=h;refine⟨Region.noSelect_spec q,?_,?_,?_,?_,?_,?_,?_,?_,?_⟩
 .intro i j r f k hi a t m;have:=h1 i (dF hi) j (dF a);simp[fV,hi,a,t,m] at this;exact this
 .intro i o hi e he hb;have:=h2 i (dF hi);unfold PG at this;rw[hi] at this;have:=Array.all_eq_true'.1 this e he;simp[hb] at this;exact this
 .intro i j r f k hi a hk m;have:=h3 i (dF hi);unfold PJ at this;rw[hi] at this;have:=adU.1 (adU.1 this k hk) j (ac8.2 (dF a));simp[fV,a,m] at this;exact this
 .intro i o k hi hk hm;have:=h4 i (dF hi);rw[hi] at this;simp only[acM,adU,afP,aeS] at this;rcases this.1.1 k hk with c|⟨j,a,c,n⟩
  .simp[hm] at c
  .obtain⟨f,p,hd⟩:=DG c;exact⟨j,f,p,hd,n⟩
 .intro i o g b k hi u hd;have:=h4 i (dF hi);rw[hi] at this;simp only[acM,u,hd] at this;simpa using this.1.2
 .intro i o hi;have:=h4 i (dF hi);rw[hi] at this;simp only[acM,afP] at this;rcases this.2 with(c|c)|c
  .exact .inl c
  .exact .inr (.inl c)
  .exact .inr (.inr c)
 .intro d hd;obtain⟨i,_,hi⟩:=by simpa only[aeS] using h6 d hd
  obtain⟨o,ho,hk⟩:=DG hi;exact⟨i,o,ho,hk⟩
 .intro j o s a hd;have:=h7 j (dF a);simp[fV,a,hd] at this;exact this
 .intro d hd;simpa using h8 d hd
theorem UU{o:aK}(h:jP made o=some d):o.dst=some d/\d∈made:=by
 unfold jP at h;split at h
 .rename_i a hd;split at h
  .rename_i hm;injection h with h;subst h;exact⟨hd,by simpa using hm⟩
  .cases h
 .cases h
theorem U8{o:aK}(h:jP made o=none)(hd:o.dst=some d):d∉made:=by
 unfold jP at h;rw[hd] at h;simp only at h;split at h
 .cases h
 .rename_i hm;simpa using hm
theorem PN{o:aK}(hd:o.dst=some d)(hm:d∈made):jP made o=some d:=by
 unfold jP;rw[hd];simp[hm]
variable{l:List aK}{a0:Act}{vals:Nat->aC}{N:Nat}
def wL(ops:Array aK)(listed:Array Bool)(d:Nat):Prop:=∃(j:Nat) (o:aK),ops[j]?=some o/\o.dst=some d/\listed.getD j false=true
structure MG(R:aA->aA->Prop)(W:aA)(made:List Nat)(S:Nat->aC->aA->Prop)(ops:Array aK)(a0:Act)(vals:Nat->aC)(listed:Array Bool)(a:Act)(w:aA)(γ:Nat->aC):Prop where
 size:listed.size=ops.size
 closed:∀(j:Nat) (oj:aK),ops[j]?=some oj->listed.getD j false=true->∀e∈oj.after,Region.binds .any e=true->listed.getD e.on false=true
 yI:a.tmps.size=a0.tmps.size
 defs:a.defers=a0.defers
 new:∀(j:Nat) (o:aK) (s:Nat),ops[j]?=some o->o.dst=some s->listed.getD j false=true->a.tmps[s]?=some (if s∈made then γ s else vals j)
 vM:∀s:Nat,(∀(j:Nat) (o:aK),ops[j]?=some o->listed.getD j false=true->o.dst≠some s)->a.tmps[s]?=a0.tmps[s]?
 rel:R W w
 sp:∀d∈made,wL ops listed d->S d (γ d) w
theorem VE(ok:KF made N l.toArray)(B:a0.tmps.size=N){a:Act}(inv:MG R W made S l.toArray a0 vals ba a w γ)
 {o:aK} (hi:l.toArray[i]?=some o) (u:ba.getD i true=false) (n:∀e∈o.after,Region.binds .any e=true->ba.getD e.on false=true) {k:Nat} (hk:k∈o.looksAt l.toArray) (v:k∉made):
 a.tmps[k]?=(fR a0 l vals i).tmps[k]?:=by
 have g:∀j:Nat,l.toArray[j]?=l[j]?:=λj=>ab4
 by_cases hex:∃(j:Nat) (b:aK),l.toArray[j]?=some b/\b.dst=some k
 .obtain⟨j,b,c,h⟩:=hex;rcases ok.look i j o b k hi c hk h with⟨p,hw⟩|⟨p,hw⟩
  .obtain⟨e,he,hb,m⟩:=xM hi hw;have q:=n e he hb;rw[m] at q;rw[inv.new j b k c h q,abT v,yL a0 l vals k j b (by rw[<-g];exact c) h (by rw[B];exact ok.size j b k c h) (λr s d x f=>x (ok.p7 r j s b k (by rw[g];exact d) c f h)) i p]
  .have y:ba.getD j false=true->False:=λhl=>by
    obtain⟨e,he,hb,m⟩:=xM c hw;have:=inv.closed j b c hl e he hb;rw[m,getD_both u] at this;cases this
   rw[inv.vM k (λr s d z f=>by have:=ok.p7 r j s b k d c f h;subst this;exact y z),
    tX a0 l vals k i (λr s A d f=>by have:=ok.p7 r j s b k (by rw[g];exact d) c f h;omega)]
 .have t:∀(j:Nat) (b:aK),l.toArray[j]?=some b->b.dst≠some k:=λj b c hd=>hex ⟨j,b,c,hd⟩
  rw[inv.vM k (λj b c _=>t j b c),tX a0 l vals k i (λj b _ c=>t j b (by rw[g];exact c))]
theorem DN{o:aK}(hi:ops[i]?=some o)(hd:o.dst≠some d)(h:wL ops (ba.setIfInBounds i true) d):wL ops ba d:=by
 obtain⟨j,e,a,b,hl⟩:=h;refine⟨j,e,a,b,?_⟩;by_cases c:i=j
 .subst c;rw[hi] at a;injection a with a;subst a;exact absurd b hd
 .rw[getD_set_ne false c] at hl;exact hl
theorem XV(ok:KF made N ops)(n:a0.tmps.size=N){a:Act}(inv:MG R W made S ops a0 vals ba a w γ)
 {o:aK} (hi:ops[i]?=some o) (p:ba.getD i true=false) (g:∀e∈o.after,Region.binds .any e=true->ba.getD e.on false=true) (q:∀s,o.dst=some s->v=if s∈made then γ' s else vals i)
 (r:∀d,o.dst≠some d->γ' d=γ d) (t:R W w') (m:∀d∈made,wL ops (ba.setIfInBounds i true) d->S d (γ' d) w'):
 MG R W made S ops a0 vals (ba.setIfInBounds i true) (a.put o.dst v) w' γ':=by
 have jA:i<ba.size:=by rw[inv.size];exact dF hi
 refine⟨by simp[inv.size],λj f b hl e he hb=>?_,by rw[tK];exact inv.yI,by rw[tM];exact inv.defs,λj f s b hd hl=>?_,λs hs=>?_,t,m⟩
 .by_cases c:i=j
  .subst c;rw[hi] at b;injection b with b;subst b;exact getD_set_true (g e he hb)
  .rw[getD_set_ne false c] at hl;exact getD_set_true (inv.closed j f b hl e he hb)
 .by_cases c:i=j
  .subst c;rw[hi] at b;injection b with b;subst b;rw[hd,CQ _ _ _ (by rw[inv.yI,n];exact ok.size i o s hi hd),q s hd]
  .rw[getD_set_ne false c] at hl;have k:o.dst≠some s:=λh=>c (ok.p7 i j o f s hi b h hd)
   rw[kY _ _ _ _ k,inv.new j f s b hd hl,r s k]
 .have h1:o.dst≠some s:=hs i o hi (by simp[jA]);rw[kY _ _ _ _ h1];exact inv.vM s λj f b hl=>hs j f b (getD_set_true hl)
end
variable{w0:aA}
section
section
variable{P:aO}{R:aA->aA->Prop}{W:aA}{made:List Nat}{S:Nat->aC->aA->Prop}{l:List aK}{a0:Act}{vals:Nat->aC}{N:Nat}{Q:Exit->Act->aA->Prop}
theorem Ge(I:Way R)(hS:∀d∈made,∀v w w',S d v w->R w w'->S d v w')(ok:KF made N l.toArray)(Y:a0.tmps.size=N)(Z:∀(j:Nat) (o:aK),l[j]?=some o->Kk P l.toArray R W made S o (fR a0 l vals j) (vals j))
 (hQ:∀(c:Array Bool) (a:Act) (w:aA) (γ:Nat->aC),MG R W made S l.toArray a0 vals c a w γ->(∀i,i<c.size->c.getD i false=true)->Q .normal a w):
 ∀(fuel:Nat) (c:Array Bool) (a:Act) (w:aA) (γ:Nat->aC),MG R W made S l.toArray a0 vals c a w γ->rH c=fuel->wpAny P .any l.toArray Q fuel c a w:=by
 intro fuel;induction fuel with
 |zero=>
  intro c a w γ inv hc;have m:∀i,i<c.size->c.getD i false=true:=λi hi=>PU hc i hi
  refine⟨?_,hQ c a w γ inv m⟩;rw[List.eq_nil_iff_forall_not_mem];intro i hi;obtain⟨h1,o,ho,_⟩:=mem_ready.1 hi;have z:=m i (by rw[inv.size];exact dF ho);rw[getD_both h1] at z;cases z
 |succ fuel ih=>
  intro c a w γ inv hc;constructor
  .intro J;exfalso
   have hex:∃i,i<c.size/\c.getD i false=false:=by
    refine acE λC=>?_
    have m:∀i,i<c.size->c.getD i false=true:=λi hi=>by
     cases h:c.getD i false with
     |true=>rfl
     |false=>exact absurd ⟨i,hi,h⟩ C
    have:rH c=0:=by
     unfold rH;rw[afT,afX];intro b hb;obtain⟨i,hi,he⟩:=af5.1 hb;have h1:=m i (by simpa using hi);have a1:i<c.size:=by simpa using hi
     simp[a1] at h1;simp at he;rw[<-he,h1];simp
    omega
   obtain⟨i0,a6,a7⟩:=hex;have L:∃i,i<c.size/\c.getD i false=false/\∀j,j<i->c.getD j false=true:=by
    induction i0 using Nat.strongRecOn with
    |_ i0 a8=>
     by_cases h:∃j,j<i0/\c.getD j false=false
     .obtain⟨j,K,aa⟩:=h;exact a8 j K aQ aa
     .refine⟨i0,a6,a7,λj K=>?_⟩;cases ab:c.getD j false with
      |true=>rfl
      |false=>exact absurd ⟨j,K,ab⟩ h
   obtain⟨i,hi,hu,ad⟩:=L;have M:i<l.toArray.size:=by rw[<-inv.size];exact hi
   have:i∈Region.ready .any l.toArray c:=mem_ready.2 ⟨getD_in hi hu,l.toArray[i],by simp[acV M],λe he hb=>ad _ (ok.back i _ (acV M) e he hb)⟩;rw[J] at this;cases this
  .intro i hi;obtain⟨D,o,ho,m⟩:=mem_ready.1 hi;have ae:l[i]?=some o:=by rw[<-ab4];exact ho
   have af:rH (c.setIfInBounds i true)=fuel:=by have:=QD D;omega
   have hO:=Z i o ae;have agree:∀k∈o.looksAt l.toArray,k∉made->a.tmps[k]?=(fR a0 l vals i).tmps[k]?:=λk hk p=>VE ok Y inv ho D m hk p
   have O:∀k∈gL made l.toArray o,k∈made/\k∈o.looksAt l.toArray:=λk hk=>by
    have:=adB.1 hk;exact⟨this.1,by simpa using this.2⟩
   have E:∀k∈gL made l.toArray o,a.tmps[k]?=some (γ k)/\S k (γ k) w:=λk hk=>by
    obtain⟨h1,z⟩:=O k hk;obtain⟨j,oj,K,dj,hw⟩:=ok.XP i o k ho z h1;obtain⟨e,he,hb,ag⟩:=xM ho hw;have hl:=m e he hb;rw[ag] at hl;refine⟨?_,inv.sp k h1 ⟨j,oj,K,dj,hl⟩⟩;rw[inv.new j oj k K dj hl,abS h1]
   have ah:∀k∈o.looksAt l.toArray,a.tmps[k]?=(cE γ (gL made l.toArray o) (fR a0 l vals i)).tmps[k]?:=λk hk=>by
    by_cases p:k∈made
    .have U:k∈gL made l.toArray o:=adB.2 ⟨p,by simpa using hk⟩;rw[(E k U).1,AE γ k _ _ U (by rw[(lF a0 l vals i).1,Y];exact ok.GJ k p)]
    .rw[tN γ k _ _ (λh=>p (O k h).1)];exact agree k hk p
   have hx:=DB o (λcs b=>ok.UA i o cs b ho) ah;have hw:Region.wanted o (yielded l.toArray a.tmps)=Region.wanted o (yielded l.toArray (fR a0 l vals i).tmps):=by
    unfold Region.wanted;cases hg:o.guard with
    |none=>rfl
    |some gb=>
     obtain⟨g,bb⟩:=gb;have:yielded l.toArray a.tmps g=yielded l.toArray (fR a0 l vals i).tmps g:=by
      unfold yielded;cases hd:(l.toArray[g]?).bind (·.dst) with
      |none=>rfl
      |some k=>
       have hk:k∈o.looksAt l.toArray:=by
        have V:=hd;simp only[ab4] at V;unfold Oper.looksAt;simp[hg,V]
       simp only[Option.bind_some,agree k hk (ok.Un i o g bb k ho hg hd)]
     simp only[this]
   have next:∀(v:aC) (w':aA),R w w'->(∀s,o.dst=some s->s∈made->S s v w')->(∀s,o.dst=some s->s∉made->v=vals i)->
    wpAny P .any l.toArray Q fuel (c.setIfInBounds i true) (a.put o.dst v) w':=by
    intro v w' J hs hv;refine ih _ _ _ (λd=>if o.dst=some d then v else γ d) (XV ok Y inv ho D m (λs hd=>?_) (λd hd=>by simp[hd]) (I.trans _ _ _ inv.rel J) (λd hd hL=>?_)) af
    .by_cases hm:s∈made
     .simp[hm,hd]
     .rw[abT hm];exact hv s hd hm
    .by_cases hdd:o.dst=some d
     .simp only[hdd,ac2];exact hs d hdd hd
     .simp only[hdd,acI];exact hS d hd _ _ _ (inv.sp d hd (DN ho hdd hL)) J
   have keep:(∀s,o.dst=some s->s∉made)->∀(w':aA),R w w'->wpAny P .any l.toArray Q fuel (c.setIfInBounds i true) (a.put o.dst (vals i)) w':=λh w' J=>
    next (vals i) w' J (λs hd hm=>absurd hm (h s hd)) (λ_ _ _=>rfl)
   unfold wpOp;simp only[ho];rcases hO with⟨F,hq⟩|⟨F,hv,hno⟩
   .rw[abS (hw.trans F)];left
    unfold Oper.wp;rw[hx];unfold PY at hq;have DQ:∀T:aC->aA->Prop,(∀v w',R w w'->T v w'->wpAny P .any l.toArray Q fuel (c.setIfInBounds i true) (a.put o.dst v) w')->
     J3 P R T w ((execOp (cE γ (gL made l.toArray o) (fR a0 l vals i)).eval o).run P w)->
     Oper.upon P o a (wpAny P .any l.toArray Q fuel (c.setIfInBounds i true)) Q ((execOp (cE γ (gL made l.toArray o) (fR a0 l vals i)).eval o).run P w):=by
     intro T hT B;generalize (execOp (cE γ (gL made l.toArray o) (fR a0 l vals i)).eval o).run P w=r at *;cases r with
     |ok n w'=>
      cases n <;> simp only[J3] at B <;> simp only[Oper.upon]
      case value u=>exact hT u w' B.1 B.2
      case skip=>exact hT undef w' B.1 B.2
      case enter f args=>exact B.2.mono λe G ⟨v,he,h1,z⟩=>by subst he;exact hT v G (I.trans _ _ _ B.1 h1) z
     |halt x w'=>simp only[J3] at B
    cases q:jP made o with
    |some d=>
     rw[q] at hq;simp only at hq;obtain⟨hd,hm⟩:=UU q;exact DQ (S d) (λv w' h1 z=>next v w' h1 (λs hs _=>by rw[hd] at hs;injection hs with hs;subst hs;exact z) (λs hs hsm=>by rw[hd] at hs;injection hs with hs;subst hs;exact absurd hm hsm)) (hq.2 γ w inv.rel (λk hk=>(E k hk).2))
    |none=>
     rw[q] at hq;simp only at hq;have t:∀s,o.dst=some s->s∉made:=λs hs=>U8 q hs
     by_cases y:gL made l.toArray o= []
     .rw[abS y] at hq;rw[y];simp only[cE];by_cases hc:nF o=true
      .rw[abS hc] at hq;have A:uL P R w (vals i) ((execOp (fR a0 l vals i).eval o).run P w):=hq ⟨w,inv.rel⟩;generalize (execOp (fR a0 l vals i).eval o).run P w=r at *;cases r with
       |ok n w'=>
        cases n <;> simp only[uL] at A <;> simp only[Oper.upon]
        case value u=>obtain⟨H,X⟩:=A;rw[H,X];exact keep t w (I.refl w)
        case enter f args=>
         obtain⟨H,hc1⟩:=A;rw[H];exact hc1.mono λe G ⟨he,hb⟩=>by subst he;exact keep t G hb
       |halt x w'=>simp only[uL] at A
      .rw[abT hc] at hq;have A:=hq w ⟨⟨w,inv.rel⟩,rfl⟩;have hpl:plain o=true:=(ok.pl i o ho).resolve_right (λh=>h.elim hc (λh=>by rw[q] at h;cases h));unfold Oper.quietAt at A;have C:=λw' f args=>qE (P:=P) hpl (fR a0 l vals i).eval w w' f args
       generalize (execOp (fR a0 l vals i).eval o).run P w=r at *;cases r with
       |ok n w'=>
        cases n <;> simp only[Oper.quietUpon] at A <;> simp only[Oper.upon]
        case value u=>obtain⟨H,X⟩:=A;rw[H,X];exact keep t w (I.refl w)
        case skip=>obtain⟨H,X⟩:=A;rw[H,<-X];exact keep t w (I.refl w)
        case enter f args=>exact absurd rfl (C w' f args)
       |halt x w'=>simp only[Oper.quietUpon] at A
     .rw[abT y] at hq;exact DQ (λu _=>u=vals i) (λv w' h1 z=>by rw[z];exact keep t w' h1) (hq γ w inv.rel (λk hk=>(E k hk).2))
   .rw[abT (by rw[hw,F];simp)];exact next undef w (I.refl w) (λs hd hm=>hno s (PN hd hm) w inv.rel) (λ_ _ _=>hv.symm)
theorem rT{a:Act}(R:aA->aA->Prop)(y:Way R)(made:List Nat)(S:Nat->aC->aA->Prop)(B:∀d∈made,∀v w w',S d v w->R w w'->S d v w')(N:Nat)(hm:P.follows .mixedOrders=true)(C:WO made N l.toArray=true)(q:a.tmps.size=N)
 (h:mI P l.toArray R w0 made S (λD=>∀(γ:Nat->aC) (w:aA),R w0 w->(∀d∈made,S d (γ d) w)->Q .normal (cE γ made D) w) l a):
 (Code.region id l.toArray true).wp P Q a w0:=by
 have ok:=Cv C;obtain⟨vals,r,i⟩:=Bn l a h;refine wp_region_any hm ?_;have E:MG R w0 made S l.toArray a vals (Array.replicate l.toArray.size false) a {w0 with drawn:=w0.drawn+1} (λ_=>undef):=by
  have hf:∀j,(Array.replicate l.toArray.size false).getD j false=true->False:=λj e=>by rw[getD_replicate_false] at e;cases e
  exact⟨aT,λj c _ hl=>(hf j hl).elim,rfl,rfl,λj o s _ _ hl=>(hf j hl).elim,λs _=>rfl,y.drew w0,λd _ ⟨j,o,_,_,hl⟩=>(hf j hl).elim⟩
 refine Ge (vals:=vals) y B ok q r ?_ l.toArray.size _ a _ _ E (by simp[rH]);intro g a' w γ inv hall;have all:∀(j:Nat) (o:aK),l.toArray[j]?=some o->g.getD j false=true:=λj o e=>hall j (by rw[inv.size];exact dF e)
 have t:a'=cE γ made (fR a l vals l.length):=by
  have z:a'.tmps=(cE γ made (fR a l vals l.length)).tmps:=by
   apply afC;intro k;by_cases f:k∈made
   .rw[AE γ k made _ f (by rw[(lF a l vals _).1,q];exact ok.GJ k f)];obtain⟨j,c,e,hd⟩:=ok.has k f;rw[inv.new j c k e hd (all j c e),abS f]
   .rw[tN γ k made _ f];by_cases hex:∃(j:Nat) (c:aK),l.toArray[j]?=some c/\c.dst=some k
    .obtain⟨j,c,e,p⟩:=hex;have m:l[j]?=some c:=by rw[<-ab4];exact e
     rw[inv.new j c k e p (all j c e),abT f,yL a l vals k j c m p (by rw[q];exact ok.size j c k e p) (λF G H u x=>u (ok.p7 F j G c k (by rw[ab4];exact H) e x p)) l.length (ab7.1 m).1]
    .have n:∀(j:Nat) (c:aK),l.toArray[j]?=some c->c.dst≠some k:=λj c e hd=>hex ⟨j,c,e,hd⟩
     rw[inv.vM k (λj c e _=>n j c e),tX a l vals k l.length (λj c _ e=>n j c (by rw[ab4];exact e))]
  have A:a'.defers=(cE γ made (fR a l vals l.length)).defers:=by rw[(uM γ made _).2,(lF a l vals _).2,inv.defs]
  obtain⟨t1,d1⟩:=a';generalize cE γ made (fR a l vals l.length)=b at *;obtain⟨t2,d2⟩:=b;simp only at z A;subst z A;rfl
 rw[t];exact i γ w inv.rel (λd hd=>inv.sp d hd (by obtain⟨j,c,e,hk⟩:=ok.has d hd;exact⟨j,c,e,hk,all j c e⟩))
variable{ops:Array aK}{Qf:Act->Prop}{o:aK}{rest:List aK}{a:Act}
theorem VQ(hk:jP made o=none)(hl:gL made ops o= [])(hc:nF o=false)(hw:Region.wanted o (yielded ops a.tmps)=true)(h:∀K:Act->Prop,(∀a,mI P ops R W made S Qf rest a->K a)->o.quiet P a (λw=>∃n:K7 R W,w=n.w) K):mI P ops R W made S Qf (o::rest) a:=by
 obtain⟨v,h1,b⟩:=h _ (λ_ h=>h);unfold mI;rw[abS hw];refine⟨v,?_,b⟩;unfold PY;rw[hk];simp only;rw[abS hl,hc];exact h1
theorem GB(hk:jP made o=none)(hw:Region.wanted o (yielded ops a.tmps)=false)(h:mI P ops R W made S Qf rest (a.put o.dst undef)):mI P ops R W made S Qf (o::rest) a:=by
 unfold mI;rw[abT (by rw[hw];simp)];exact⟨(λd hd=>by rw[hk] at hd;cases hd),h⟩
theorem GI(hk:jP made o=none)(hl:gL made ops o= [])(hc:nF o=true)(hw:Region.wanted o (yielded ops a.tmps)=true)(h:∀K:Act->Prop,(∀a,mI P ops R W made S Qf rest a->K a)->∃v,(∀n:K7 R W,uL P R n.w v ((execOp a.eval o).run P n.w))/\K (a.put o.dst v)):mI P ops R W made S Qf (o::rest) a:=by
 obtain⟨v,h1,b⟩:=h _ (λ_ h=>h);unfold mI;rw[abS hw];refine⟨v,?_,b⟩;unfold PY;rw[hk];simp only;rw[abS hl,abS hc];exact h1
theorem Vh(d:Nat)(ks:List Nat)(hk:jP made o=some d)(hl:gL made ops o=ks)(hw:Region.wanted o (yielded ops a.tmps)=true)
 (h1:∀(γ:Nat->aC) (w:aA),R W w->(∀k∈ks,S k (γ k) w)->J3 P R (S d) w ((execOp (cE γ ks a).eval o).run P w)) (h:mI P ops R W made S Qf rest (a.put o.dst undef)):mI P ops R W made S Qf (o::rest) a:=by
 subst hl;unfold mI;rw[abS hw];refine⟨undef,?_,h⟩;unfold PY;rw[hk];exact⟨rfl,h1⟩
theorem Us(v:aC)(ks:List Nat)(hk:jP made o=none)(hl:gL made ops o=ks)(b:ks≠[])(hw:Region.wanted o (yielded ops a.tmps)=true)
 (h1:∀(γ:Nat->aC) (w:aA),R W w->(∀k∈ks,S k (γ k) w)->J3 P R (λu _=>u=v) w ((execOp (cE γ ks a).eval o).run P w)) (h:mI P ops R W made S Qf rest (a.put o.dst v)):mI P ops R W made S Qf (o::rest) a:=by
 subst hl;unfold mI;rw[abS hw];refine⟨v,?_,h⟩;unfold PY;rw[hk];simp only;rw[abT b];exact h1
theorem LH(h:Qf a):mI P ops R W made S Qf [] a:=h
end
theorem Lh{R:aA->aA->Prop}{T:aC->aA->Prop}(h1:R w w')(b:T v w'):J3 P R T w (.ok (.value v) w'):=⟨h1,b⟩
theorem Lk{R:aA->aA->Prop}{T:aC->aA->Prop}{args:Array aC}(h1:R w w')(c:aG P f args w' λe b=>∃v,e= .returned v/\R w' b/\T v b):J3 P R T w (.ok (.enter f args) w'):=⟨h1,c⟩
def bP(w w':aA):Prop:=aD w w w'
theorem AI:Way bP:=⟨λw=>Below.refl _ _,λ_ _ _ h k=>fI h (abQ _) k,λw=>(Below.refl w w).drew⟩
instance Vx (W:aA):Nonempty (K7 bP W):=⟨⟨W,Below.refl _ _⟩⟩
theorem lX{p:aJ}(c:W.cell? p=some v):∀n:K7 bP W,n.w.cell? p=some v:=λn=>bK n.ok c
theorem P7{args:Array aC}(h:aG P f args w λe w'=>e= .returned v/\w=w'):aG P f args w λe w'=>e= .returned v/\bP w w':=
 h.mono λ_ _ ⟨he,hw⟩=>⟨he,by rw[<-hw];exact Below.refl _ _⟩
end
def nU(Q:Exit->Act->aA->Prop):Exit->Act->aA->Prop
 | .normal,a,w=>Q .normal a w
 |_,_,_=>False
structure MF where
 w:aA
instance Yw:Nonempty MF:=⟨⟨default⟩⟩
def nY(o:aK):Bool:=
 match o.op with
 | .move _| .assign _| .pick _ _ _| .build _ _| .binOp _ _ _ _ _| .unOp _ _ _| .convert _ _ _| .slice _ _ _ _ _| .fieldAddr _ _ _| .field _ _ _| .indexAddr _ _ _| .index _ _ _| .extract _ _| .nilCheck _=>true
 |_=>false
theorem LG{o:aK}(h:nY o=true):plain o=true:=by
 obtain⟨dst,op,ty,pos,after,guard⟩:=o;cases op <;> simp_all[nY,plain]
section
variable{P:aO}{ops:Array aK}{T:List Nat}{C:aA->Prop}
structure aaG(T:List Nat)(N:Nat)(ops:Array aK):Prop where
 UA:∀(j:Nat) (o:aK) cs b,ops[j]?=some o->o.op≠ .select cs b
 p7:∀(i j:Nat) (oi oj:aK) (k:Nat),ops[i]?=some oi->ops[j]?=some oj->oi.dst=some k->oj.dst=some k->i=j
 back:∀(i:Nat) (o:aK),ops[i]?=some o->∀e∈o.after,Region.binds .any e=true->e.on<i
 look:∀(i j:Nat) (oi oj:aK) (k:Nat),ops[i]?=some oi->ops[j]?=some oj->k∈oi.looksAt ops->oj.dst=some k->(j<i/\Region.waitsFor .any ops i j=true)\/(i<j/\Region.waitsFor .any ops j i=true)
 tg:∀(i:Nat) (o:aK),ops[i]?=some o->i∈T->o.guard=none
 tl:∀(i j:Nat) (o oj:aK) (k:Nat),ops[i]?=some o->i∈T->k∈o.looksAt ops->ops[j]?=some oj->oj.dst=some k->Region.waitsFor .any ops i j=true
 nl:∀(i j:Nat) (o oj:aK) (k:Nat),ops[i]?=some o->i∉T->k∈o.looksAt ops->ops[j]?=some oj->oj.dst=some k->j∉T
 fr:∀(i:Nat) (o:aK),ops[i]?=some o->i∉T->nY o=true\/Region.waitsFor .any ops (T.headD 0) i=true
 row:∀k,k+1<T.length->Region.waitsFor .any ops (T.getD (k+1) 0) (T.getD k 0)=true
 Lz:∀t∈T,t<ops.size
 ne:T≠[]
 size:∀(j:Nat) (o:aK) (s:Nat),ops[j]?=some o->o.dst=some s->s<N
end
section
variable{P:aO}{T:List Nat}{C:aA->Prop}{l:List aK}{a0:Act}{vals:Nat->aC}{N:Nat}{Q:Exit->Act->aA->Prop}
structure abE(P:aO)(T:List Nat)(C:aA->Prop)(l:List aK)(a0:Act)(vals:Nat->aC)(N:Nat)(Q:Exit->Act->aA->Prop)(listed:Array Bool)(a:Act)(w:aA)(p:Nat)(b:Act):Prop where
 size:listed.size=l.toArray.size
 closed:∀(j:Nat) (oj:aK),l.toArray[j]?=some oj->listed.getD j false=true->∀e∈oj.after,Region.binds .any e=true->listed.getD e.on false=true
 yI:a.tmps.size=N
 bsize:b.tmps.size=N
 defs:a.defers=b.defers
 pl:p<=T.length
 Ab:∀k,k<p->listed.getD (T.getD k 0) false=true
 off:∀k,p<=k->k<T.length->listed.getD (T.getD k 0) true=false
 bn:∀(j:Nat) (o:aK) (s:Nat),l.toArray[j]?=some o->j∉T->o.dst=some s->b.tmps[s]?=some (vals j)
 bo:∀s:Nat,(∀(j:Nat) (o:aK),l.toArray[j]?=some o->o.dst≠some s)->b.tmps[s]?=a0.tmps[s]?
 ag:∀(j:Nat) (o:aK) (s:Nat),l.toArray[j]?=some o->o.dst=some s->listed.getD j false=true->a.tmps[s]?=b.tmps[s]?
 vM:∀s:Nat,(∀(j:Nat) (o:aK),l.toArray[j]?=some o->listed.getD j false=true->o.dst≠some s)->a.tmps[s]?=a0.tmps[s]?
 st:if p=0 then C w/\(∀w',C w'->wpList P l.toArray (nU Q) (T.filterMap λt=>l[t]?) b w') else wpList P l.toArray (nU Q) ((T.drop p).filterMap λt=>l[t]?) b w
theorem yQ{a:Array Bool}(h:a.getD i false=true):a.getD i true=true:=by
 rcases aeH i a.size with b|b
 .simp[b] at h⊢;exact h
 .simp[aeM b] at h
theorem NQ:¬LetsOut (nU Q):=λ⟨_,_,h⟩=>h
theorem uJ{l:List Nat}{k:Nat}(h:k<l.length):l.getD k 0=l[k]:=by simp[List.getD,h]
variable{ops:Array aK}{Qf:Act->Prop}{o:aK}{rest:List aK}{a:Act}{i:Nat}
theorem cY(h:Q .normal a w):nU Q .normal a w:=h
end
structure CW(C:aA->Prop) where
 w:aA
 ok:C w
variable{n:Nat}
section
variable{P:aO}{C:aA->Prop}{Z:Nat->aA->aA->Prop}{made T:List Nat}{S:Nat->aC->aA->Prop}{ops:Array aK}
def AG(P:aO)(R:aA->aA->Prop)(U:aC->aA->Prop)(w:aA):Result Next->Prop
 | .ok (.value v) w'=>R w w'/\U v w'
 | .ok .skip w'=>R w w'/\U undef w'
 | .ok (.enter f args) w'=>w'=w/\aG P f args w λe w''=>∃v,e= .returned v/\R w w''/\U v w''
 |_=>False
def yE(made:List Nat)(_ops:Array aK)(o:aK):Bool:=nY o&&(jP made o).isNone
def SF(P:aO)(C:aA->Prop)(Z:Nat->aA->aA->Prop)(made:List Nat)(S:Nat->aC->aA->Prop)(ops:Array aK)(i:Nat)(o:aK)(a:Act)(v:aC):Prop:=
 match jP made o with
 |some d=>v=undef/\∀(γ:Nat->aC) (w:aA),C w->(∀k∈gL made ops o,S k (γ k) w)->AG P (Z i) (S d) w ((execOp (cE γ (gL made ops o) a).eval o).run P w)
 |none=>
  if gL made ops o= [] then
   (if nY o then ∀w,(∃n:MF,w=n.w)->o.quietAt P a (λw=>∃n:MF,w=n.w) w v
   else if nF o then ∀n:CW C,uL P (Z i) n.w v ((execOp a.eval o).run P n.w)
   else ∀w,(∃n:CW C,w=n.w)->o.quietAt P a (λw=>∃n:CW C,w=n.w) w v)
  else if nY o then ∀(γ:Nat->aC) (w:aA),C w->(∀k∈gL made ops o,S k (γ k) w)->∀w2,AG P (λa b=>b=a) (λu _=>u=v) w2 ((execOp (cE γ (gL made ops o) a).eval o).run P w2)
  else ∀(γ:Nat->aC) (w:aA),C w->(∀k∈gL made ops o,S k (γ k) w)->AG P (Z i) (λu _=>u=v) w ((execOp (cE γ (gL made ops o) a).eval o).run P w)
def Xs(C:aA->Prop)(made:List Nat)(S:Nat->aC->aA->Prop)(o:aK):Prop:=∀d,jP made o=some d->∀w,C w->S d undef w
def oV(P:aO)(ops:Array aK)(T:List Nat)(C:aA->Prop)(Z:Nat->aA->aA->Prop)(made:List Nat)(S:Nat->aC->aA->Prop)(Q:Act->Prop):Nat->List aK->Act->Prop
 |_, [],a=>Q a
 |i,o::rest,a=>
  if T.contains i then oV P ops T C Z made S Q (i+1) rest (a.put o.dst undef)
  else if Region.wanted o (yielded ops a.tmps)=true then ∃v,SF P C Z made S ops i o a v/\oV P ops T C Z made S Q (i+1) rest (a.put o.dst v)
  else Xs C made S o/\oV P ops T C Z made S Q (i+1) rest (a.put o.dst undef)
def Km(P:aO)(ops:Array aK)(T:List Nat)(C:aA->Prop)(Z:Nat->aA->aA->Prop)(made:List Nat)(S:Nat->aC->aA->Prop)(i:Nat)(o:aK)(a:Act)(v:aC):Prop:=
 (T.contains i=true)\/(Region.wanted o (yielded ops a.tmps)=true/\SF P C Z made S ops i o a v)\/(Region.wanted o (yielded ops a.tmps)=false/\v=undef/\Xs C made S o)
theorem Ku:∀(l:List aK) (i:Nat) (a:Act),oV P ops T C Z made S ga i l a->
 ∃vals:Nat->aC,(∀j o,l[j]?=some o->Km P ops T C Z made S (i+j) o (fR a l vals j) (vals j))/\ga (fR a l vals l.length)
 | [],i,a,h=>⟨λ_=>undef,λj o b=>by simp at b,h⟩
 |o::l,i,a,h=>by
  have key:∀v,Km P ops T C Z made S i o a v->oV P ops T C Z made S ga (i+1) l (a.put o.dst v)->∃vals:Nat->aC,(∀j c,(o::l)[j]?=some c->Km P ops T C Z made S (i+j) c (fR a (o::l) vals j) (vals j))/\ga (fR a (o::l) vals (o::l).length):=by
   intro v d e;obtain⟨g,h1,k⟩:=Ku l (i+1) _ e;refine⟨λi=>match i with|0=>v|i+1=>g i,λj c b=>?_,?_⟩
   .cases j with
    |zero=>
     simp at b;subst b;exact d
    |succ j=>
     rw[zW,show i+(j+1)=i+1+j by omega];exact h1 j c b
   .rw[acR,zW];exact k
  unfold oV at h;by_cases f:T.contains i=true
  .rw[abS f] at h;exact key undef (.inl f) h
  .rw[abT f] at h;by_cases hw:Region.wanted o (yielded ops a.tmps)=true
   .rw[abS hw] at h;obtain⟨v,d,e⟩:=h;exact key v (.inr (.inl ⟨hw,d⟩)) e
   .rw[abT hw] at h;exact key undef (.inr (.inr ⟨by simpa using hw,rfl,h.1⟩)) h.2
def GG(ops:Array aK):List Nat->Bool
 |x::y::r=>Region.waitsFor .any ops x y&&GG ops (y::r)
 |_=>true
def QC(T made:List Nat)(pt:List (List Nat))(N:Nat)(ops:Array aK):Bool:=
 Region.noSelect ops&&
 ((List.range ops.size).all λi=>(List.range ops.size).all λj=>i==j || (fV ops i).isNone || fV ops i !=fV ops j)&&
 ((List.range ops.size).all λi=>PG ops i)&&
 ((List.range ops.size).all λi=>PJ ops i)&&
 ((List.range ops.size).all λi=>match ops[i]? with
  |some o=>if T.contains i then o.guard.isNone&&(o.looksAt ops).all λk=>(List.range ops.size).all λj=>fV ops j !=some k || (decide (j<i)&&Region.waitsFor .any ops i j)
   else((o.looksAt ops).all λk=>(List.range ops.size).all λj=>fV ops j !=some k || !T.contains j)&&
    ((o.looksAt ops).all λk=>!made.contains k || (List.range i).any λj=>fV ops j==some k&&Region.waitsFor .any ops i j)&&
    (match o.guard with|some (g,_)=>(match fV ops g with|some k=>!made.contains k|none=>true)|none=>true)&&
    (plain o || nF o || (jP made o).isSome || !(gL made ops o).isEmpty)&&
    (yE made ops o || T.isEmpty || Region.waitsFor .any ops (T.headD 0) i || pt.any λp=>p.head?==some (T.headD 0)&&p.getLast?==some i&&GG ops p)
  |none=>true)&&
 ((List.range (T.length - 1)).all λk=>Region.waitsFor .any ops (T.getD (k+1) 0) (T.getD k 0))&&
 (T.all λt=>decide (t<ops.size))&&
 (made.all λd=>(List.range ops.size).any λi=>fV ops i==some d&&!T.contains i)&&
 ((List.range ops.size).all λj=>match fV ops j with|some s=>decide (s<N)|none=>true)&&
 (made.all λd=>decide (d<N))
structure TR(T made:List Nat)(pt:List (List Nat))(N:Nat)(ops:Array aK):Prop where
 UA:∀(j:Nat) (o:aK) cs b,ops[j]?=some o->o.op≠ .select cs b
 p7:∀(i j:Nat) (oi oj:aK) (k:Nat),ops[i]?=some oi->ops[j]?=some oj->oi.dst=some k->oj.dst=some k->i=j
 back:∀(i:Nat) (o:aK),ops[i]?=some o->∀e∈o.after,Region.binds .any e=true->e.on<i
 look:∀(i j:Nat) (oi oj:aK) (k:Nat),ops[i]?=some oi->ops[j]?=some oj->k∈oi.looksAt ops->oj.dst=some k->(j<i/\Region.waitsFor .any ops i j=true)\/(i<j/\Region.waitsFor .any ops j i=true)
 tg:∀(i:Nat) (o:aK),ops[i]?=some o->i∈T->o.guard=none
 tl:∀(i j:Nat) (o oj:aK) (k:Nat),ops[i]?=some o->i∈T->k∈o.looksAt ops->ops[j]?=some oj->oj.dst=some k->Region.waitsFor .any ops i j=true
 nl:∀(i j:Nat) (o oj:aK) (k:Nat),ops[i]?=some o->i∉T->k∈o.looksAt ops->ops[j]?=some oj->oj.dst=some k->j∉T
 XP:∀(i:Nat) (o:aK) (k:Nat),ops[i]?=some o->i∉T->k∈o.looksAt ops->k∈made->∃(j:Nat) (oj:aK),ops[j]?=some oj/\oj.dst=some k/\Region.waitsFor .any ops i j=true
 Un:∀(i:Nat) (o:aK) (g:Nat) (b:Bool) (k:Nat),ops[i]?=some o->i∉T->o.guard=some (g,b)->fV ops g=some k->k∉made
 pl:∀(i:Nat) (o:aK),ops[i]?=some o->i∉T->plain o=true\/nF o=true\/(jP made o).isSome=true\/gL made ops o≠[]
 fr:∀(i:Nat) (o:aK),ops[i]?=some o->i∉T->yE made ops o=true\/T= []\/Region.waitsFor .any ops (T.headD 0) i=true\/∃p∈pt,p.head?=some (T.headD 0)/\p.getLast?=some i/\GG ops p=true
 row:∀k,k+1<T.length->Region.waitsFor .any ops (T.getD (k+1) 0) (T.getD k 0)=true
 Lz:∀t∈T,t<ops.size
 has:∀d∈made,∃(j:Nat) (oj:aK),ops[j]?=some oj/\oj.dst=some d/\j∉T
 size:∀(j:Nat) (o:aK) (s:Nat),ops[j]?=some o->o.dst=some s->s<N
 GJ:∀d∈made,d<N
theorem XD{pt:List (List Nat)}(h:QC T made pt n ops=true):TR T made pt n ops:=by
 simp only[QC,acM,adU,ac8] at h;obtain⟨⟨⟨⟨⟨⟨⟨⟨⟨u,h1⟩,h2⟩,h3⟩,h4⟩,h5⟩,h6⟩,h7⟩,h8⟩,a⟩:=h;refine⟨Region.noSelect_spec u,?_,?_,?_,?_,?_,?_,?_,?_,?_,?_,?_,?_,?_,?_,?_⟩
 .intro i j v m k hi c x l;have:=h1 i (dF hi) j (dF c);simp[fV,hi,c,x,l] at this;exact this
 .intro i o hi e he hb;have:=h2 i (dF hi);unfold PG at this;rw[hi] at this;have:=Array.all_eq_true'.1 this e he;simp[hb] at this;exact this
 .intro i j v m k hi c hk l;have:=h3 i (dF hi);unfold PJ at this;rw[hi] at this;have:=adU.1 (adU.1 this k hk) j (ac8.2 (dF c));simp[fV,c,l] at this;exact this
 .intro i o hi f;have:=h4 i (dF hi);rw[hi] at this;simp only[aeK,acF f,ac2,acM,ae5] at this;exact this.1
 .intro i j o m k hi f hk c l;have:=h4 i (dF hi);rw[hi] at this;simp only[aeK,acF f,ac2,acM] at this;have:=adU.1 (adU.1 this.2 k hk) j (ac8.2 (dF c));simp[fV,c,l] at this;exact this.2
 .intro i j o m k hi f hk c l;have:=h4 i (dF hi);rw[hi] at this;simp only[aeK,ab8 f,acJ,acI,acM] at this;have:=adU.1 (adU.1 this.1.1.1.1 k hk) j (ac8.2 (dF c));simp[fV,c,l] at this;exact this
 .intro i o k hi f hk hm;have:=h4 i (dF hi);rw[hi] at this;simp only[aeK,ab8 f,acJ,acI,acM,adU,afP,aeS] at this;rcases this.1.1.1.2 k hk with a|⟨j,c,a,q⟩
  .simp[hm] at a
  .obtain⟨m,r,hd⟩:=DG a;exact⟨j,m,r,hd,q⟩
 .intro i o g b k hi f y hd;have:=h4 i (dF hi);rw[hi] at this;simp only[aeK,ab8 f,acJ,acI,acM,y,hd] at this;simpa using this.1.1.2
 .intro i o hi f;have:=h4 i (dF hi);rw[hi] at this;simp only[aeK,ab8 f,acJ,acI,acM,afP] at this;rcases this.1.2 with((a|a)|a)|a
  .exact .inl a
  .exact .inr (.inl a)
  .exact .inr (.inr (.inl a))
  .refine .inr (.inr (.inr λe=>?_));rw[e] at a;simp at a
 .intro i o hi f;have:=h4 i (dF hi);rw[hi] at this;simp only[aeK,ab8 f,acJ,acI,acM,afP,aeS] at this;rcases this.2 with((a|a)|a)|⟨p,hp,a⟩
  .exact .inl a
  .exact .inr (.inl (by simpa using a))
  .exact .inr (.inr (.inl a))
  .exact .inr (.inr (.inr ⟨p,hp,by simpa using a.1.1,by simpa using a.1.2,a.2⟩))
 .intro k hk;exact h5 k aQ
 .intro t f;simpa using h6 t f
 .intro d hd;obtain⟨i,_,hi⟩:=by simpa only[aeS] using h7 d hd
  rw[acM] at hi;obtain⟨o,ho,hk⟩:=DG hi.1;exact⟨i,o,ho,hk,by simpa using hi.2⟩
 .intro j o s c hd;have:=h8 j (dF c);simp[fV,c,hd] at this;exact this
 .intro d hd;simpa using a d hd
end
variable{ops:Array aK}{U:aC->aA->Prop}
section
section
variable{P:aO}{C:aA->Prop}{Z:Nat->aA->aA->Prop}{made T:List Nat}{S:Nat->aC->aA->Prop}{l:List aK}{a0:Act}{vals:Nat->aC}{N:Nat}{Q:Exit->Act->aA->Prop}{pt:List (List Nat)}
structure Vp(P:aO)(T made:List Nat)(C:aA->Prop)(S:Nat->aC->aA->Prop)(l:List aK)(a0:Act)(vals:Nat->aC)(N:Nat)(Q:Exit->Act->aA->Prop)(listed:Array Bool)(a:Act)(w:aA)(γ:Nat->aC)(p:Nat)(b:Act):Prop where
 size:listed.size=l.toArray.size
 closed:∀(j:Nat) (oj:aK),l.toArray[j]?=some oj->listed.getD j false=true->∀e∈oj.after,Region.binds .any e=true->listed.getD e.on false=true
 yI:a.tmps.size=N
 pl:p<=T.length
 Ab:∀k,k<p->listed.getD (T.getD k 0) false=true
 off:∀k,p<=k->k<T.length->listed.getD (T.getD k 0) true=false
 new:∀(j:Nat) (o:aK) (s:Nat),l.toArray[j]?=some o->j∉T->o.dst=some s->listed.getD j false=true->a.tmps[s]?=some (if s∈made then γ s else vals j)
 vM:∀s:Nat,(∀(j:Nat) (o:aK),l.toArray[j]?=some o->listed.getD j false=true->o.dst≠some s)->a.tmps[s]?=a0.tmps[s]?
 z:p=0->C w/\a.defers=a0.defers/\∀d∈made,wL l.toArray listed d->S d (γ d) w
 Uj:∃w1,C w1/\∀d∈made,wL l.toArray listed d->S d (γ d) w1
 n:0<p->b.tmps.size=N/\a.defers=b.defers/\(∀(j:Nat) (o:aK) (s:Nat),l.toArray[j]?=some o->j∉T->o.dst=some s->b.tmps[s]?=some (if s∈made then γ s else vals j))/\
  (∀s:Nat,(∀(j:Nat) (o:aK),l.toArray[j]?=some o->o.dst≠some s)->b.tmps[s]?=a0.tmps[s]?)/\
  (∀(j:Nat) (o:aK) (s:Nat),l.toArray[j]?=some o->j∈T->o.dst=some s->listed.getD j false=true->a.tmps[s]?=b.tmps[s]?)/\
  wpList P l.toArray (nU Q) ((T.drop p).filterMap λt=>l[t]?) b w
theorem B8(hc:∀(j:Nat) (g:aK),ops[j]?=some g->ba.getD j false=true->∀e∈g.after,Region.binds .any e=true->ba.getD e.on false=true):∀(p:List Nat) (x y:Nat),p.head?=some x->p.getLast?=some y->GG ops p=true->ba.getD x false=true->ba.getD y false=true
 | [],x,y,h,_,_,_=>by simp at h
 | [z],x,y,h1,h2,_,h=>by simp at h1 h2;subst h1 h2;exact h
 |u::v::r,x,y,h1,h2,h3,h=>by
  simp at h1;subst h1;rw[GG,acM] at h3;obtain⟨m,b,he⟩:=Region.waitsFor_spec h3.1;obtain⟨e,c,d,f⟩:=he;have k:=hc u m b h e c d;rw[f] at k;refine B8 hc (v::r) v y rfl ?_ h3.2 k;rw[List.getLast?_cons_cons] at h2;exact h2
theorem Cb(hZ:∀i w w',C w->Z i w w'->C w')(hS:∀i,∀d∈made,fV l.toArray i≠some d->∀v w w',C w->S d v w->Z i w w'->S d v w')(ok:TR T made pt N l.toArray)(hN:a0.tmps.size=N)
 (hok:∀(j:Nat) (o:aK),l[j]?=some o->Km P l.toArray T C Z made S j o (fR a0 l vals j) (vals j))
 (hQ:∀(γ:Nat->aC) (w:aA),C w->(∀d∈made,S d (γ d) w)->wpList P l.toArray (nU Q) (T.filterMap λt=>l[t]?) (cE γ made (fR a0 l vals l.length)) w):
 ∀(fuel:Nat) (q:Array Bool) (a:Act) (w:aA) (γ:Nat->aC) (p:Nat) (b:Act),Vp P T made C S l a0 vals N Q q a w γ p b->rH q=fuel->wpAny P .any l.toArray Q fuel q a w:=by
 have hli:∀j:Nat,l.toArray[j]?=l[j]?:=λj=>ab4
 have b0n:∀(γ:Nat->aC) (j:Nat) (o:aK) (s:Nat),l.toArray[j]?=some o->o.dst=some s->(cE γ made (fR a0 l vals l.length)).tmps[s]?=some (if s∈made then γ s else vals j):=λγ j o s A hd=>by
  have hj':l[j]?=some o:=by rw[<-hli];exact A
  by_cases hm:s∈made
  .rw[abS hm,AE γ s made _ hm (by rw[(lF a0 l vals _).1,hN];exact ok.GJ s hm)]
  .rw[abT hm,tN γ s made _ hm];exact yL a0 l vals s j o hj' hd (by rw[hN];exact ok.size j o s A hd) (λj' o' h' D J=>D (ok.p7 j' j o' o s (by rw[hli];exact h') A J hd)) l.length (ab7.1 hj').1
 have b0o:∀(γ:Nat->aC) (s:Nat),(∀(j:Nat) (o:aK),l.toArray[j]?=some o->o.dst≠some s)->(cE γ made (fR a0 l vals l.length)).tmps[s]?=a0.tmps[s]?:=λγ s hs=>by
  have hm:s∉made:=λhm=>by
   obtain⟨j,B,A,hd,_⟩:=ok.has s hm;exact hs j B A hd
  rw[tN γ s made _ hm];exact tX a0 l vals s l.length (λj o _ A=>hs j o (by rw[hli];exact A))
 have fin:∀(q:Array Bool) (a:Act) (w:aA) (γ:Nat->aC) (p:Nat) (b:Act),Vp P T made C S l a0 vals N Q q a w γ p b->(∀i,i<q.size->q.getD i false=true)->Q .normal a w:=by
  intro q a w γ p b inv L;have all:∀(j:Nat) (o:aK),l.toArray[j]?=some o->q.getD j false=true:=λj o A=>L j (by rw[inv.size];exact dF A)
  have hp:p=T.length:=by
   rcases aeH p T.length with h|h
   .exfalso
    have h1:=inv.off p (abQ _) h;have M:T.getD p 0<q.size:=by
     rw[inv.size];refine ok.Lz _ ?_;rw[uJ h];exact abY h
    have H:=yQ (L _ M);rw[h1] at H;cases H
   .exact Nat.le_antisymm inv.pl h
  have same:∀b':Act,(∀(j:Nat) (o:aK) (s:Nat),l.toArray[j]?=some o->o.dst=some s->a.tmps[s]?=b'.tmps[s]?)->(∀s:Nat,(∀(j:Nat) (o:aK),l.toArray[j]?=some o->o.dst≠some s)->b'.tmps[s]?=a0.tmps[s]?)->a.defers=b'.defers->a=b':=by
   intro b' h1 M H;have X:a.tmps=b'.tmps:=by
    apply afC;intro k;by_cases hex:∃(j:Nat) (B:aK),l.toArray[j]?=some B/\B.dst=some k
    .obtain⟨j,B,A,dj⟩:=hex;exact h1 j B k A dj
    .have Y:∀(j:Nat) (B:aK),l.toArray[j]?=some B->B.dst≠some k:=λj B A hd=>hex ⟨j,B,A,hd⟩
     rw[inv.vM k (λj B A _=>Y j B A),M k Y]
   obtain⟨t1,d1⟩:=a;obtain⟨t2,d2⟩:=b';simp only at X H;subst X H;rfl
  by_cases F:p=0
  .have hT:T= []:=acQ aQ;obtain⟨hC,hd,O⟩:=inv.z F;have:=hQ γ w hC (λd hd=>O d hd (by obtain⟨j,B,A,hk,_⟩:=ok.has d hd;exact⟨j,B,A,hk,all j B A⟩));rw[hT] at this;rw[same (cE γ made (fR a0 l vals l.length)) (λj o s A hds=>by rw[inv.new j o s A (by rw[hT];simp) hds (all j o A),b0n γ j o s A hds]) (b0o γ) (by rw[(uM γ made _).2,(lF a0 l vals _).2];exact hd)];exact this
  .obtain⟨_,hd,hbn,hbo,hag,hst⟩:=inv.n aQ;rw[hp,afW (abQ _)] at hst;rw[same b (λj o s A hds=>by
    by_cases E:j∈T
    .exact hag j o s A E hds (all j o A)
    .rw[inv.new j o s A E hds (all j o A),hbn j o s A E hds]) hbo hd]
   exact hst
 intro fuel;induction fuel with
 |zero=>
  intro q a w γ p b inv hc;have L:∀i,i<q.size->q.getD i false=true:=λi hi=>PU hc i hi
  refine⟨?_,fin q a w γ p b inv L⟩;rw[List.eq_nil_iff_forall_not_mem];intro i hi;obtain⟨h1,o,ho,_⟩:=mem_ready.1 hi;have M:=L i (by rw[inv.size];exact dF ho);rw[getD_both h1] at M;cases M
 |succ fuel ih=>
  intro q a w γ p b inv hc;constructor
  .intro hr;exfalso
   have hex:∃i,i<q.size/\q.getD i false=false:=by
    refine acE λD=>?_
    have L:∀i,i<q.size->q.getD i false=true:=λi hi=>by
     cases h:q.getD i false with
     |true=>rfl
     |false=>exact absurd ⟨i,hi,h⟩ D
    have:rH q=0:=by
     unfold rH;rw[afT,afX];intro b hb;obtain⟨i,hi,he⟩:=af5.1 hb;have h1:=L i (by simpa using hi);have hi':i<q.size:=by simpa using hi
     simp[hi'] at h1;simp at he;rw[<-he,h1];simp
    omega
   obtain⟨i0,hi0,hu0⟩:=hex;have hmin:∃i,i<q.size/\q.getD i false=false/\∀j,j<i->q.getD j false=true:=by
    induction i0 using Nat.strongRecOn with
    |_ i0 ihm=>
     by_cases h:∃j,j<i0/\q.getD j false=false
     .obtain⟨j,A,hju⟩:=h;exact ihm j A aQ hju
     .refine⟨i0,hi0,hu0,λj A=>?_⟩;cases hjv:q.getD j false with
      |true=>rfl
      |false=>exact absurd ⟨j,A,hjv⟩ h
   obtain⟨i,hi,hu,hlt⟩:=hmin;have hil:i<l.toArray.size:=by rw[<-inv.size];exact hi
   have:i∈Region.ready .any l.toArray q:=mem_ready.2 ⟨getD_in hi hu,l.toArray[i],by simp[acV hil],λe he hb=>hlt _ (ok.back i _ (acV hil) e he hb)⟩;rw[hr] at this;cases this
  .intro i hi;obtain⟨hun,o,ho,L⟩:=mem_ready.1 hi;have hol:l[i]?=some o:=by rw[<-ab4];exact ho
   have hcn:rH (q.setIfInBounds i true)=fuel:=by have:=QD hun;omega
   have jA:i<q.size:=by rw[inv.size];exact dF ho
   have G:∀j,Region.waitsFor .any l.toArray i j=true->q.getD j false=true:=λj hw=>by
    obtain⟨e,he,hb,hon⟩:=xM ho hw;have:=L e he hb;rw[hon] at this;exact this
   have W:∀(j:Nat) (B:aK),l.toArray[j]?=some B->Region.waitsFor .any l.toArray j i=true->q.getD j false=true->False:=λj B A hw hl=>by
    obtain⟨e,he,hb,hon⟩:=xM A hw;have:=inv.closed j B A hl e he hb;rw[hon,getD_both hun] at this;cases this
   have closed':∀(j:Nat) (B:aK),l.toArray[j]?=some B->(q.setIfInBounds i true).getD j false=true->∀e∈B.after,Region.binds .any e=true->(q.setIfInBounds i true).getD e.on false=true:=λj B A hl e he hb=>by
    by_cases I:i=j
    .subst I;rw[ho] at A;injection A with A;subst A;exact getD_set_true (L e he hb)
    .rw[getD_set_ne false I] at hl;exact getD_set_true (inv.closed j B A hl e he hb)
   by_cases hT:i∈T
   ·
    obtain⟨k,hkl,hki⟩:=acL hT;have hkD:T.getD k 0=i:=by rw[uJ hkl,hki]
    have hpk:p<=k:=by
     rcases aeH k p with h|h
     .have:=yQ (inv.Ab k h);rw[hkD,hun] at this;cases this
     .exact h
    have hkp:k=p:=by
     refine Nat.le_antisymm ?_ hpk;refine acE λhlt=>?_
     have hk1:k - 1+1=k:=aQ;have h1:=ok.row (k - 1) aQ;rw[hk1,hkD] at h1;have M:=yQ (G _ h1);rw[inv.off (k - 1) aQ aQ] at M;cases M
    subst hkp;have hB:∃b:Act,b.tmps.size=N/\a.defers=b.defers/\(∀(j:Nat) (o:aK) (s:Nat),l.toArray[j]?=some o->j∉T->o.dst=some s->b.tmps[s]?=some (if s∈made then γ s else vals j))/\
     (∀s:Nat,(∀(j:Nat) (o:aK),l.toArray[j]?=some o->o.dst≠some s)->b.tmps[s]?=a0.tmps[s]?)/\
     (∀(j:Nat) (o:aK) (s:Nat),l.toArray[j]?=some o->j∈T->o.dst=some s->q.getD j false=true->a.tmps[s]?=b.tmps[s]?)/\
     wpList P l.toArray (nU Q) ((T.drop k).filterMap λt=>l[t]?) b w:=by
     by_cases hk0:k=0
     .subst hk0;obtain⟨hC,hd,O⟩:=inv.z rfl;have h0:T.headD 0=T.getD 0 0:=by cases T <;> rfl
      have hlT:∀(j:Nat) (B:aK),l.toArray[j]?=some B->j∈T->q.getD j false=true->False:=λj B A E hl=>by
       obtain⟨m,hml,hmi⟩:=acL E;have h1:=inv.off m (ab0 _) hml;rw[uJ hml,hmi] at h1;have M:=yQ hl;rw[h1] at M;cases M
      have hmade:∀d∈made,wL l.toArray q d:=λd hd=>by
       obtain⟨j,B,A,hk,E⟩:=ok.has d hd;refine⟨j,B,A,hk,?_⟩;rcases ok.fr j B A E with h|h|h|⟨pp,_,h1,M,H⟩
       .exfalso
        unfold yE at h;rw[acM] at h;have:=h.2;rw[PN hk hd] at this;cases this
       .rw[h] at hT;cases hT
       .rw[h0,hkD] at h;exact G j h
       .rw[h0,hkD] at h1;match pp,h1,M,H with
        | [x],h1,M,_=>
         simp at h1 M;subst h1 M;exact absurd hT E
        |x::y::r,h1,M,H=>
         simp at h1;subst h1;rw[GG,acM] at H;rw[List.getLast?_cons_cons] at M;exact B8 inv.closed (y::r) y j rfl M H.2 (G y H.1)
      refine⟨cE γ made (fR a0 l vals l.length),by rw[(uM γ made _).1,(lF a0 l vals _).1];exact hN,by rw[(uM γ made _).2,(lF a0 l vals _).2];exact hd,λj o s A _ hds=>b0n γ j o s A hds,b0o γ,λj o s A E _ hl=>(hlT j o A E hl).elim,?_⟩;rw[afI];exact hQ γ w hC (λd hd=>O d hd (hmade d hd))
     .exact⟨b,inv.n aQ⟩
    obtain⟨b,hbs,hbd,hbn,hbo,hbt,hst⟩:=hB;have hag:∀s∈o.looksAt l.toArray,a.tmps[s]?=b.tmps[s]?:=λs hs=>by
     by_cases hex:∃(j:Nat) (B:aK),l.toArray[j]?=some B/\B.dst=some s
     .obtain⟨j,B,A,dj⟩:=hex;have hlj:=G j (ok.tl i j o B s ho hT hs A dj);by_cases E:j∈T
      .exact hbt j B s A E dj hlj
      .rw[inv.new j B s A E dj hlj,hbn j B s A E dj]
     .have Y:∀(j:Nat) (B:aK),l.toArray[j]?=some B->B.dst≠some s:=λj B A hd=>hex ⟨j,B,A,hd⟩
      rw[inv.vM s (λj B A _=>Y j B A),hbo s Y]
    have hx:=DB o (λcs b=>ok.UA i o cs b ho) hag;have hgd:=ok.tg i o ho hT;have hdrop:(T.drop k).filterMap (λt=>l[t]?)=o::(T.drop (k+1)).filterMap (λt=>l[t]?):=by
     rw[aeD hkl,af8,hki,hol]
    rw[hdrop] at hst;unfold wpList at hst;rw[abS (by unfold Region.wanted;rw[hgd])] at hst;have hwp:o.wp P b w (wpList P l.toArray (nU Q) ((T.drop (k+1)).filterMap λt=>l[t]?)) (nU Q):=hst.resolve_right (λh=>NQ h.2);have witT:∃w1,C w1/\∀d∈made,wL l.toArray (q.setIfInBounds i true) d->S d (γ d) w1:=by
     obtain⟨w1,hC1,hs1⟩:=inv.Uj;refine⟨w1,hC1,λd hd hL=>hs1 d hd (DN ho (λe=>?_) hL)⟩;obtain⟨j,B,A,hk,E⟩:=ok.has d hd;exact E (ok.p7 i j o B d ho A e hk ▸ hT)
    have next:∀(ds:List _) (v:aC) (w':aA),wpList P l.toArray (nU Q) ((T.drop (k+1)).filterMap λt=>l[t]?) ({b with defers:=ds}.put o.dst v) w'->wpAny P .any l.toArray Q fuel (q.setIfInBounds i true) ({a with defers:=ds}.put o.dst v) w':=by
     intro ds v w' h;refine ih _ _ _ γ (k+1) ({b with defers:=ds}.put o.dst v) ⟨by simp[inv.size],closed',by rw[tK];exact inv.yI,hkl,λk' hk'=>?_,λk' hk' hk2=>?_,λj B s A E hd hl=>?_,λs hs=>?_,λh=>absurd h aQ,witT,λ_=>⟨by rw[tK];exact hbs,by rw[tM,tM],λj B s A E hd=>?_,λs hs=>?_,λj B s A E hd hl=>?_,h⟩⟩ hcn
     .by_cases e:k'=k
      .subst e;rw[hkD];simp[jA]
      .exact getD_set_true (inv.Ab k' aQ)
     .have D:i≠T.getD k' 0:=λe=>by
       have M:∀m,k<m->m<T.length->T.getD m 0≠i:=by
        intro m hm hml e2;have H:=ok.row (m - 1) aQ;rw[show m - 1+1=m by omega,e2] at H;have h4:=yQ (G _ H);rw[inv.off (m - 1) aQ aQ] at h4;cases h4
       exact M k' aQ hk2 e.symm
      rw[getD_set_ne true D];exact inv.off k' aQ hk2
     .have I:i≠j:=λe=>E (by rw[<-e];exact hT)
      rw[getD_set_ne false I] at hl;have D:o.dst≠some s:=λe=>I (ok.p7 i j o B s ho A e hd)
      rw[kY _ _ _ _ D];exact inv.new j B s A E hd hl
     .have h1:o.dst≠some s:=hs i o ho (by simp[jA]);rw[kY _ _ _ _ h1];exact inv.vM s λj B A hl=>hs j B A (getD_set_true hl)
     .have I:i≠j:=λe=>E (by rw[<-e];exact hT)
      have D:o.dst≠some s:=λe=>I (ok.p7 i j o B s ho A e hd)
      rw[kY _ _ _ _ D];exact hbn j B s A E hd
     .rw[kY _ _ _ _ (hs i o ho)];exact hbo s hs
     .by_cases I:i=j
      .subst I;rw[ho] at A;injection A with A;subst A;rw[hd,CQ _ _ _ (by show s<a.tmps.size;rw[inv.yI];exact ok.size i o s ho hd),CQ _ _ _ (by show s<b.tmps.size;rw[hbs];exact ok.size i o s ho hd)]
      .rw[getD_set_ne false I] at hl;have D:o.dst≠some s:=λe=>I (ok.p7 i j o B s ho A e hd)
       rw[kY _ _ _ _ D,kY _ _ _ _ D];exact hbt j B s A E hd hl
    unfold wpOp;simp only[ho];rw[abS (by unfold Region.wanted;rw[hgd])];left
    unfold Oper.wp at hwp⊢;rw[hx];have ea:∀v,a.put o.dst v=({a with defers:=a.defers}:Act).put o.dst v:=λv=>rfl
    have eb:∀v,b.put o.dst v=({b with defers:=a.defers}:Act).put o.dst v:=λv=>by rw[hbd]
    generalize (execOp b.eval o).run P w=r at *;cases r with
    |ok n w'=>
     cases n <;> simp only[Oper.upon] at hwp⊢
     case value u=>rw[ea];exact next _ _ _ (by rw[<-eb];exact hwp)
     case skip=>rw[ea];exact next _ _ _ (by rw[<-eb];exact hwp)
     case row r args=>exact hwp.mono λv w'' h=>by rw[ea];exact next _ _ _ (by rw[<-eb];exact h)
     case enter f args=>
      refine hwp.mono λe w'' h=>?_
      cases e with
      |returned v=>simp only at h⊢;rw[ea];exact next _ _ _ (by rw[<-eb];exact h)
      |panicked c=>simp only[nU] at h
      |outgrown=>exact absurd h NQ
     rw[hbd];exact next _ _ _ hwp
    |halt x w'=>
     cases x <;> simp only[Oper.upon,nU] at hwp
   ·
    have hO:=hok i o hol;have hnT:∀k,k<T.length->T.getD k 0≠i:=λk hk e=>hT (by rw[<-e,uJ hk];exact abY hk)
    have agree:∀s∈o.looksAt l.toArray,s∉made->a.tmps[s]?=(fR a0 l vals i).tmps[s]?:=λs hs hsm=>by
     by_cases hex:∃(j:Nat) (B:aK),l.toArray[j]?=some B/\B.dst=some s
     .obtain⟨j,B,A,dj⟩:=hex;have E:=ok.nl i j o B s ho hT hs A dj;rcases ok.look i j o B s ho A hs dj with⟨hlt,hw⟩|⟨hlt,hw⟩
      .rw[inv.new j B s A E dj (G j hw),abT hsm];rw[yL a0 l vals s j B (by rw[<-hli];exact A) dj (by rw[hN];exact ok.size j B s A dj) (λj' o' hj' D J=>D (ok.p7 j' j o' B s (by rw[hli];exact hj') A J dj)) i hlt]
      .have hnl:q.getD j false=true->False:=W j B A hw;rw[inv.vM s (λj' o' hj' hl' J=>by have:=ok.p7 j' j o' B s hj' A J dj;subst this;exact hnl hl'),
        tX a0 l vals s i (λj' o' hlt' hj' J=>by have:=ok.p7 j' j o' B s (by rw[hli];exact hj') A J dj;omega)]
     .have Y:∀(j:Nat) (B:aK),l.toArray[j]?=some B->B.dst≠some s:=λj B A hd=>hex ⟨j,B,A,hd⟩
      rw[inv.vM s (λj B A _=>Y j B A),tX a0 l vals s i (λj B _ A=>Y j B (by rw[hli];exact A))]
    have hlk:∀k∈gL made l.toArray o,k∈made/\k∈o.looksAt l.toArray:=λk hk=>by
     have:=adB.1 hk;exact⟨this.1,by simpa using this.2⟩
    have hwr:∀k∈gL made l.toArray o,wL l.toArray q k/\a.tmps[k]?=some (γ k):=λk hk=>by
     obtain⟨h1,M⟩:=hlk k hk;obtain⟨j,B,A,dj,hw⟩:=ok.XP i o k ho hT M h1;have hl:=G j hw;have E:=ok.nl i j o B k ho hT M A dj;refine⟨⟨j,B,A,dj,hl⟩,?_⟩;rw[inv.new j B k A E dj hl,abS h1]
    have hag:∀k∈o.looksAt l.toArray,a.tmps[k]?=(cE γ (gL made l.toArray o) (fR a0 l vals i)).tmps[k]?:=λk hk=>by
     by_cases hkm:k∈made
     .have hk2:k∈gL made l.toArray o:=adB.2 ⟨hkm,by simpa using hk⟩;rw[(hwr k hk2).2,AE γ k _ _ hk2 (by rw[(lF a0 l vals i).1,hN];exact ok.GJ k hkm)]
     .rw[tN γ k _ _ (λh=>hkm (hlk k h).1)];exact agree k hk hkm
    have hx:=DB o (λcs b=>ok.UA i o cs b ho) hag;have hw:Region.wanted o (yielded l.toArray a.tmps)=Region.wanted o (yielded l.toArray (fR a0 l vals i).tmps):=by
     unfold Region.wanted;cases hg:o.guard with
     |none=>rfl
     |some gb=>
      obtain⟨g,bb⟩:=gb;have:yielded l.toArray a.tmps g=yielded l.toArray (fR a0 l vals i).tmps g:=by
       unfold yielded;cases hd:(l.toArray[g]?).bind (·.dst) with
       |none=>rfl
       |some k=>
        have hk:k∈o.looksAt l.toArray:=by
         have hd2:=hd;simp only[ab4] at hd2;unfold Oper.looksAt;simp[hg,hd2]
        simp only[Option.bind_some,agree k hk (ok.Un i o g bb k ho hT hg hd)]
      simp only[this]
    have hpz:yE made l.toArray o=false->p=0:=λhf=>by
     refine acE λD=>?_
     have h1:=inv.Ab 0 aQ;have hT0:0<T.length:=by have:=inv.pl;omega
     have hh:T.headD 0=T.getD 0 0:=by cases T <;> rfl
     have hin:T.headD 0∈T:=by rw[hh,uJ hT0];exact abY hT0
     rw[<-hh] at h1;rcases ok.fr i o ho hT with h|h|h|⟨pp,_,M,H,h4⟩
     .rw[hf] at h;cases h
     .rw[h] at hT0;cases hT0
     .exact W (T.headD 0) _ (acV (ok.Lz _ hin)) h h1
     .have:=B8 inv.closed pp _ _ M H h4 h1;have h5:=yQ this;rw[hun] at h5;cases h5
    have cont:∀(v:aC) (γ':Nat->aC) (w':aA),(∀s,o.dst=some s->v=if s∈made then γ' s else vals i)->(∀d,o.dst≠some d->γ' d=γ d)->
     (p=0->C w'/\∀d∈made,wL l.toArray (q.setIfInBounds i true) d->S d (γ' d) w')->(0<p->w'=w/\γ'=γ)->wpAny P .any l.toArray Q fuel (q.setIfInBounds i true) (a.put o.dst v) w':=by
     intro v γ' w' hv hγ h0 h1;have wit':∃w1,C w1/\∀d∈made,wL l.toArray (q.setIfInBounds i true) d->S d (γ' d) w1:=by
      by_cases F:p=0
      .exact⟨w',(h0 F).1,(h0 F).2⟩
      .obtain⟨_,e2⟩:=h1 aQ;obtain⟨w1,hC1,hs1⟩:=inv.Uj;rw[e2];exact⟨w1,hC1,λd hd hL=>hs1 d hd (DN ho (λe=>F (hpz (by unfold yE;rw[PN e hd];simp))) hL)⟩
     refine ih _ _ _ γ' p b ⟨by simp[inv.size],closed',by rw[tK];exact inv.yI,inv.pl,λk' hk'=>getD_set_true (inv.Ab k' hk'),λk' hk' hk2=>?_,λj B s A E hd hl=>?_,λs hs=>?_,λF=>⟨(h0 F).1,by rw[tM];exact(inv.z F).2.1,(h0 F).2⟩,wit',λF=>?_⟩ hcn
     .rw[getD_set_ne true (λe=>hnT k' hk2 e.symm)];exact inv.off k' hk' hk2
     .by_cases I:i=j
      .subst I;rw[ho] at A;injection A with A;subst A;rw[hd,CQ _ _ _ (by rw[inv.yI];exact ok.size i o s ho hd),hv s hd]
      .rw[getD_set_ne false I] at hl;have D:o.dst≠some s:=λe=>I (ok.p7 i j o B s ho A e hd)
       rw[kY _ _ _ _ D,inv.new j B s A E hd hl,hγ s D]
     .have h1:o.dst≠some s:=hs i o ho (by simp[jA]);rw[kY _ _ _ _ h1];exact inv.vM s λj B A hl=>hs j B A (getD_set_true hl)
     .obtain⟨X,e2⟩:=h1 F;obtain⟨m1,m2,m3,m4,m5,m6⟩:=inv.n F;rw[X,e2];refine⟨m1,by rw[tM];exact m2,m3,m4,λj B s A E hd hl=>?_,m6⟩;have I:i≠j:=λe=>hT (by rw[e];exact E)
      rw[getD_set_ne false I] at hl;have D:o.dst≠some s:=λe=>I (ok.p7 i j o B s ho A e hd)
      rw[kY _ _ _ _ D];exact m5 j B s A E hd hl
    have spw:∀d∈made,o.dst≠some d->wL l.toArray (q.setIfInBounds i true) d->wL l.toArray q d:=λd _ D h=>DN ho D h
    have same:(∀s,o.dst=some s->s∉made)->wpAny P .any l.toArray Q fuel (q.setIfInBounds i true) (a.put o.dst (vals i)) w:=λK=>
     cont (vals i) γ w (λs hs=>by rw[abT (K s hs)]) (λ_ _=>rfl) (λF=>⟨(inv.z F).1,λd hd h=>(inv.z F).2.2 d hd (spw d hd (λe=>K d e hd) h)⟩) (λ_=>⟨rfl,rfl⟩)
    unfold wpOp;simp only[ho];rcases hO with hO|⟨hw1,hq⟩|⟨hw1,hv,Y⟩
    .exact absurd (by simpa using hO) hT
    .rw[abS (hw.trans hw1)];left
     unfold Oper.wp;rw[hx];unfold SF at hq;have DQ:p=0->∀U:aC->aA->Prop,(∀v w',Z i w w'->U v w'->wpAny P .any l.toArray Q fuel (q.setIfInBounds i true) (a.put o.dst v) w')->(∀v,U v w->wpAny P .any l.toArray Q fuel (q.setIfInBounds i true) (a.put o.dst v) w)->
      AG P (Z i) U w ((execOp (cE γ (gL made l.toArray o) (fR a0 l vals i)).eval o).run P w)->
      Oper.upon P o a (wpAny P .any l.toArray Q fuel (q.setIfInBounds i true)) Q ((execOp (cE γ (gL made l.toArray o) (fR a0 l vals i)).eval o).run P w):=by
      intro _ U hU _ hn;generalize (execOp (cE γ (gL made l.toArray o) (fR a0 l vals i)).eval o).run P w=r at *;cases r with
      |ok n w'=>
       cases n <;> simp only[AG] at hn <;> simp only[Oper.upon]
       case value u=>exact hU u w' hn.1 hn.2
       case skip=>exact hU undef w' hn.1 hn.2
       case enter f args=>obtain⟨X,hc1⟩:=hn;rw[X];exact hc1.mono λe w'' ⟨v,he,h1,M⟩=>by subst he;exact hU v w'' h1 M
      |halt x w'=>simp only[AG] at hn
     have turned:∀w',Z i w w'->C w->C w':=λw' hz hC=>hZ i w w' hC hz
     cases hnd:jP made o with
     |some d=>
      rw[hnd] at hq;simp only at hq;obtain⟨hd,hm⟩:=UU hnd;have F:=hpz (by unfold yE;rw[hnd];simp);obtain⟨hC,_,O⟩:=inv.z F;have go:∀v w',Z i w w'->S d v w'->wpAny P .any l.toArray Q fuel (q.setIfInBounds i true) (a.put o.dst v) w':=λv w' hz hs=>
       cont v (λV=>if o.dst=some V then v else γ V) w' (λs R=>by rw[hd] at R;injection R with R;subst R;rw[abS hm,abS hd]) (λV D=>by rw[abT D])
        (λ_=>⟨turned w' hz hC,λV J hL=>by
         by_cases e:o.dst=some V
         .rw[abS e];rw[hd] at e;injection e with e;subst e;exact hs
         .rw[abT e];exact hS i V J (by simp[fV,hol];exact e) _ _ _ hC (O V J (spw V J e hL)) hz⟩) (λh=>absurd h aQ)
      exact DQ F (S d) go (λv hs=>cont v (λV=>if o.dst=some V then v else γ V) w (λs R=>by rw[hd] at R;injection R with R;subst R;rw[abS hm,abS hd]) (λV D=>by rw[abT D])
       (λ_=>⟨hC,λV J hL=>by
        by_cases e:o.dst=some V
        .rw[abS e];rw[hd] at e;injection e with e;subst e;exact hs
        .rw[abT e];exact O V J (spw V J e hL)⟩) (λh=>absurd h aQ)) (hq.2 γ w hC (λk hk=>O k (hlk k hk).1 (hwr k hk).1))
     |none=>
      rw[hnd] at hq;simp only at hq;have K:∀s,o.dst=some s->s∉made:=λs hs=>U8 hnd hs
      have keepZ:p=0->∀w',Z i w w'->wpAny P .any l.toArray Q fuel (q.setIfInBounds i true) (a.put o.dst (vals i)) w':=λF w' hz=>by
       obtain⟨hC,_,O⟩:=inv.z F;exact cont (vals i) γ w' (λs hs=>by rw[abT (K s hs)]) (λ_ _=>rfl) (λ_=>⟨turned w' hz hC,λd hd h=>by
        have D:o.dst≠some d:=λe=>K d e hd
        exact hS i d hd (by simp[fV,hol];exact D) _ _ _ hC (O d hd (spw d hd D h)) hz⟩) (λh=>absurd h aQ)
      by_cases hlk0:gL made l.toArray o= []
      .rw[abS hlk0] at hq;rw[hlk0];simp only[cE];by_cases hf:nY o=true
       .rw[abS hf] at hq;have H:=hq w ⟨⟨w⟩,rfl⟩;have hpl:=LG hf;unfold Oper.quietAt at H;have D:=λw' f args=>qE (P:=P) hpl (fR a0 l vals i).eval w w' f args
        generalize (execOp (fR a0 l vals i).eval o).run P w=r at *;cases r with
        |ok n w'=>
         cases n <;> simp only[Oper.quietUpon] at H <;> simp only[Oper.upon]
         case value u=>obtain⟨X,e2⟩:=H;rw[X,e2];exact same K
         case skip=>obtain⟨X,e2⟩:=H;rw[X,<-e2];exact same K
         case enter f args=>exact absurd rfl (D w' f args)
        |halt x w'=>simp only[Oper.quietUpon] at H
       .rw[abT hf] at hq;have F:=hpz (by unfold yE;simp at hf;rw[hf];rfl);obtain⟨hC,_,O⟩:=inv.z F;by_cases hc:nF o=true
        .rw[abS hc] at hq;have H:uL P (Z i) w (vals i) ((execOp (fR a0 l vals i).eval o).run P w):=hq ⟨w,hC⟩;generalize (execOp (fR a0 l vals i).eval o).run P w=r at *;cases r with
         |ok n w'=>
          cases n <;> simp only[uL] at H <;> simp only[Oper.upon]
          case value u=>obtain⟨X,e2⟩:=H;rw[X,e2];exact same K
          case enter f args=>
           obtain⟨X,hc1⟩:=H;rw[X];exact hc1.mono λe w'' ⟨he,hb⟩=>by subst he;exact keepZ F w'' hb
         |halt x w'=>simp only[uL] at H
        .rw[abT hc] at hq;have H:=hq w ⟨⟨w,hC⟩,rfl⟩;have hpl:plain o=true:=by
          rcases ok.pl i o ho hT with h|h|h|h
          .exact h
          .exact absurd h hc
          .rw[hnd] at h;cases h
          .exact absurd hlk0 h
         unfold Oper.quietAt at H;have D:=λw' f args=>qE (P:=P) hpl (fR a0 l vals i).eval w w' f args
         generalize (execOp (fR a0 l vals i).eval o).run P w=r at *;cases r with
         |ok n w'=>
          cases n <;> simp only[Oper.quietUpon] at H <;> simp only[Oper.upon]
          case value u=>obtain⟨X,e2⟩:=H;rw[X,e2];exact same K
          case skip=>obtain⟨X,e2⟩:=H;rw[X,<-e2];exact same K
          case enter f args=>exact absurd rfl (D w' f args)
         |halt x w'=>simp only[Oper.quietUpon] at H
      .rw[abT hlk0] at hq;by_cases hf:nY o=true
       .rw[abS hf] at hq;obtain⟨w1,hC1,hs1⟩:=inv.Uj;have H:=hq γ w1 hC1 (λk hk=>hs1 k (hlk k hk).1 (hwr k hk).1) w;have hpl:=LG hf;have D:=λw' f args=>qE (P:=P) hpl (cE γ (gL made l.toArray o) (fR a0 l vals i)).eval w w' f args
        generalize (execOp (cE γ (gL made l.toArray o) (fR a0 l vals i)).eval o).run P w=r at *;cases r with
        |ok n w'=>
         cases n <;> simp only[AG] at H <;> simp only[Oper.upon]
         case value u=>obtain⟨X,e2⟩:=H;rw[X,e2];exact same K
         case skip=>obtain⟨X,e2⟩:=H;rw[X,e2];exact same K
         case enter f args=>exact absurd rfl (D w' f args)
        |halt x w'=>simp only[AG] at H
       rw[abT hf] at hq;have F:=hpz (by unfold yE;simp at hf;rw[hf];rfl);obtain⟨hC,_,O⟩:=inv.z F;exact DQ F (λu _=>u=vals i) (λv w' hz hv=>by rw[hv];exact keepZ F w' hz) (λv hv=>by rw[hv];exact same K) (hq γ w hC (λk hk=>O k (hlk k hk).1 (hwr k hk).1))
    .rw[abT (by rw[hw,hw1];simp)];by_cases K:∃d,o.dst=some d/\d∈made
     .obtain⟨d,hd,hm⟩:=K;have hnd:=PN hd hm;have F:=hpz (by unfold yE;rw[hnd];simp);obtain⟨hC,_,O⟩:=inv.z F;exact cont undef (λV=>if o.dst=some V then undef else γ V) w (λs R=>by rw[hd] at R;injection R with R;subst R;rw[abS hm,abS hd]) (λV D=>by rw[abT D])
       (λ_=>⟨hC,λV J hL=>by
        by_cases e:o.dst=some V
        .rw[abS e];rw[hd] at e;injection e with e;subst e;exact Y d hnd w hC
        .rw[abT e];exact O V J (spw V J e hL)⟩) (λh=>absurd h aQ)
     .have:=same (λs hs hm=>K ⟨s,hs,hm⟩);rw[hv] at this;exact this
theorem bN{a:Act}(C:aA->Prop)(Z:Nat->aA->aA->Prop)(made:List Nat)(S:Nat->aC->aA->Prop)(T:List Nat)(pt:List (List Nat))(N:Nat)(g:C w0.drew)(n:∀i w w',C w->Z i w w'->C w')
 (p:∀i,∀d∈made,fV l.toArray i≠some d->∀v w w',C w->S d v w->Z i w w'->S d v w') (hm:P.follows .mixedOrders=true) (q:QC T made pt N l.toArray=true) (m:a.tmps.size=N)
 (h:oV P l.toArray T C Z made S (λr=>∀(γ:Nat->aC) (w:aA),C w->(∀d∈made,S d (γ d) w)->wpList P l.toArray (nU Q) (T.filterMap λt=>l[t]?) (cE γ made r) w) 0 l a):
 (Code.region id l.toArray true).wp P Q a w0:=by
 have ok:=XD q;obtain⟨vals,e,b⟩:=Ku l 0 a h;refine wp_region_any hm ?_;have hf:∀j,(Array.replicate l.toArray.size false).getD j false=true->False:=λj c=>by rw[getD_replicate_false] at c;cases c
 refine Cb (vals:=vals) n p ok m (λj o c=>by have:=e j o c;rwa [acT] at this) b l.toArray.size _ a _ (λ_=>undef) 0 a ⟨aT,λj u _ hl=>(hf j hl).elim,m,ab0 _,λk hk=>absurd hk (adY _),λk _ hk=>?_,λj o s _ _ _ hl=>(hf j hl).elim,λs _=>rfl,λ_=>⟨g,rfl,λd _ ⟨j,o,_,_,hl⟩=>(hf j hl).elim⟩,⟨_,g,λd _ ⟨j,o,_,_,hl⟩=>(hf j hl).elim⟩,λh=>absurd h (adL _)⟩ (by simp[rH]);have f:T.getD k 0<l.toArray.size:=ok.Lz _ (by rw[uJ hk];exact abY hk);exact getD_in (by simpa using f) (getD_replicate_false _ _)
variable{ops:Array aK}{Qf:Act->Prop}{o:aK}{rest:List aK}{a:Act}{i:Nat}
theorem C1(b:T.contains i=true)(h:oV P ops T C Z made S Qf (i+1) rest (a.put o.dst undef)):oV P ops T C Z made S Qf i (o::rest) a:=by
 unfold oV;rw[abS b];exact h
theorem yS(b:T.contains i=false)(hk:jP made o=none)(hl:gL made ops o= [])(hf:nY o=true)(hw:Region.wanted o (yielded ops a.tmps)=true)(h:∀K:Act->Prop,(∀a,oV P ops T C Z made S Qf (i+1) rest a->K a)->o.quiet P a (λw=>∃n:MF,w=n.w) K):oV P ops T C Z made S Qf i (o::rest) a:=by
 obtain⟨v,h1,c⟩:=h _ (λ_ h=>h);unfold oV;rw[abT (by rw[b];simp),abS hw];refine⟨v,?_,c⟩;unfold SF;rw[hk];simp only;rw[abS hl,abS hf];exact h1
theorem MJ(b:T.contains i=false)(hk:jP made o=none)(hl:gL made ops o= [])(hf:nY o=false)(hc:nF o=false)(hw:Region.wanted o (yielded ops a.tmps)=true)(h:∀K:Act->Prop,(∀a,oV P ops T C Z made S Qf (i+1) rest a->K a)->o.quiet P a (λw=>∃n:CW C,w=n.w) K):oV P ops T C Z made S Qf i (o::rest) a:=by
 obtain⟨v,h1,c⟩:=h _ (λ_ h=>h);unfold oV;rw[abT (by rw[b];simp),abS hw];refine⟨v,?_,c⟩;unfold SF;rw[hk];simp only;rw[abS hl,hf,hc];exact h1
theorem yO(b:T.contains i=false)(hk:jP made o=none)(hl:gL made ops o= [])(hc:nF o=true)(hw:Region.wanted o (yielded ops a.tmps)=true)(h:∀K:Act->Prop,(∀a,oV P ops T C Z made S Qf (i+1) rest a->K a)->∃v,(∀n:CW C,uL P (Z i) n.w v ((execOp a.eval o).run P n.w))/\K (a.put o.dst v)):oV P ops T C Z made S Qf i (o::rest) a:=by
 obtain⟨v,h1,c⟩:=h _ (λ_ h=>h);unfold oV;rw[abT (by rw[b];simp),abS hw];refine⟨v,?_,c⟩;unfold SF;rw[hk];simp only;have hf:nY o=false:=by
  obtain⟨dst,op,ty,pos,after,guard⟩:=o;cases op <;> simp_all[nY,nF]
 rw[abS hl,hf,abT aT,abS hc];exact h1
theorem GH(b:T.contains i=false)(hk:jP made o=none)(hw:Region.wanted o (yielded ops a.tmps)=false)(h:oV P ops T C Z made S Qf (i+1) rest (a.put o.dst undef)):oV P ops T C Z made S Qf i (o::rest) a:=by
 unfold oV;rw[abT (by rw[b];simp),abT (by rw[hw];simp)];exact⟨(λd hd=>by rw[hk] at hd;cases hd),h⟩
theorem sF(d:Nat)(ks:List Nat)(b:T.contains i=false)(hk:jP made o=some d)(hl:gL made ops o=ks)(hw:Region.wanted o (yielded ops a.tmps)=true)
 (h1:∀(γ:Nat->aC) (w:aA),C w->(∀k∈ks,S k (γ k) w)->AG P (Z i) (S d) w ((execOp (cE γ ks a).eval o).run P w)) (h:oV P ops T C Z made S Qf (i+1) rest (a.put o.dst undef)):oV P ops T C Z made S Qf i (o::rest) a:=by
 subst hl;unfold oV;rw[abT (by rw[b];simp),abS hw];refine⟨undef,?_,h⟩;unfold SF;rw[hk];exact⟨rfl,h1⟩
theorem dG(h:Qf a):oV P ops T C Z made S Qf i [] a:=h
end
theorem bE{p:aJ}(c:W.cell? p=some v):∀n:CW (bP W),n.w.cell? p=some v:=λn=>bK n.ok c
instance Wy (W:aA):Nonempty (CW (bP W)):=⟨⟨W,Below.refl _ _⟩⟩
theorem bZ(W:aA):bP W W.drew:=(Below.refl W W).drew
theorem bV{a b c:aA}(h:bP a b)(k:bP b c):bP a c:=fI h (abQ _) k
theorem pG{R:aA->aA->Prop}(h1:R w w')(b:U v w'):AG P R U w (.ok (.value v) w'):=⟨h1,b⟩
theorem Ww{R:aA->aA->Prop}{args:Array aC}(c:aG P f args w λe b=>∃v,e= .returned v/\R w b/\U v b):AG P R U w (.ok (.enter f args) w):=⟨rfl,c⟩
end
end
section
open Go.RowKit Go.Lib
variable{i g:Nat}{v:aC}{w w' W:aA}{P:aO}{f:FuncId}{Q:Exit->Act->aA->Prop}
section
def FR(N:Nat)(t:aN)(c0:Array aC)(v:aC)(w:aA):Prop:=∃g,v= .pointer (some ⟨g,0,none⟩)/\N<=g/\bF w g t c0
theorem FR.keep{t:aN}{c0:Array aC}(h:FR i t c0 v w)(a:bP w w'):FR i t c0 v w':=by
 obtain⟨g,h1,b,c⟩:=h;exact⟨g,h1,b,c.keep a⟩
abbrev jA {w:aA} {p:aJ} {v:aC} (_:w.cell? p=some v):Nat:=w.heap.size
theorem J5{args:Array aC}(h:aG P f args w λe w'=>e= .returned v/\aD w w w'):aG P f args w λe w'=>e= .returned v/\bP w w':=h
theorem RW(n:CW (bP W)):aD W W n.w:=n.ok
theorem iP{ops:Array aK}{rest:List aK}{op:aK}{a:Act}{t:aN}{c0:Array aC}(hm:W.heap.size<=g)(hb:aD W W w)(hk:bF w g t c0)(b:op.guard=none)(ty:aN)(x y:Operand)(ho:op.op= .store ty x y)(c1:Array aC)(c:a.eval x= .pointer g)(d:a.eval y= .agg c1)(e:c0.size=c1.size)(hi:(P.info? ty).map (·.size)=some c1.size)(h1:c1.all (·.oneCell')=true)(h:∀w',aD W W w'->W.heap.size<=g/\bF w' g t c1->wpList P ops Q rest (a.put op.dst undef) w'):wpList P ops Q (op::rest) a w:=by
 refine wpList_store_mid b ty x y ho g 0 c1 c d (hk.there aQ) hi h1 ?_;refine h _ (LA hb (fN g _ 0 _ _ (bL w g)) hm) ⟨hm,?_⟩;have:=hk.fill c1.toList (by simpa using e);simpa using this
end
end
section
namespace NP
def M4(a s x:Nat):Nat:=x /2 ^ a%2 ^ s
theorem Jc(a s x:Nat):(x /2 ^ a) &&& (2 ^ s - 1)=M4 a s x:=by
 rw[Nat.and_two_pow_sub_one_eq_mod];rfl
theorem Pu(s:Nat)(h1:1<=s)(a:s<=64):18446744073709551615 /2 ^ (64 - s)=2 ^ s - 1:=by
 obtain⟨k,rfl⟩:∃k,s=64 - k:=⟨64 - s,aQ⟩
 have hk:k<64:=aQ;have e:64 - (64 - k)=k:=aQ;rw[e];have:∀k:Fin 64,18446744073709551615 /2 ^ k.val=2 ^ (64 - k.val) - 1:=cH;exact this ⟨k,hk⟩
end NP
end
section
open Go.RowKit
namespace Pa
def zC(a s:Int):Bool:=decide (1<=s/\s<=64/\0<=a/\a+s<=64)
theorem RL{a s:Int}(h:1<=s/\s<=64/\0<=a/\a+s<=64):zC a s=true:=acF h
theorem tW(a s:Int)(w:aA):
 aG prog 241 #[.agg #[a,s]] w λe w'=>e= .returned (.bool (zC a s))/\aD w w w':=by
 go_enter func241,ntmps241
 go_wp2
 all_goals go_ret
 all_goals refine⟨jL ?_,aX _ _⟩
 all_goals unfold zC
 all_goals first|(simp;done)|(simp;omega)|(rw[af1];omega)
def AO(s:Int):Int:=2 ^ s.toNat - 1
theorem Ip(s:Int)(h1:1<=s)(b:s<=64):(18446744073709551615:Int) /2 ^ (64 - s).toNat=AO s:=by
 unfold AO;obtain⟨n,rfl⟩:=abW (show 0<=s by omega);have h:=NP.Pu n aQ aQ;have e:(64 - (n:Int)).toNat=64 - n:=aQ;rw[e,abZ];have c:=Nat.two_pow_pos n;have a:((18446744073709551615 /2 ^ (64 - n):Nat):Int)=((2 ^ n - 1:Nat):Int):=by rw[h]
 rw[Int.natCast_ediv,Int.natCast_sub aQ] at a;simpa using a
theorem VJ(s:Int)(h1:1<=s)(a:s<=64):0<=AO s/\AO s<=18446744073709551615:=by
 unfold AO;have h:∀k:Fin 65,(0:Int)<=2 ^ k.val - 1/\(2:Int) ^ k.val - 1<=18446744073709551615:=cH;exact h ⟨s.toNat,aQ⟩
theorem Gm(a s:Int)(w:aA)(h1:1<=s)(b:s<=64)(c:0<=a)(d:a+s<=64):
 aG prog 242 #[.agg #[a,s]] w λe w'=>e= .returned (.int .u64 (AO s))/\aD w w w':=by
 have f:=RL ⟨h1,b,c,d⟩;go_enter func242,ntmps242
 go_wp2_with(go_at_call 241;refine(tW _ _ _).mono ?_;rintro e w' ⟨rfl,hb⟩;obtain⟨hc,hf⟩:=XY hb)
 go_ret
 exact⟨lT (Ip s h1 b),(aX _ _).trans (hb.mono aT)⟩
theorem Cq(a:Int)(b:0<=a)(c:a<=64):min (IntKind.u64.wrap a).toNat 64=a.toNat:=by
 rw[IntKind.wrap_u64,Int.emod_eq_of_lt b aQ];omega
theorem Ub(a s x:Int)(w:aA)(h:zC a s=false):
 aG prog 203 #[.agg #[a,s], .int .u64 x] w λe w'=>e= .returned (.int .u64 0)/\aD w w w':=by
 go_enter func203,ntmps203
 go_wp2_with(go_at_call 241;refine(tW _ _ _).mono ?_;rintro e w' ⟨rfl,hb⟩;obtain⟨hc,hf⟩:=XY hb)
 go_ret
 exact⟨rfl,fI (aX _ _) (abQ _) hb⟩
theorem Jo(a s x:Int)(h1:1<=s)(b:s<=64)(c:0<=a)(h:a+s<=64)(d:0<=x)(i:x<18446744073709551616):
 bits BinOp.and IntKind.u64 (x /2 ^ min (IntKind.u64.wrap a).toNat 64) (AO s)=(NP.M4 a.toNat s.toNat x.toNat:Nat):=by
 rw[Cq a c aQ];obtain⟨n,rfl⟩:=abW d;have e:=VJ s h1 b;unfold AO at e⊢;have f:(n:Int) /2 ^ a.toNat=((n /2 ^ a.toNat:Nat):Int):=by rw[Int.natCast_ediv];simp
 have g:((2:Int) ^ s.toNat - 1)=((2 ^ s.toNat - 1:Nat):Int):=by
  have:=Nat.two_pow_pos s.toNat;rw[Int.natCast_sub aQ];simp
 have hd:n /2 ^ a.toNat<=n:=Nat.div_le_self _ _;rw[f,g,u64_and_nat _ _ aQ aQ,NP.Jc,abZ]
theorem Mz(a s x:Int)(w:aA)(h1:1<=s)(c:s<=64)(d:0<=a)(f:a+s<=64)(g:0<=x)(h:x<18446744073709551616):
 aG prog 203 #[.agg #[a,s], .int .u64 x] w λe w'=>e= .returned (.int .u64 (NP.M4 a.toNat s.toNat x.toNat))/\aD w w w':=by
 have j:=RL ⟨h1,c,d,f⟩;go_enter func203,ntmps203
 go_wp2_with(go_at_call 241;refine(tW _ _ _).mono ?_;rintro e b ⟨rfl,hb⟩)
 have i:=fI (aX _ _) (abQ _) hb;have c0:b.cell? (w.heap.size,0)=some (.int .i64 a):=bK hb aT;have c1:b.cell? (w.heap.size,1)=some (.int .i64 s):=bK hb aT;clear hb;go_region_held3 (λw'=>aD b b w'/\w'.cell? (w.heap.size,0)=some (.int .i64 a)/\w'.cell? (w.heap.size,1)=some (.int .i64 s))
  (first|exact⟨(Below.refl _ _).drew,c0,c1⟩|exact Xm ‹_› hb)
  (first|(go_at_call 242;refine(Gm _ _ _ h1 c d f).mono ?_;rintro e w' ⟨rfl,hb⟩))
 go_wp2
 go_ret
 exact⟨lT (Jo a s x h1 c d f g h),fI i.drew (abQ _) hb⟩
end Pa
end
section
namespace Pa
structure Fl where
 at_:Int
 size:Int
def EO(f:Fl):Bool:=zC f.at_ f.size
theorem Hp{f:Fl}(h:EO f=true):1<=f.size/\f.size<=64/\0<=f.at_/\f.at_+f.size<=64:=adD h
def tQ(f:Fl)(x:Int):Int:=if EO f then(NP.M4 f.at_.toNat f.size.toNat x.toNat:Nat) else 0
end Pa
end
section
open Go.RowKit
section
namespace Pa
def eF(f:Fl):List aC:= [.int .i64 f.at_, .int .i64 f.size]
theorem Li:eW eF 2:=⟨λ_=>rfl,λx u hu=>by simp[eF] at hu;rcases hu with rfl|rfl <;> rfl⟩
variable{w:aA}{A:Option aJ}{i:Nat}
theorem _root_.Go.Proofs.YtacgiflhgdaeaaaGreat.Sl.Wz{xs:List Fl}(h:Sl eF 2 w A xs)(hi:i<xs.length):
 ∃b off,A=some ⟨b,off,none⟩/\w.cell? ⟨b,off+i *2,none⟩=some (.int .i64 xs[i].at_)/\w.cell? ⟨b,off+i *2+1,none⟩=some (.int .i64 xs[i].size):=by
 obtain⟨b,off,a,hc⟩:=h.at_ hi;exact⟨b,off,a,by simpa using hc 0 _ (show(eF xs[i])[0]?=some (.int .i64 xs[i].at_) from rfl),by simpa[acY] using hc 1 _ (show(eF xs[i])[1]?=some (.int .i64 xs[i].size) from rfl)⟩
end Pa
end
namespace Pa
end Pa
section
namespace Pa
theorem get_at(f:Fl)(x:Int)(w:aA)(b:0<=x)(c:x<18446744073709551616):
 aG prog 203 #[.agg #[f.at_,f.size], .int .u64 x] w λe w'=>e= .returned (.int .u64 (tQ f x))/\aD w w w':=by
 unfold tQ;cases a:EO f
 .exact Ub _ _ _ _ a
 .have:=Hp a;exact Mz _ _ _ _ this.1 this.2.1 this.2.2.1 this.2.2.2 b c
theorem Q8:(prog.info? 75).map (λi=>(i.zero,i.size,i.bytes))=some (some (.int .u64 0),1,8):=aV
theorem Uy:jR prog 34 75 1 8:=fX underlying34 Q8 rfl aQ
theorem OY(A:Option aJ)(l:List Fl)(x:Int)(c:Nat)(w:aA)(hs:Sl eF 2 w A l)(h1:l.length<=40)(B:0<=x)(C:x<18446744073709551616):
 aG prog 160 #[(A,l.length,c), .int .u64 x] w (XF eU 1 75 (l.map (tQ · x)) w):=by
 obtain⟨i0,r,s,t,u⟩:=info_parts Q8;go_enter func160,ntmps160
 go_wp2_with(at_make;refine wpList_make_own _ rfl _ _ 34 rfl w.heap.size 75 i0 _ 1 underlying34 r s t _ _ _ l.length rfl rfl rfl (by rw[u];omega) dN (abQ _) ?_;intro D a g)
 have h:aD w w D:=(Below.refl _ _).grown g (abQ _) (λk hk=>by cases hk);clear g;go_loopw [5,13] (λv i wr=>∃(k:Nat) (O:Option aJ) (d:Nat),k<=l.length/\i= .int .i64 k/\v= .slice O k d/\bH eU 1 wr w.heap.size 75 O d ((l.take k).map (tQ · x))/\aD w w wr) (λ_ i _=>l.length - (intOf i).toNat)
 case atStart=>exact⟨0,_,_,ab0 _,rfl,rfl,a,h⟩
 case round=>
  clear a h;obtain⟨k,O,d,hk,rfl,rfl,own,f⟩:=hrel;by_cases j:k<l.length
  .obtain⟨b,off,rfl,c0,c1⟩:=(hs.keep f).Wz j;have E:aH (((l.take k).map (tQ · x)).length=k):=by simp[aH];omega
   have F:=aP (λW=>get_at l[k] x W B C);have G:aH ((l.take (k+1)).map (tQ · x)=(l.take k).map (tQ · x)++ [tQ l[k] x]):=by unfold aH;rw[List.take_succ_eq_append_getElem j,afE];rfl
   generalize tQ l[k] x=y at *;go_wp2_with(first|(go_at_call 203;(refine aS (F.o _) ?_);rintro e w5 ⟨rfl,hb⟩;replace own:=(own.alloc _).keep hb;replace f:=fI (f.alloc f.size _) (abQ _) hb;clear hb;have H:=f.size)|(at_builtin;refine bQ _ rfl _ _ rfl Uy yF (own.alloc _) (n:=k) E.o rfl (m:=1) rfl (ys:= [y]) rfl (Sl.new yF w5 _ _ rfl _) dN aQ bX _ rfl (k+1) rfl ?_;intro I J L p z K))
   go_roundw
   case rel=>exact⟨k+1,I,J,aQ,by go_num,rfl,by rw[G.o];exact p,(f.alloc f.size _).grown z bX (λq hq=>(own.lt q hq).1)⟩
   case measure=>simp[intOf];omega
  .obtain rfl:k=l.length:=aQ;go_wp2
   go_ret
   exact⟨O,d,aT,by simpa using own,f⟩
variable{w:aA}{b i:Nat}
theorem _root_.Go.Proofs.YtacgiflhgdaeaaaGreat.Sl.IA{off:Nat}{xs:List Int}(h:Sl eU 1 w (some ⟨b,off,none⟩) xs)(hi:i<xs.length):w.cell? (b,off+i)=some (.int .u64 xs[i]):=by
 obtain⟨c,a,heq,h1⟩:=h.Ah hi;injection heq with heq;injection heq with q1 q2;subst q1 q2;exact h1
end Pa
end
namespace Pa.Cp
def fG(op:Int)(i:Nat):Bool:=
 match i with
 |0=>!(op==0 || op==14)
 |1=>!(op==0 || op==14 || op==16 || op==18 || op==1 || op==15 || op==17)
 |2=>!(op==0 || op==14 || op==16 || op==18 || op==1 || op==15 || op==17 || op==12 || op==13)
 |_=>op==14 || op==1 || op==15 || op==17 || op==12 || op==13
def rP(n:Int)(had:Bool):Bool:=if had then decide (0<=n/\n<=7) else n==0
def PD:Int:=17592186044415
def iK(n:Int)(had:Bool):Bool:=if had then decide (n<=PD) else n==0
def sP(op a b c n:Int):Bool:=decide (0<=op/\op<=18)&&rP a (fG op 0)&&rP b (fG op 1)&&rP c (fG op 2)&&iK n (fG op 3)
theorem zG(n:Int)(a:Bool)(w:aA):aG prog 279 #[n,a] w λe w'=>e= .returned (.bool (rP n a))/\w=w':=by
 cases a
 .go_enter func279,ntmps279
  go_wp2
  go_ret
  exact⟨rfl,rfl⟩
 .go_enter func279,ntmps279
  go_wp2
  all_goals go_ret
  all_goals refine⟨jL ?_,rfl⟩
  all_goals unfold rP
  all_goals simp
  all_goals omega
theorem kZ(op:Int)(w:aA)(a:0<=op)(h1:op<=18):aG prog 278 #[op] w λe w'=>e= .returned (.tuple #[.bool (fG op 0), .bool (fG op 1), .bool (fG op 2), .bool (fG op 3)])/\w=w':=by
 obtain⟨n,rfl⟩:=abW a;have b:n<=18:=aQ;clear a h1;rcases(show n=0\/n=1\/n=2\/n=3\/n=4\/n=5\/n=6\/n=7\/n=8\/n=9\/n=10\/n=11\/n=12\/n=13\/n=14\/n=15\/n=16\/n=17\/n=18 by omega) with rfl|rfl|rfl|rfl|rfl|rfl|rfl|rfl|rfl|rfl|rfl|rfl|rfl|rfl|rfl|rfl|rfl|rfl|rfl
 all_goals
  clear b;go_enter func278,ntmps278
  go_wp2
  exact bodyPost_ret (v:= .tuple #[_,_,_,_]) (by simp[results,results278,go_sem];exact⟨rfl,rfl,rfl,rfl⟩) rfl ⟨rfl,rfl⟩
theorem W6(op a b c n:Int)(w:aA)(r:0<=n):aG prog 255 #[.agg #[op,a,b,c, .int .u64 n]] w λe w'=>e= .returned (.bool (sP op a b c n))/\aD w w w':=by
 by_cases g:0<=op/\op<=18
 .obtain⟨g,h1⟩:=g;have h:=aP (λW=>kZ op W g h1);have j:sP op a b c n=(rP a (fG op 0)&&rP b (fG op 1)&&rP c (fG op 2)&&iK n (fG op 3)):=by unfold sP;simp[g,h1]
  rw[j];clear j;have l:=aP (λW=>zG a (fG op 0) W);have m:=aP (λW=>zG b (fG op 1) W);have p:=aP (λW=>zG c (fG op 2) W);generalize rP a (fG op 0)=q at *;generalize rP b (fG op 1)=q1 at *;generalize rP c (fG op 2)=q2 at *;generalize fG op 0=p0 at *;generalize fG op 1=p1 at *;generalize fG op 2=p2 at *;cases k:fG op 3
  .rw[k] at h;clear k;by_cases d:n=0
   .subst d;have f:aH (iK 0 false=true):=rfl;cases q <;> cases q1 <;> cases q2
    all_goals
     go_enter func255,ntmps255
     go_wp2_with(first|(go_at_call 278;(with_reducible refine(h.o _).mono ?_);rintro e i ⟨rfl,rfl⟩)|(go_at_call 279;(first|(with_reducible refine(l.o _).mono ?_)|(with_reducible refine(m.o _).mono ?_)|(with_reducible refine(p.o _).mono ?_));rintro e i ⟨rfl,rfl⟩))
     go_ret
     exact⟨by rw[f.o];first|(simp;done)|(simp;omega),aX _ _⟩
   .have hb:(n !=0)=true:=by simp[d]
    have f:aH (iK n false=false):=by unfold aH iK;simp[d]
    clear d;go_enter func255,ntmps255
    go_wp2_with(first|(go_at_call 278;(refine aS (h.o _) ?_);rintro e i ⟨rfl,rfl⟩))
    go_ret
    exact⟨by rw[f.o];first|(simp;done)|(simp;omega),aX _ _⟩
  .rw[k] at h;clear k;by_cases d:n<=17592186044415
   .have f:aH (iK n true=true):=by unfold aH iK PD;simp[d]
    cases q <;> cases q1 <;> cases q2
    all_goals
     go_enter func255,ntmps255
     go_wp2_with(first|(go_at_call 278;(with_reducible refine(h.o _).mono ?_);rintro e i ⟨rfl,rfl⟩)|(go_at_call 279;(first|(with_reducible refine(l.o _).mono ?_)|(with_reducible refine(m.o _).mono ?_)|(with_reducible refine(p.o _).mono ?_));rintro e i ⟨rfl,rfl⟩))
     go_ret
     exact⟨by rw[f.o];first|(simp;done)|(simp;omega),aX _ _⟩
   .have f:aH (iK n true=false):=by
     unfold aH iK PD;exact ab8 d
    cases q <;> cases q1 <;> cases q2
    all_goals
     go_enter func255,ntmps255
     go_wp2_with(first|(go_at_call 278;(with_reducible refine(h.o _).mono ?_);rintro e i ⟨rfl,rfl⟩)|(go_at_call 279;(first|(with_reducible refine(l.o _).mono ?_)|(with_reducible refine(m.o _).mono ?_)|(with_reducible refine(p.o _).mono ?_));rintro e i ⟨rfl,rfl⟩))
     go_ret
     exact⟨by rw[f.o];first|(simp;done)|(simp;omega),aX _ _⟩
 .have j:sP op a b c n=false:=by unfold sP;simp[g]
  rw[j];clear j;by_cases h1:op<0
  .go_enter func255,ntmps255
   go_wp2
   go_ret
   exact⟨rfl,aX _ _⟩
  .have s:18<op:=aQ;clear g;go_enter func255,ntmps255
   go_wp2
   go_ret
   exact⟨rfl,aX _ _⟩
end Pa.Cp
section
namespace Pa.Cp
def oD:List Fl:= [⟨0,8⟩,⟨8,4⟩,⟨12,4⟩,⟨16,4⟩,⟨20,44⟩]
theorem FE(x:Nat)(a:x<18446744073709551616):oD.map (tQ · (x:Int))= [((x%256:Nat):Int),((x /256%16:Nat):Int),((x /4096%16:Nat):Int),((x /65536%16:Nat):Int),((x /1048576:Nat):Int)]:=by
 simp[oD,tQ,EO,zC,NP.M4];omega
variable{ia:Bool}
theorem QZ{n:Int}(h:rP n ia=true):0<=n/\n<=7:=by
 unfold rP at h;cases ia
 .simp at h;omega
 .simp at h;omega
theorem Tq{n:Int}(h:iK n ia=true):n<=17592186044415:=by
 unfold iK PD at h;cases ia
 .simp at h;omega
 .simp at h;omega
variable{op:Int}
theorem Ib{a b c n:Int}(h:sP op a b c n=true):(0<=op/\op<=18)/\(0<=a/\a<=7)/\(0<=b/\b<=7)/\(0<=c/\c<=7)/\n<=17592186044415:=by
 unfold sP at h;simp only[acM,aeE] at h;obtain⟨⟨⟨⟨d,h1⟩,e⟩,f⟩,g⟩:=h;exact⟨d,QZ h1,QZ e,QZ f,Tq g⟩
end Pa.Cp
end
section
namespace Pa.Cp
variable{sz:Nat}
theorem _root_.Go.Proofs.YtacgiflhgdaeaaaGreat.Sl.aaC{α:Type}{enc:α->List aC}(he:eW enc sz)(w:aA)(xs:List α)(cs:Array aC)(a:cs.toList=xs.flatMap enc)(t:aN):Sl enc sz (w.alloc (.cells cs t)) (some ⟨w.heap.size,0,none⟩) xs:=λ_=>by
 refine⟨w.heap.size,0,rfl,λi x j u b hu=>?_⟩;have c:j<sz:=by rw[<-he.len x];exact(ab7.1 hu).1
 have h1:=cell_of_row (w.alloc (.cells cs t)) w (i *sz+j) cs t (0,0) (heap_alloc_new w _);rw[acT,h1,<-acH,a,kH he.len xs i x j b c,hu]
def uO:Array aC:=#[aU, .int .i64 8, .int .i64 8, .int .i64 4, .int .i64 12, .int .i64 4, .int .i64 16, .int .i64 4, .int .i64 20, .int .i64 44]
theorem D9(w:aA):aG prog 254 #[] w λe w'=>e= .returned (.slice w.heap.size 5 5)/\w'=w.alloc (.cells uO 384):=by
 go_enter func254,ntmps254
 go_wp2
 go_ret
 exact⟨rfl,rfl⟩
end Pa.Cp
end
namespace Pa.Cp
theorem uG(w:aA)(g:Nat)(v0 v1 v2 v3 v4:aC):w.grownBy (((((w.setCell (g,0) (v0)).setCell (g,1) (v1)).setCell (g,2) (v2)).setCell (g,3) (v3)).setCell (g,4) (v4)) (some g):=
 bC (bC (bC (bC (bC (bL w g) 0 v0) 1 v1) 2 v2) 3 v3) 4 v4
theorem VX(x n0 n1 c f l:Nat)(w:aA)(S:x<18446744073709551616)(F:oD.map (tQ · (x:Int))= [(n0:Int),(n1:Int),(c:Int),(f:Int),(l:Int)])(hs:n0<1000000000/\n1<1000000000/\c<1000000000/\f<1000000000)(q:Bool)(hq:sP n0 n1 c f l=q):
 aG prog 225 #[.int .u64 x] w λe w'=>e= .returned (if q then .tuple #[.agg #[n0,n1,c,f, .int .u64 l],aU] else .tuple #[.agg #[aU,aU,aU,aU,bD], .int .i64 21])/\aD w w w':=by
 have T:IntKind.i64.wrap (n0:Int)=n0:=by rw[IntKind.wrap_i64];omega
 have U:IntKind.i64.wrap (n1:Int)=n1:=by rw[IntKind.wrap_i64];omega
 have V:IntKind.i64.wrap (c:Int)=c:=by rw[IntKind.wrap_i64];omega
 have X:IntKind.i64.wrap (f:Int)=f:=by rw[IntKind.wrap_i64];omega
 have G:=aP (λW=>W6 n0 n1 c f l W aQ);rw[hq] at G;have O:aH (∀(W:aA) (A:Option aJ),Sl eF 2 W A oD->aG prog 160 #[.slice A 5 5, .int .u64 (x:Int)] W (XF eU 1 75 [(n0:Int),(n1:Int),(c:Int),(f:Int),(l:Int)] W)):=λW A h=>by rw[<-F];exact OY A oD x 5 W h cH aQ aQ
 clear F;have j:=aX w (aI #[aU,aU,aU,aU,bD] 365);have bk:=bF.new w 365 #[aU,aU,aU,aU,bD];go_enter func225,ntmps225
 go_wp2_with fail
 refine(D9 _).mono ?_;rintro e Y ⟨rfl,rfl⟩;have b:=Sl.aaC Li (w.alloc (aI #[aU,aU,aU,aU,bD] 365)) oD uO rfl 384;generalize w.alloc (aI #[aU,aU,aU,aU,bD] 365)=wa at *;replace j:=j.alloc j.size (aI uO 384);replace bk:=bk.alloc (aI uO 384);go_wp2_with fail
 refine(O.o _ _ b).mono ?_;rintro e Z ⟨A,k,rfl,own,hb⟩;replace bk:=bk.keep hb;replace j:=fI j aT hb;clear hb b;rcases own.shape with⟨_,u,_⟩|⟨g,rfl⟩
 .cases u
 have b:=own.sl yF;have P:=own.lt g rfl;have c0:=b.IA (i:=0) aT;have c1:=b.IA (i:=1) aT;have c2:=b.IA (i:=2) aT;have c3:=b.IA (i:=3) aT;have c4:=b.IA (i:=4) aT;simp only[ac5,ac0,acT] at c0 c1 c2 c3 c4;clear b own;go_wp2_with fail
 have m:=bE c0;have n:=bE c1;have p:=bE c2;have r:=bE c3;have s:=bE c4;refine bN (bP _) (λ_=>bP) [5] (λ_ v w=>FR (jA c0) 365 #[aU,aU,aU,aU,bD] v w) [21] [] 34 (bZ _) (λ_ _ _ h B=>bV h B) (λ_ d hd _ v w w' _ h B=>h.keep B) aV aV aZ ?_;repeat (first|(refine eK ?_)|(refine sF 5 [] aZ aZ aZ aZ (λγ w hC C=>?_) ?_;(simp only[cE];go_simp;exact pG (aX w _) ⟨_,rfl,Below.size hC,bF.new w _ _⟩);(try refine cI ?_)))
 refine dG ?_;intro γ w_ hb_ C;clear m n p r s;simp only[cE,Act.put,abP,abV,abU];refine dS ?_;obtain⟨g5,H,y,z⟩:=C 5 aT;simp only[H];clear C H;refine iP y hb_ z rfl 365 _ _ rfl #[n0,n1,c,f, .int .u64 l] rfl rfl rfl aV aV ?_;clear y hb_ z;intro w3 t D;refine cY ?_;simp only[Act.put];obtain⟨Q,a⟩:=D;replace bk:=bk.keep t;replace j:=fI j aT t;have I:=a.cell 0 n0 rfl;have J:=a.cell 1 n1 rfl;have K:=a.cell 2 c rfl;have L:=a.cell 3 f rfl;have M:=a.cell 4 (.int .u64 l) rfl;clear t;go_wp2_with fail
 refine(G.o _).mono ?_;rintro e N ⟨rfl,hb⟩;replace bk:=bk.keep hb;replace a:=a.keep hb;replace j:=fI j aT hb;clear hb I J K L M;have R:=bk.lt;have I:=a.cell 0 n0 rfl;have J:=a.cell 1 n1 rfl;have K:=a.cell 2 c rfl;have L:=a.cell 3 f rfl;have M:=a.cell 4 (.int .u64 l) rfl;have z0:=bk.cell 0 (.int .i64 0) rfl;have z1:=bk.cell 1 (.int .i64 0) rfl;have z2:=bk.cell 2 (.int .i64 0) rfl;have z3:=bk.cell 3 (.int .i64 0) rfl;have z4:=bk.cell 4 (.int .u64 0) rfl;have f0:=bk.frozen 0;have f1:=bk.frozen 1;have f2:=bk.frozen 2;have f3:=bk.frozen 3;have f4:=bk.frozen 4;cases q
 .go_wp2
  have E:=j.grown (uG N w (.int .i64 0) (.int .i64 0) (.int .i64 0) (.int .i64 0) (.int .u64 0)) j.size (λk hk=>by injection hk with hk;omega);exact bodyPost_ret (v:= .tuple #[.agg #[aU,aU,aU,aU,bD], .int .i64 21]) (by simp[results,results225,go_sem, *]) rfl ⟨rfl,E⟩
 .go_wp2
  have E:=j.grown (uG N w (.int .i64 n0) (.int .i64 n1) (.int .i64 c) (.int .i64 f) (.int .u64 l)) j.size (λk hk=>by injection hk with hk;omega);exact bodyPost_ret (v:= .tuple #[.agg #[n0,n1,c,f, .int .u64 l],aU]) (by simp[results,results225,go_sem, *]) rfl ⟨rfl,E⟩
end Pa.Cp
end
section
open Go.RowKit
open dL (En mK kK fi mE ld lk lH qH M7 pT BB JG JA)
open Fr (dK fO rU iV)
section
namespace Pa.Cp
def nN(L:List En)(a p:Int):Option (Int×Bool):=(L.find? (mK a p)).map λx=>(x.frame,x.write)
variable{L:List En}{p:Int}
theorem It{a:Int}(h:fi L a p=none):nN L a p=none:=by
 unfold nN;rw[List.find?_eq_none.2 λx b hk=>M7 h x b (kK.1 hk)];rfl
variable{i:Nat}
theorem Hm{a:Int}{x:En}(h:fi L a p=some i)(c:L[i]?=some x):nN L a p=some (x.frame,x.write):=by
 obtain⟨hi,hk,d⟩:=pT h;have e:L[i]=x:=by rw[abO hi] at c;injection c
 unfold nN;rw[List.find?_eq_some_iff_getElem.2 ⟨by rw[<-e];exact kK.2 hk,i,hi,e,λj b=>?_⟩]
 .rfl
 .have:=d j b;cases hb:mK a p L[j] with
  |false=>rfl
  |true=>exact absurd (kK.1 hb) this
theorem UJ(u:qH L){a:Int}{q:Int×Bool}:nN L a p=some q↔∃e∈L,(e.env=a/\e.cZ=p)/\(e.frame,e.write)=q:=by
 unfold nN;rw[Option.map_eq_some_iff];constructor
 .rintro⟨e,he,rfl⟩;exact⟨e,afM he,kK.1 (by simpa using List.find?_some he),rfl⟩
 .rintro⟨e,he,hk,rfl⟩;obtain⟨i,hi,rfl⟩:=acL he;refine⟨L[i],List.find?_eq_some_iff_getElem.2 ⟨kK.2 hk,i,hi,rfl,λj c=>?_⟩,rfl⟩;cases hb:mK a p L[j] with
  |false=>rfl
  |true=>
   have b:=kK.1 hb;exact absurd ⟨b.1.trans hk.1.symm,b.2.trans hk.2.symm⟩ (ad5.1 u j i aQ hi c)
theorem Nz{M:List En}(u:qH L)(v:qH M){a b q:Int}(h:∀r,(∃e∈L,(e.env=a/\e.cZ=p)/\(e.frame,e.write)=r)↔(∃e∈M,(e.env=b/\e.cZ=q)/\(e.frame,e.write)=r)):nN L a p=nN M b q:=by
 apply Option.ext;intro r;rw[UJ u,UJ v,h r]
theorem Da(u:qH L)(a p:Int):qH (lk L a p):=by
 unfold lk;cases hf:fi L a p with
 |none=>exact u
 |some i=>
  obtain⟨hi,_,_⟩:=pT hf;simp only[abO hi,afQ];exact JG (BB u i) (JA u hi)
theorem Rs(L:List En)(a p:Int):(lk L a p).length=L.length:=by
 unfold lk;cases hf:fi L a p with
 |none=>rfl
 |some i=>
  obtain⟨hi,_,_⟩:=pT hf;simp only[abO hi,afQ,ab6,adN,abS hi,acR,ac6];omega
theorem Qv(hi:i<L.length){e:En}:e∈L.eraseIdx i++ [L[i]]↔e∈L:=by
 rw[ab9,ab3,aeT];constructor
 .rintro(⟨j,b,_,rfl⟩|rfl)
  .exact abY _
  .exact abY _
 .intro he;obtain⟨j,b,rfl⟩:=acL he;by_cases a:j=i
  .subst a;exact .inr rfl
  .exact .inl ⟨j,b,a,rfl⟩
theorem Vb(u:qH L)(a p:Int):nN (lk L a p)=nN L:=by
 funext b q
 refine Nz (Da u a p) u λr=>?_
 unfold lk;cases hf:fi L a p with
 |none=>exact Iff.rfl
 |some i=>
  obtain⟨hi,_,_⟩:=pT hf;simp only[abO hi,afQ,Qv hi]
structure In where
 op:Nat
 a:Nat
 b:Nat
 c:Nat
 n:Nat
def FG(x:Nat):Option In:=if sP ((x%256:Nat):Int) ((x /256%16:Nat):Int) ((x /4096%16:Nat):Int) ((x /65536%16:Nat):Int) ((x /1048576:Nat):Int)=true then some ⟨x%256,x /256%16,x /4096%16,x /65536%16,x /1048576⟩ else none
def Q0(i:In):Prop:=i.op<=18/\i.a<=7/\i.b<=7/\i.c<=7/\i.n<=17592186044415
theorem Qa{x:Nat}{i:In}(h:FG x=some i):Q0 i:=by
 unfold FG at h;split at h
 .rename_i a;injection h with h;subst h;obtain⟨b,h1,c,d,e⟩:=Ib a;exact⟨(by omega:x%256<=18),(by omega:x /256%16<=7),(by omega:x /4096%16<=7),(by omega:x /65536%16<=7),(by omega:x /1048576<=17592186044415)⟩
 .cases h
structure St where
 R:List Int
 pc:Int
 s:dK
structure Tp where
 k:Int
 p:Int
 x:Int
def FX(R:List Int):Prop:=R.length=8/\∀v∈R,0<=v/\v<18446744073709551616
def rat(R:List Int)(i:Nat):Int:=(R[i]?).getD 0
def rk(op:Nat)(b c:Int):Int:=
 if op=2 then IntKind.u64.wrap (b+c) else if op=3 then IntKind.u64.wrap (b - c) else if op=4 then IntKind.u64.wrap (b *c)
 else if op=5 then b /c
 else if op=6 then IntKind.u64.wrap (BitVec.ofInt 64 b &&& BitVec.ofInt 64 c).toNat
 else if op=7 then IntKind.u64.wrap (BitVec.ofInt 64 b ||| BitVec.ofInt 64 c).toNat
 else if op=8 then IntKind.u64.wrap (BitVec.ofInt 64 b ^^^ BitVec.ofInt 64 c).toNat
 else if op=9 then IntKind.u64.wrap (b *2 ^ (c%64).toNat)
 else if op=10 then b /2 ^ (c%64).toNat
 else if b<c then 1 else 0
abbrev Tt:=Int->Option (Int×Bool)
def vU(b:Int)(n:Nat):Int:=IntKind.u64.wrap (b+n)
def KC(t:Tt)(ad:Int)(wr:Bool):Except (Int×Int) Int:=match t (ad /16) with
 |none=> .error (5,ad)
 |some q=>if wr=true/\q.2=false then .error (6,ad) else .ok q.1
def IT(t:Tt)(s:dK)(ad:Int):Except (Int×Int) Int:=match KC t ad false with
 | .error z=> .error z
 | .ok f=>if fO s f (ad%16)=0 then .ok (IntKind.u64.wrap (rU s f (ad%16))) else .error (5,ad)
def stM(t:Tt)(s:dK)(ad v:Int):Except (Int×Int) dK:=match KC t ad true with
 | .error z=> .error z
 | .ok f=>if fO s f (ad%16)=0 then .ok (iV s f (ad%16) (v%256)) else .error (5,ad)
def kT(t:Tt)(i:In)(m:St):Except (Int×Int) (St×Tp):=
 let ra:=rat m.R i.a
 let rb:=rat m.R i.b
 let rc:=rat m.R i.c
 if i.op=0 then .error (2,0)
 else if i.op=1 then .ok (⟨m.R.set i.a i.n,m.pc+1,m.s⟩,⟨0,0,0⟩)
 else if i.op=12 then match IT t m.s (vU rb i.n) with
  | .error z=> .error z
  | .ok v=> .ok (⟨m.R.set i.a v,m.pc+1,m.s⟩,⟨0,0,0⟩)
 else if i.op=13 then match stM t m.s (vU rb i.n) ra with
  | .error z=> .error z
  | .ok s=> .ok (⟨m.R,m.pc+1,s⟩,⟨0,0,0⟩)
 else if i.op=14 then .ok (⟨m.R,i.n,m.s⟩,⟨0,0,0⟩)
 else if i.op=15 then .ok (⟨m.R,if ra=0 then m.pc+1 else i.n,m.s⟩,⟨0,0,0⟩)
 else if i.op=16 then .ok (⟨m.R,m.pc+1,m.s⟩,⟨1,m.pc,ra⟩)
 else if i.op=17 then .ok (⟨m.R.set i.a (m.pc+1),i.n,m.s⟩,⟨0,0,0⟩)
 else if i.op=18 then(if 17592186044415<ra then .error (3,ra) else .ok (⟨m.R,ra,m.s⟩,⟨0,0,0⟩))
 else if i.op=5/\rc=0 then .error (4,0)
 else .ok (⟨m.R.set i.a (rk i.op rb rc),m.pc+1,m.s⟩,⟨0,0,0⟩)
def mG(t:Tt)(C:List Int)(m:St):Tp×St:=
 if m.pc<0\/(C.length:Int)<=m.pc then(⟨3,m.pc,0⟩,m)
 else match FG (rat C m.pc.toNat).toNat with
  |none=>(⟨3,m.pc,rat C m.pc.toNat⟩,m)
  |some i=>match kT t i m with
   | .error z=>(⟨z.1,m.pc,z.2⟩,m)
   | .ok q=>(q.2,q.1)
def nH(t:Tt)(C:List Int):Nat->Nat->St->Tp×Nat×St
 |0,n,m=>(⟨0,0,0⟩,n,m)
 |k+1,n,m=>if(mG t C m).1.k=0 then nH t C k (n+1) (mG t C m).2 else if(mG t C m).1.k=1 then((mG t C m).1,n+1,(mG t C m).2) else((mG t C m).1,n,(mG t C m).2)
theorem U0(t:Tt)(C:List Int):∀(k n:Nat) (m:St),n<=(nH t C k n m).2.1/\(nH t C k n m).2.1<=n+k
 |0,n,m=>⟨abQ _,abQ _⟩
 |k+1,n,m=>by
  unfold nH;split
  .have:=U0 t C k (n+1) (mG t C m).2;omega
  .split <;> simp <;> omega
end Pa.Cp
end
end
section
open Go.RowKit Go.Lib
section
namespace dL
def eE(e:En):List aC:= [.int .i64 e.env, .int .i64 e.cZ, .int .i64 e.frame, .bool e.write]
theorem rS:eW eE 4:=⟨λ_=>rfl,λx u hu=>by simp[eE] at hu;rcases hu with rfl|rfl|rfl|rfl <;> rfl⟩
theorem T8:(prog.info? 396).map (λi=>(i.zero,i.size,i.bytes))=some (some (.agg #[aU,aU,aU,false]),4,32):=aV
theorem Yn:jR prog 312 396 4 32:=fX underlying312 T8 rfl aQ
variable{w:aA}{A:Option aJ}{i:Nat}
theorem _root_.Go.Proofs.YtacgiflhgdaeaaaGreat.Sl.YA{xs:List En}(h:Sl eE 4 w A xs)(hi:i<xs.length):
 ∃b off,A=some ⟨b,off,none⟩/\w.cell? ⟨b,off+i *4,none⟩=some (.int .i64 xs[i].env)/\w.cell? ⟨b,off+i *4+1,none⟩=some (.int .i64 xs[i].cZ)/\w.cell? ⟨b,off+i *4+1+1,none⟩=some (.int .i64 xs[i].frame)/\w.cell? ⟨b,off+i *4+1+1+1,none⟩=some (.bool xs[i].write):=by
 obtain⟨b,off,a,hc⟩:=h.at_ hi;refine⟨b,off,a,?_,?_,?_,?_⟩
 .simpa using hc 0 _ (show(eE xs[i])[0]?=some (.int .i64 xs[i].env) from rfl)
 .simpa[acY] using hc 1 _ (show(eE xs[i])[1]?=some (.int .i64 xs[i].cZ) from rfl)
 .simpa[acY] using hc 2 _ (show(eE xs[i])[2]?=some (.int .i64 xs[i].frame) from rfl)
 .simpa[acY] using hc 3 _ (show(eE xs[i])[3]?=some (.bool xs[i].write) from rfl)
def Tb(w:aA)(g:Nat)(A:Option aJ)(c:Nat)(L:List En)(h m:Int):Prop:=
 bF w g 314 #[(A,L.length,c),h,m]/\bH eE 4 w (g+1) 396 A c L
variable{w':aA}{g:Nat}{L:List En}{h:Int}
theorem Tb.keep{c:Nat}{m:Int}(t:Tb w g A c L h m)(hb:aD w w w'):Tb w' g A c L h m:=⟨t.1.keep hb,t.2.keep hb⟩
theorem tT(a p:Int)(e:En)(b1 b2:Nat)(w:aA)(c1:w.cell? (b1,0)=some (.int .i64 a))(c2:w.cell? (b2,0)=some (.int .i64 p)):
 aG prog 275 #[.agg #[e.env,e.cZ,e.frame,e.write], .pointer b1, .pointer b2] w λr w'=>r= .returned (.bool (mK a p e))/\aD w w w':=by
 have h1:=bK (aX w (aI #[e.env,e.cZ,e.frame,e.write] 396)) c1;have d:=bK (aX w (aI #[e.env,e.cZ,e.frame,e.write] 396)) c2;clear c1 c2;cases c:(e.env==a)
 .have b:aH (mK a p e=false):=by unfold aH mK;rw[c];rfl
  go_enter func275,ntmps275
  go_wp2
  go_ret
  exact⟨jL b.o.symm,aX _ _⟩
 .have b:aH (mK a p e=(e.cZ==p)):=by unfold aH mK;rw[c];rfl
  go_enter func275,ntmps275
  go_wp2
  go_ret
  exact⟨jL b.o.symm,aX _ _⟩
theorem DM:∀args w,(callFunc 275 args).run prog w= .ok (.enter 275 args) w:=enters_of func275 aV rfl
variable{p:Int}
theorem CY{a:Int}{k:Nat}(hk:k<L.length)(h:mK a p L[k]=true)(c:∀j,(b:j<k)->mK a p L[j]=false):xN L a p=k:=by
 unfold xN fi;rw[acB.2 ⟨hk,h,λj b=>by rw[c j b];simp⟩]
theorem zD{a:Int}(h:∀j,(b:j<L.length)->mK a p L[j]=false):xN L a p= -1:=by
 unfold xN fi;rw[ac1.2 (λx c=>by obtain⟨j,b,rfl⟩:=acL c;exact h j b)]
theorem uI(A:Option aJ)(L:List En)(c:Nat)(a p:Int)(b1 b2:Nat)(w:aA)(hs:Sl eE 4 w A L)(hl:L.length<=1000)(c1:w.cell? (b1,0)=some (.int .i64 a))(c2:w.cell? (b2,0)=some (.int .i64 p)):
 aG prog 274 #[(A,L.length,c), .func (.func 275) #[] #[.pointer b1, .pointer b2]] w λe w'=>e= .returned (.int .i64 (xN L a p))/\aD w w w':=by
 have t:=DM;go_enter func274,ntmps274
 go_wp2
 go_loopw [5,8] (λ_ q wr=>∃k:Nat,k<=L.length/\q= .int .i64 k/\aD w w wr/\aH (∀j,(d:j<L.length)->j<k->mK a p L[j]=false)) (λ_ i _=>L.length - (intOf i).toNat)
 case atStart=>exact⟨0,ab0 _,rfl,Below.refl _ w,λj d h=>absurd h (adY _)⟩
 case round=>
  obtain⟨k,hk,rfl,f,l⟩:=hrel;by_cases g:k<L.length
  .obtain⟨b,off,rfl,u,v,x,z⟩:=(hs.keep f).YA g;have B:(0:Int)<=k:=aQ;have C:(k:Int)<(L.length:Int):=aQ;have hc:=tT a p L[k] b1 b2 wr (bK f c1) (bK f c2);have HQ:aH (mK a p L[k]=true->xN L a p=k):=λh=>CY g h (λj d=>l.o j aQ d)
   have r:aH (mK a p L[k]=false->∀j,(d:j<L.length)->j<k+1->mK a p L[j]=false):=λh j d s=>by
    by_cases he:j=k
    .subst he;exact h
    .exact l.o j d aQ
   clear l;generalize L[k]=y at *;cases hq:mK a p y with
   |true=>
    rw[hq] at hc;have m:=aP (HQ.o hq);go_wp2_with(go_at_fn 275;(with_reducible refine hc.mono ?_);rintro e w' ⟨rfl,hb⟩)
    go_ret
    exact⟨lT m.o.symm,fI f (abQ _) hb⟩
   |false=>
    rw[hq] at hc;have n:=aP (r.o hq);go_wp2_with(go_at_fn 275;(with_reducible refine hc.mono ?_);rintro e w' ⟨rfl,hb⟩)
    go_roundw
    case rel=>exact⟨k+1,aQ,by go_num,fI f (abQ _) hb,n.o⟩
    case measure=>simp[intOf];omega
  .obtain rfl:k=L.length:=aQ;go_wp2
   go_ret
   exact⟨lT (zD (λj d=>l.o j d d)).symm,f⟩
end dL
end
section
namespace dL
theorem rK(g:Nat)(A:Option aJ)(c:Nat)(L:List En)(h m a p:Int)(w:aA)(d:Tb w g A c L h m)(hl:L.length<=1000):
 aG prog 245 #[.pointer g,a,p] w λe w'=>e= .returned (.int .i64 (xN L a p))/\aD w w w':=by
 have b:aD w w ((w.alloc (aI #[a] 3)).alloc (aI #[p] 3)):=(aX _ _).alloc aT _;have t2:=d.keep b;have c0:=t2.1.cell 0 (.slice A L.length c) rfl;have hc:=uI A L c a p w (w.heap.size+1) _ (t2.2.sl rS) hl (bK (aX _ _) ((bF.new w 3 #[a]).cell 0 _ rfl)) ((bF.fH (w.alloc (aI #[a] 3)) 3 #[p] (g:=w.heap.size+1) aT).cell 0 _ rfl);go_enter func245,ntmps245
 go_wp2_with(go_at_call 274;(with_reducible refine hc.mono ?_);rintro e w' ⟨rfl,hb⟩)
 go_ret
 exact⟨rfl,fI b (abQ _) hb⟩
theorem TV:∀w,(zeroValue 396).run prog w= .ok (.agg #[aU,aU,aU,false]) w:=λw=>by kernel_rfl
variable{A:Option aJ}{n m:Nat}
theorem fK{c:Nat}(h:n=m):Ending.returned (.slice A n c)= .returned (.slice A m c):=by rw[h]
theorem lV(g c i k base:Nat)(L:List En)(w:aA)(own:bH eE 4 w base 396 g c L)(r:L.length=i+1+k)(hl:L.length<=1000):
 aG prog 276 #[.slice g L.length c,i, .int .i64 ((i:Int)+1)] w λe w'=>e= .returned (.slice g (L.eraseIdx i).length c)/\bH eE 4 w' base 396 g c (L.eraseIdx i)/\w.grownBy w' (some g):=by
 obtain⟨i0,n,G,p,H⟩:=info_parts T8;have s:(L.eraseIdx i).length=i+k:=by rw[adN,abS aQ];omega
 obtain⟨_,_,_,v,x,_,_⟩:=eY own;simp only[maxLen] at x;obtain⟨news,b⟩:∃news,news=(L.drop (i+1)).flatMap eE:=⟨_,rfl⟩
 have s1:aH (news.length=k *4):=by unfold aH;rw[b,fF rS.len,ad7];omega
 have s2:aH (∀u∈news,u.oneCell'=true):=λu hu=>rG rS _ u (by rw[<-b];exact hu)
 have D:aH (∀t,t<news.length->(w.drew.cell? ⟨g,0+i *4+t,none⟩).isSome=true/\w.drew.frozen? ⟨g,0+i *4+t,none⟩=false):=λt E=>by
  rw[s1.o] at E;exact dD own _ aQ
 have I:aH (∀t u,news[t]?=some u->w.drew.cell? ((⟨g,(i+1) *4,none⟩:aJ).add t)=some u):=λt u hu=>by
  have E:t<k *4:=by rw[<-s1.o];exact(ab7.1 hu).1
  have hF:=oR rS.len L (i+1);rw[b,hF,adF] at hu;rw[Addr.add_lit];obtain⟨cur,_,J,_,_,_,K⟩:=eY own;show w.cell? _=_;rw[cell_of_row w g _ cur _ (0,0) J,<-hu,<-K,acN,abS aQ,acH]
 obtain⟨m,h⟩:∃m,m=w.drew.setCells g (0+i *4) news:=⟨_,rfl⟩
 have F:=aP h;have y:=tS (w:=w.drew) rS.len own.drew i k r [.int .i64 0, .int .i64 0, .int .i64 0, .bool false] rfl;rw[<-b,show i *4=0+i *4 by omega,<-h] at y;have a:=aP y;have d:∀j,j<c *4->(m.cell? ⟨g,j,none⟩).isSome=true/\m.frozen? ⟨g,j,none⟩=false:=λj z=>by
  rw[h];have:=dD own j z;exact⟨Go.World.isSome_setCells g _ _ _ _ this.1,by rw[World.frozen?_setCells];exact this.2⟩
 have l:∀ty q A,q=1->(Builtin.clear_ #[312] ty #[.slice (some ⟨g,(i+k) *4,none⟩) q A]).run prog m= .ok (.tuple #[]) (m.setCells g ((i+k) *4) [.int .i64 0, .int .i64 0, .int .i64 0, .bool false]):=λty q A B=>
  lE m _ 396 ty _ underlying312 TV [.int .i64 0, .int .i64 0, .int .i64 0, .bool false] aV cH g ((i+k) *4) q A B (λj z=>d _ (by simp at z;omega))
 clear h y d b;rw[r];rw[r] at v;have M:i<=c:=aQ;have N:i+1<=c:=aQ;have O:(0:Int)<=i+1:=aQ;have P:(i:Int)+1<=(i:Int)+1+(k:Int):=aQ;by_cases hce:c=i+1
 .obtain rfl:k=0:=aQ;obtain rfl:news= []:=acQ (by rw[s1.o]);have C:aH (∀t u,([]:List aC)[t]?=some u->w.drew.cell? ((⟨g,0,none⟩:aJ).add t)=some u):=λt u hu=>by simp at hu
  subst hce;have f:=λty=>l ty (i+1 - i) (i+1 - i) aQ
  simp only[acD] at f s⊢;have Q:(i:Int)<=(i:Int)+1:=aQ;have R:i+1 - i=1:=aQ;rw[R] at f;clear l;go_enter func276,ntmps276
  go_wp2_with fail
  go_region_law (refine step_append_room rfl (.tmp 22) (.tmp 25) 312 rfl 396 i0 4 underlying312 n p g 0 i (i+1) (by simp[Act.eval,Act.put]) ⟨g,0,none⟩ 0 0 [] (by simp[Act.eval,Act.put]) s1.o C.o s2.o aQ D.o ?_;rw[<-F.o])
  go_wp2
  go_ret
  exact⟨fK aQ,a.o.1,⟨a.o.2.os,a.o.2.tape,a.o.2.output,a.o.2.size,a.o.2.block⟩⟩
 .have f:=λty=>l ty (i+1+k - (i+k)) (c - (i+k)) aQ
  clear l;go_enter func276,ntmps276
  go_wp2_with fail
  go_region_law (refine step_append_room rfl (.tmp 22) (.tmp 25) 312 rfl 396 i0 4 underlying312 n p g 0 i c (by simp[Act.eval,Act.put]) ⟨g,(i+1) *4,none⟩ k (c - (i+1)) news (by simp[Act.eval,Act.put]) s1.o I.o s2.o aQ D.o ?_;rw[<-F.o])
  go_wp2
  go_ret
  exact⟨fK aQ,a.o.1,⟨a.o.2.os,a.o.2.tape,a.o.2.output,a.o.2.size,a.o.2.block⟩⟩
end dL
end
section
namespace dL
structure Tw(a w:aA)(g:Nat)(r:Option Nat):Prop where
 os:w.os=a.os
 tape:w.tape=a.tape
 output:w.output=a.output
 size:a.heap.size<=w.heap.size
 block:∀i,i<a.heap.size->i≠g->some i≠r->w.heap[i]?=a.heap[i]?
theorem Tw.refl(w:aA)(g:Nat)(r:Option Nat):Tw w w g r:=⟨rfl,rfl,rfl,abQ _,λ_ _ _ _=>rfl⟩
variable{w:aA}{g:Nat}{r:Option Nat}
theorem Tw.cD{a:aA}(h:aD a a w):Tw a w g r:=⟨h.os,h.tape,h.output,h.size,λi hi _ _=>h.block i hi⟩
variable{w':aA}
theorem Tw.trans{a:aA}(h:Tw a w g r)(k:Tw w w' g r):Tw a w' g r:=
 ⟨k.os.trans h.os,k.tape.trans h.tape,k.output.trans h.output,abX h.size k.size,λi hi h1 b=>(k.block i (abR hi h.size) h1 b).trans (h.block i hi h1 b)⟩
theorem Tw.grown{a:aA}(h:a.grownBy w r):Tw a w g r:=⟨h.os,h.tape,h.output,h.size,λi hi _ b=>h.block i hi b⟩
theorem Tw.cB{a:aA}(h:Tw a w g r)(i:Nat)(u:aC):Tw a (w.setCell (g,i) u) g r:=
 h.trans ⟨rfl,rfl,rfl,by simp[World.setCell],λk _ h1 _=>Below.heap_setCell w ⟨g,i,none⟩ u k h1⟩
variable{q:Nat}{cs:Array aC}
theorem Tw.aY{a:aA}(h:Tw a w g r){t:aN}(hc:bF a q t cs)(h1:q≠g)(b:some q≠r):bF w q t cs:=(h.block q hc.lt h1 b).trans hc
variable{A:Option aJ}{L:List En}{h:Int}
theorem Tb.J0{c:Nat}{m:Int}(t:Tb w g A c L h m):∀q,aY A=some q->g<q/\q<w.heap.size:=λq hq=>by
 have:=t.2.lt q hq;omega
variable{A':Option aJ}{c':Nat}{L':List En}
theorem Tb.slot{c:Nat}{m:Int}(t:Tb w g A c L h m)(hb:bF w' g 314 #[(A,L.length,c),h,m])
 (ho:bH eE 4 w' (g+1) 396 A' c' L'):Tb (w'.setCell (g,0) (.slice A' L'.length c')) g A' c' L' h m:=by
 refine⟨hb.cB 0 _,ho.kept (bC (bL w' g) 0 _) ?_⟩;cases e:Go.Proofs.YtacgiflhgdaeaaaGreat.aY A' with
 |none=>exact .inl rfl
 |some q=>exact .inr (λa=>by injection a with a;have:=(ho.lt q e).1;omega)
variable{b:Nat}
theorem Tb.only{c:Nat}{m:Int}(t:Tb w g A c L h m)(a:w.grownBy w' (some b))(h1:g≠b)(d:aY A≠some b):Tb w' g A c L h m:=
 ⟨t.1.grown a (by simpa using h1),t.2.kept a (.inr d)⟩
def B7(w:aA)(b:Nat)(x:En):aA:=(((w.setCell (b,0) x.env).setCell (b,1) x.cZ).setCell (b,2) x.frame).setCell (b,3) (.bool x.write)
theorem mZ(w:aA)(b:Nat)(x:En):w.grownBy (B7 w b x) (some b):=bC (bC (bC (bC (bL w b) 0 _) 1 _) 2 _) 3 _
variable{v0 v1 v2 v3:aC}
theorem kI(x:En){t:aN}(h:bF w b t #[v0,v1,v2,v3]):bF (B7 w b x) b t #[x.env,x.cZ,x.frame,x.write]:=
 (((h.cB 0 _).cB 1 _).cB 2 _).cB 3 _
theorem Tw.only{a:aA}(h:Tw a w g r)(k:w.grownBy w' (some b))(hb:a.heap.size<=b):Tw a w' g r:=
 ⟨k.os.trans h.os,k.tape.trans h.tape,k.output.trans h.output,abX h.size k.size,λi hi h1 c=>(k.block i (abR hi h.size) bX).trans (h.block i hi h1 c)⟩
def Kt(g:Nat)(A:Option aJ)(c:Nat)(L:List En)(h m:Int)(x:En)(w:aA)(e:aM)(w':aA):Prop:=e= .returned (.agg #[x.env,x.cZ,x.frame,x.write])/\Tb w' g A c L h m/\Tw w w' g (aY A)
variable{i:Nat}
theorem EH{base:Nat}{e:aN}{c:Nat}(h:bH eE 4 w base e b c L)(hi:i<L.length):
 w.cell? (b,i *4)=some (.int .i64 L[i].env)/\w.cell? (b,i *4+1)=some (.int .i64 L[i].cZ)/\w.cell? (b,i *4+1+1)=some (.int .i64 L[i].frame)/\w.cell? (b,i *4+1+1+1)=some (.bool L[i].write):=by
 obtain⟨l,off,a,d,f,g,j⟩:=(h.sl rS).YA hi;injection a with a;injection a with h1 k;subst h1 k;simp only[acT] at d f g j;exact⟨d,f,g,j⟩
theorem SE(g:Nat)(A:Option aJ)(c:Nat)(L:List En)(h m:Int)(i:Nat)(w:aA)(s:Tb w g A c L h m)(hl:L.length<=1000)(hi:i<L.length):
 aG prog 246 #[.pointer g,i] w (Kt g A c (L.eraseIdx i) h m L[i] w):=by
 have l:=s.J0;rcases s.2.shape with⟨rfl,rfl,rfl⟩|⟨q,rfl⟩
 .exact absurd hi aT
 .obtain⟨F,G⟩:=l q rfl;clear l;have j:=aX w (aI #[aU,aU,aU,false] 396);have t2:=s.keep j;have c0:=t2.1.cell 0 (.slice q L.length c) rfl;obtain⟨H,I,J,K⟩:=EH t2.2 hi;have r1:=bF.new w 396 #[aU,aU,aU,false];have M:(0:Int)<=i:=aQ;have N:(i:Int)<(L.length:Int):=aQ;generalize L[i]=x at *;obtain⟨k,hk⟩:∃k,L.length=i+1+k:=⟨L.length - i - 1,aQ⟩
  have d:=aX (w.alloc (aI #[aU,aU,aU,false] 396)) (aI #[x.env,x.cZ,x.frame,x.write] 396);have HD:=aP (λW O=>lV q c i k (g+1) L W O hk hl);have t3:=aP (t2.keep d);have y:=t3.o.1.cell 0 (.slice q L.length c) rfl;have z:=bF.fH (w.alloc (aI #[aU,aU,aU,false] 396)) 396 #[x.env,x.cZ,x.frame,x.write] (g:=w.heap.size+1) aT;have B:=r1.keep d;have n:aD w w _:=fI j (abQ _) d;clear hk t2 r1 j s hi;go_enter func246,ntmps246
  go_wp2_with fail
  (refine(HD.o _ t3.o.2).mono ?_)
  rintro e C ⟨rfl,f,a⟩;have t:=t3.o.1.grown a bX;have D:=B.grown a bX;have E:=z.grown a bX;have f4:=t.frozen 0;have z4:=t.cell 0 (.slice q L.length c) rfl;have P:=aP (t3.o.slot t f);have b:=D.r8 (p:=⟨g,0,none⟩) bX (.slice q (L.eraseIdx i).length c);have r:=E.r8 (p:=⟨g,0,none⟩) bX (.slice q (L.eraseIdx i).length c);have Q:aH (Tw w (C.setCell (g,0) (.slice q (L.eraseIdx i).length c)) g (aY q)):=((Tw.cD n).trans (Tw.grown a)).cB 0 _;have U:=r.cell 0 x.env rfl;have V:=r.cell 1 x.cZ rfl;have X:=r.cell 2 x.frame rfl;have Y:=r.cell 3 (.bool x.write) rfl;have u:=aP b;have v0:=b.cell 0 (.int .i64 0) rfl;have v1:=b.cell 1 (.int .i64 0) rfl;have v2:=b.cell 2 (.int .i64 0) rfl;have v3:=b.cell 3 (.bool false) rfl;have g0:=b.frozen 0;have g1:=b.frozen 1;have g2:=b.frozen 2;have g3:=b.frozen 3;clear b r D E t f a t3 y c0 H I J K B z HD n d;generalize (L.eraseIdx i)=R at *;generalize S:C.setCell (g,0) (.slice q R.length c)=T at *;go_wp2_with fail
  obtain⟨d0,d1,d2,d3⟩:_/\_/\_/\_:=⟨(kI x u.o).cell 0 x.env rfl,(kI x u.o).cell 1 x.cZ rfl,(kI x u.o).cell 2 x.frame rfl,(kI x u.o).cell 3 (.bool x.write) rfl⟩
  change bodyPost _ _ _ _ _ (B7 T w x)
  exact bodyPost_ret (v:= .agg #[x.env,x.cZ,x.frame,x.write]) (by simp[results,results246,go_sem,d0,d1,d2,d3]) rfl ⟨rfl,P.o.only (mZ _ _ _) aQ (by simp[aY];omega),Q.o.only (mZ _ _ _) (abQ _)⟩
end dL
end
namespace dL
def Xn(g:Nat)(A0:Option aJ)(L:List En)(h m:Int)(w:aA)(e:aM)(w':aA):Prop:=∃(y:En) (b:Bool) (A:Option aJ) (c:Nat),e= .returned (.tuple #[.agg #[y.env,y.cZ,y.frame,y.write],b,aU])/\Tb w' g A c L h m/\Tw w w' g (aY A0)/\(aY A=aY A0\/∀q,aY A=some q->w.heap.size<=q)
theorem Io(L:List En)(X:En):(mE L X).length<=L.length:=by
 unfold mE;cases fi L X.env X.cZ with
 |none=>simp only;split <;> simp[aeL]
 |some i=>exact aeL _ _
def GR:En:=⟨0,0,0,false⟩
theorem Po(X:En)(g:Nat)(w:aA)(d:lH X=false):
 aG prog 210 #[.pointer g, .agg #[X.env,X.cZ,X.frame,X.write]] w λe w'=>e= .returned (.tuple #[.agg #[aU,aU,aU,false],false, .int .i64 1])/\aD w w w':=by
 have c:=aP (λW=>tW X W);rw[d] at c;have b:aD w w ((w.alloc (aI #[X.env,X.cZ,X.frame,X.write] 396)).alloc (aI #[aU,aU,aU,false] 396)):=(aX _ _).alloc aT _;have r1:=bF.fH (w.alloc (aI #[X.env,X.cZ,X.frame,X.write] 396)) 396 #[aU,aU,aU,false] (g:=w.heap.size+1) aT;go_enter func210,ntmps210
 go_wp2_with fail
 refine(c.o _).mono ?_;rintro e f ⟨rfl,hb⟩;replace b:=fI b (abQ _) hb;replace r1:=r1.keep hb;have a:=aP r1;have v0:=r1.cell 0 (.int .i64 0) rfl;have v1:=r1.cell 1 (.int .i64 0) rfl;have v2:=r1.cell 2 (.int .i64 0) rfl;have v3:=r1.cell 3 (.bool false) rfl;have g0:=r1.frozen 0;have g1:=r1.frozen 1;have g2:=r1.frozen 2;have g3:=r1.frozen 3;clear r1 hb;go_wp2_with fail
 obtain⟨d0,d1,d2,d3⟩:_/\_/\_/\_:=⟨(kI GR a.o).cell 0 (.int .i64 0) rfl,(kI GR a.o).cell 1 (.int .i64 0) rfl,(kI GR a.o).cell 2 (.int .i64 0) rfl,(kI GR a.o).cell 3 (.bool false) rfl⟩
 change bodyPost _ _ _ _ _ (B7 f (w.heap.size+1) GR)
 exact bodyPost_ret (v:= .tuple #[.agg #[aU,aU,aU,false],false, .int .i64 1]) (by simp[results,results210,go_sem,d0,d1,d2,d3]) rfl ⟨rfl,LA b (mZ _ _ _) aQ⟩
theorem Fi(X:En)(g:Nat)(A:Option aJ)(c:Nat)(L:List En)(h m:Int)(w:aA)(hX:lH X=true)(r:Tb w g A c L h m)(hl:L.length<=100):
 aG prog 210 #[.pointer g, .agg #[X.env,X.cZ,X.frame,X.write]] w (Xn g A (ld L X) h m w):=by
 have Y:=aP (λW=>tW X W);rw[hX] at Y;have M:aD w w ((w.alloc (aI #[X.env,X.cZ,X.frame,X.write] 396)).alloc (aI #[aU,aU,aU,false] 396)):=(aX _ _).alloc aT _;have d:=bF.fH (w.alloc (aI #[X.env,X.cZ,X.frame,X.write] 396)) 396 #[aU,aU,aU,false] (g:=w.heap.size+1) aT;have f:=(bF.new w 396 #[X.env,X.cZ,X.frame,X.write]).alloc (aI #[aU,aU,aU,false] 396);have D:=r.J0;have hgw:g<w.heap.size:=r.1.lt;go_enter func210,ntmps210
 go_wp2_with fail
 refine(Y.o _).mono ?_;rintro e Z ⟨rfl,hb⟩;replace M:=fI M (abQ _) hb;replace d:=d.keep hb;replace f:=f.keep hb;have hz2:w.heap.size+1<Z.heap.size:=d.lt;have k:=M.alloc M.size (aI #[aU,aU,aU,false] 396);replace d:=d.alloc (aI #[aU,aU,aU,false] 396);replace f:=f.alloc (aI #[aU,aU,aU,false] 396);have a:=bF.new Z 396 #[aU,aU,aU,false];have x0:=f.cell 0 X.env rfl;have x1:=f.cell 1 X.cZ rfl;have HP:=aP (λW hW=>rK g A c L h m X.env X.cZ W hW aQ);clear hb Y;go_wp2_with fail
 refine(HP.o _ (r.keep k)).mono ?_;rintro e w3 ⟨rfl,hb⟩;replace k:=fI k (abQ _) hb;replace d:=d.keep hb;replace f:=f.keep hb;replace a:=a.keep hb;have t3:=r.keep k;clear hb x0 x1 r M;generalize Z.heap.size=E at *;go_upto_if 25 with(fail)
 go_cut [8,9] (λs8 s9 N=>∃(b:Bool) (y:En),s8= .bool b/\Tb N g A c (mE L X) h m/\Tw w N g (aY A)/\bF N w.heap.size 396 #[X.env,X.cZ,X.frame,X.write]/\bF N (w.heap.size+1) 396 #[aU,aU,aU,false]/\bF N E 396 #[y.env,y.cZ,y.frame,y.write])
 case first=>
  have F:=aP D;have O:∀q,w.heap.size<=q->some q≠aY A:=λq hq e=>by have:=F.o q e.symm;omega
  have j:=aP O;clear O D;have rest:=λ(i:Nat) (hi:i<L.length) (W:aA) (hR:Kt g A c (L.eraseIdx i) h m L[i] w3 (.returned (.agg #[.int .i64 L[i].env, .int .i64 L[i].cZ, .int .i64 L[i].frame, .bool L[i].write])) W)=>(show Tb (B7 W E L[i]) g A c (L.eraseIdx i) h m/\Tw w (B7 W E L[i]) g (aY A)/\bF (B7 W E L[i]) w.heap.size 396 #[X.env,X.cZ,X.frame,X.write]/\bF (B7 W E L[i]) (w.heap.size+1) 396 #[aU,aU,aU,false]/\bF (B7 W E L[i]) E 396 #[.int .i64 L[i].env, .int .i64 L[i].cZ, .int .i64 L[i].frame, .bool L[i].write] from by
   obtain⟨_,r,hw⟩:=hR;refine⟨r.only (mZ _ _ _) aQ (aeF (j.o E aQ)),((Tw.cD k).trans hw).only (mZ _ _ _) aQ,?_,?_,?_⟩
   .exact(hw.aY f aQ (j.o _ aQ)).grown (mZ _ _ _) bX
   .exact(hw.aY d aQ (j.o _ aQ)).grown (mZ _ _ _) bX
   .exact kI _ (hw.aY a aQ (j.o _ aQ)))
  have I:=aP rest;have u:=λ(i:Nat) (W:aA) (hw:Tw w3 W g (aY A))=>(hw.aY a aQ (j.o _ aQ))
  have P:=aP u;clear rest u;have c0:=t3.1.cell 0 (.slice A L.length c) rfl;have K:=dE t3 f (And.intro d a);clear t3 f d a;cases hf:fi L X.env X.cZ with
  |none=>
   have hp:xN L X.env X.cZ= -1:=by unfold xN;rw[hf]
   rw[hp];by_cases Q:16<=L.length
   .have R:aH (mE L X=L.eraseIdx 0):=by unfold aH mE;rw[hf];simp only;rw[abS Q]
    have hi:0<L.length:=aQ;have S:(16:Int)<=(L.length:Int):=aQ;go_wp2_with fail
    refine(SE g A c L h m 0 _ K.o.1 aQ hi).mono ?_;intro e W l;have z:=l;obtain⟨rfl,_,hw⟩:=z;have HQ:=aP (I.o 0 hi W l);have a:=P.o 0 W hw;generalize L[0]=x at *;have v0:=a.cell 0 (.int .i64 0) rfl;have v1:=a.cell 1 (.int .i64 0) rfl;have v2:=a.cell 2 (.int .i64 0) rfl;have v3:=a.cell 3 (.bool false) rfl;have g0:=a.frozen 0;have g1:=a.frozen 1;have g2:=a.frozen 2;have g3:=a.frozen 3;clear a hw l c0;go_wp2_with fail
    go_meet
    rw[R.o];exact⟨true,x,rfl,HQ.o⟩
   .have R:aH (mE L X=L):=by unfold aH mE;rw[hf];simp only;rw[abT Q]
    have S:¬(16:Int)<=(L.length:Int):=aQ;go_wp2_with fail
    go_meet
    rw[R.o];exact⟨false,GR,rfl,K.o.1,Tw.cD k,K.o.2.1,K.o.2.2.1,K.o.2.2.2⟩
  |some i=>
   have hp:xN L X.env X.cZ=i:=by unfold xN;rw[hf]
   rw[hp];obtain⟨hi,hxx⟩:=pT hf;clear hxx;have R:aH (mE L X=L.eraseIdx i):=by unfold aH mE;rw[hf]
   clear hf;have hi0:(0:Int)<=i:=aQ;go_wp2_with fail
   refine(SE g A c L h m i _ K.o.1 aQ hi).mono ?_;intro e W l;have z:=l;obtain⟨rfl,_,hw⟩:=z;have HQ:=aP (I.o i hi W l);have a:=P.o i W hw;generalize L[i]=x at *;have v0:=a.cell 0 (.int .i64 0) rfl;have v1:=a.cell 1 (.int .i64 0) rfl;have v2:=a.cell 2 (.int .i64 0) rfl;have v3:=a.cell 3 (.bool false) rfl;have g0:=a.frozen 0;have g1:=a.frozen 1;have g2:=a.frozen 2;have g3:=a.frozen 3;clear a hw l c0;go_wp2_with fail
   go_meet
   rw[R.o];exact⟨true,x,rfl,HQ.o⟩
 case rest=>
  clear t3 f d a HP k;obtain⟨b,y,rfl,r,hw,f,d,a⟩:=hcut;have hl2:=Io L X;have HLD:aH (ld L X=mE L X++ [X]):=rfl;generalize ld L X=L2 at *;generalize mE L X=s at *;have hl1:s.length<=100:=aQ;clear hl2 hl;have F:=aP D;have j:aH (∀q,w.heap.size<=q->some q≠aY A):=λq hq e=>by have:=F.o q e.symm;omega
  clear D;have hb3:w.heap.size<wc.heap.size:=f.lt;have hgc:g<wc.heap.size:=r.1.lt;have c0:=r.1.cell 0 (.slice A s.length c) rfl;have x0:=f.cell 0 X.env rfl;have x1:=f.cell 1 X.cZ rfl;have x2:=f.cell 2 X.frame rfl;have x3:=f.cell 3 (.bool X.write) rfl;have B:=aX wc.drew (aI #[X.env,X.cZ,X.frame,X.write] 396);have ta:=Tb.keep (w:=wc.drew) r B;have G:=aP ta;have T:=aP B;have H7:=aP (bF.keep (w:=wc.drew) a B);have H4:=aP (bF.keep (w:=wc.drew) d B);have U:=aP hw;clear B ta a d f hw r;go_wp2_with fail
  go_region_law (refine kM _ rfl (.tmp 41) (.tmp 43) rfl Yn rS (base:=g+1) (xs:=s) G.o.2 (n:=s.length) rfl rfl (m:=1) rfl (ys:= [X]) rfl (Sl.fH rS wc.drew X _ rfl _ rfl) dN aQ (by simp[World.drew];omega) _ rfl (s.length+1) rfl ?_;intro t c5 w5 H C J;(have V:=G.o.1.grown C (λe=>by have:=F.o g e.symm;omega));(have f5:=V.frozen 0);(have z5:=V.cell 0 (.slice A s.length c) rfl))
  all_goals
   have HT:aH (Tb (w5.setCell (g,0) (.slice t (s.length+1) c5)) g t c5 (s++ [X]) h m):=by
    have:=G.o.slot V H;rw[ab6] at this;exact this
   have HTW:aH (Tw w (w5.setCell (g,0) (.slice t (s.length+1) c5)) g (aY A)):=((U.o.trans (Tw.cD (Below.drew (Below.refl _ _)))).trans (Tw.cD T.o)).trans (Tw.grown C) |>.cB 0 _;have a:=(H7.o.grown C (j.o E aQ)).r8 (p:=⟨g,0,none⟩) bX (.slice t (s.length+1) c5);have d:=(H4.o.grown C (j.o _ aQ)).r8 (p:=⟨g,0,none⟩) bX (.slice t (s.length+1) c5);have HA5:aH (aY t≠some (w.heap.size+1)):=by
    rcases J with e|e
    .show aY t≠_;rw[e];exact aeF (j.o _ aQ)
    .show aY t≠_;rw[e];intro e2;injection e2 with e2;simp[World.drew] at e2;omega
   have HAT:aH (aY t=aY A\/∀q,aY t=some q->w.heap.size<=q):=by
    rcases J with e|e
    .exact .inl e
    .exact .inr (λq hq=>by rw[e] at hq;injection hq with hq;simp[World.drew] at hq;omega)
   have I:=aP d;have v0:=d.cell 0 (.int .i64 0) rfl;have v1:=d.cell 1 (.int .i64 0) rfl;have v2:=d.cell 2 (.int .i64 0) rfl;have v3:=d.cell 3 (.bool false) rfl;have g0:=d.frozen 0;have g1:=d.frozen 1;have g2:=d.frozen 2;have g3:=d.frozen 3;have y0:=a.cell 0 y.env rfl;have y1:=a.cell 1 y.cZ rfl;have y2:=a.cell 2 y.frame rfl;have y3:=a.cell 3 (.bool y.write) rfl;clear d a c0 x0 x1 x2 x3 H C J V f5 z5 G T U H7 H4;generalize w5.setCell (g,0) (.slice t (s.length+1) c5)=w6 at *;go_wp2_with fail
   obtain⟨d0,d1,d2,d3⟩:_/\_/\_/\_:=⟨(kI y I.o).cell 0 y.env rfl,(kI y I.o).cell 1 y.cZ rfl,(kI y I.o).cell 2 y.frame rfl,(kI y I.o).cell 3 (.bool y.write) rfl⟩
   change bodyPost _ _ _ _ _ (B7 w6 (w.heap.size+1) y)
   exact bodyPost_ret (v:= .tuple #[.agg #[y.env,y.cZ,y.frame,y.write],b,aU]) (by simp[results,results210,go_sem,d0,d1,d2,d3]) rfl ⟨y,b,t,c5,rfl,by rw[HLD.o];exact HT.o.only (mZ _ _ _) aQ HA5.o,HTW.o.only (mZ _ _ _) aQ,HAT.o⟩
end dL
section
namespace dL
def PF(g:Nat)(A0:Option aJ)(v r:Int)(L:List En)(h m:Int)(w:aA)(e:aM)(w':aA):Prop:=∃(A:Option aJ) (c:Nat),e= .returned (.tuple #[v,r])/\Tb w' g A c L h m/\Tw w w' g (aY A0)/\(aY A=aY A0\/∀q,aY A=some q->w.heap.size<=q)
variable{w:aA}{g:Nat}{A:Option aJ}{L:List En}{h h' m':Int}
theorem Tb.low{c:Nat}{m:Int}(t:Tb w g A c L h m)(i:Nat)(u:aC)(hb:bF (w.setCell (g,i) u) g 314 #[(A,L.length,c),h',m']):Tb (w.setCell (g,i) u) g A c L h' m':=by
 refine⟨hb,t.2.kept (bC (bL w g) i u) ?_⟩;cases e:Go.Proofs.YtacgiflhgdaeaaaGreat.aY A with
 |none=>exact .inl rfl
 |some q=>exact .inr (λa=>by injection a with a;have:=(t.2.lt q e).1;omega)
theorem TI(a p:Int)(wr:Bool)(g:Nat)(A:Option aJ)(c:Nat)(L:List En)(h m:Int)(w:aA)(b:Tb w g A c L h m)(hl:L.length<=100)(hf:fi L a p=none):
 aG prog 277 #[.pointer g,a,p,wr] w (PF g A 0 29 L h (wrap64 (m+1)) w):=by
 have d:=aP (rK g A c L h m a p w b aQ);have hp:xN L a p= -1:=by unfold xN;rw[hf]
 rw[hp] at d;clear hf hp;go_enter func277,ntmps277
 go_wp2_with fail
 refine d.o.mono ?_;rintro e i ⟨rfl,hb⟩;replace b:=b.keep hb;have c2:=b.1.cell 2 m rfl;have f2:=b.1.frozen 2;have f:=aP (b.low 2 (.int .i64 (wrap64 (m+1))) (b.1.cB 2 _));clear b d;go_wp2_with fail
 go_ret2
 exact⟨A,c,rfl,f.o,(Tw.cD hb).cB 2 _, .inl rfl⟩
theorem RD(a p:Int)(g:Nat)(A:Option aJ)(c:Nat)(L:List En)(h m:Int)(i:Nat)(x:En)(w:aA)(b:Tb w g A c L h m)(hl:L.length<=100)(hf:fi L a p=some i)(f:L[i]?=some x)(hw:x.write=false):
 aG prog 277 #[.pointer g,a,p,true] w (PF g A 0 23 L h m w):=by
 have d:=aP (rK g A c L h m a p w b aQ);have hp:xN L a p=i:=by unfold xN;rw[hf]
 rw[hp] at d;clear hf hp;obtain⟨hi,rfl⟩:=ab7.1 f;rcases b.2.shape with⟨rfl,rfl,rfl⟩|⟨q,rfl⟩
 .exact absurd hi aT
 have j:(0:Int)<=i:=aQ;have k:(i:Int)<(L.length:Int):=aQ;go_enter func277,ntmps277
 go_wp2_with fail
 refine d.o.mono ?_;rintro e r ⟨rfl,hb⟩;replace b:=b.keep hb;have c0:=b.1.cell 0 (.slice q L.length c) rfl;have l:=(EH b.2 hi).2.2.2;rw[hw] at l;have n:=aP b;clear b d f;go_wp2_with fail
 go_ret2
 exact⟨_,c,rfl,n.o,Tw.cD hb, .inl rfl⟩
theorem SU(a p:Int)(wr:Bool)(g:Nat)(A:Option aJ)(c:Nat)(L:List En)(h m:Int)(i:Nat)(x:En)(w:aA)(d:Tb w g A c L h m)(hl:L.length<=100)(hf:fi L a p=some i)(Y:L[i]?=some x)(hw:wr=true->x.write=true):
 aG prog 277 #[.pointer g,a,p,wr] w (PF g A x.frame 0 (L.eraseIdx i++ [x]) (wrap64 (h+1)) m w):=by
 have P:=aP (rK g A c L h m a p w d aQ);have hp:xN L a p=i:=by unfold xN;rw[hf]
 rw[hp] at P;clear hf hp;obtain⟨hi,v⟩:=ab7.1 Y;clear Y;have C:=aP d.J0;rcases d.2.shape with⟨rfl,rfl,rfl⟩|⟨q,rfl⟩
 .exact absurd hi aT
 have a1:(0:Int)<=i:=aQ;have Q:(i:Int)<(L.length:Int):=aQ;obtain⟨a6,a7⟩:=C.o q rfl;have y:=aP (λW hW=>SE g q c L (wrap64 (h+1)) m i W hW aQ hi);rw[v] at y;have hle:(L.eraseIdx i).length<=100:=abX (aeL _ _) hl;go_enter func277,ntmps277
 go_wp2_with fail
 refine P.o.mono ?_;rintro e D ⟨rfl,hb⟩;replace d:=d.keep hb;have c0:=d.1.cell 0 (.slice q L.length c) rfl;have c1:=d.1.cell 1 h rfl;have f1:=d.1.frozen 1;have R:=(EH d.2 hi).2.2.2;rw[v] at R;have N:=aP (d.low 1 (.int .i64 (wrap64 (h+1))) (d.1.cB 1 _));clear d P v;have E:=aP hb;have hz2:=hb.size;clear hb;have F:aH (wr=true->x.write=true):=hw;clear hw;cases wr
 all_goals
  first|(have G:=F.o rfl;rw[G] at R;clear G)|skip
  clear F;go_wp2_with fail
  refine(y.o _ N.o).mono ?_;rintro e j ⟨rfl,t3,z⟩;clear y N c0 c1 f1 R;have hg3:g<j.heap.size:=t3.1.lt;have hz3:D.heap.size<=j.heap.size:=abX (by simp[World.setCell]) z.size;have H:aH (Tw D j g (aY q)):=((Tw.refl D g _).cB 1 _).trans z;clear z;have b:=bF.new j 396 #[x.env,x.cZ,x.frame,x.write];have B:=aX j (aI #[x.env,x.cZ,x.frame,x.write] 396);generalize S:L.eraseIdx i=f at *;clear S hi Q;go_upto_region 11 with(fail)
  have I:aH (Tw D (j.alloc (aI #[x.env,x.cZ,x.frame,x.write] 396)) g (aY q)):=H.o.trans (Tw.cD B);have t4:=t3.keep B;have Z:j.heap.size<(j.alloc (aI #[x.env,x.cZ,x.frame,x.write] 396)).heap.size:=b.lt;clear B t3 H;generalize j.heap.size=b11 at *;generalize j.alloc (aI #[x.env,x.cZ,x.frame,x.write] 396)=wc at *;have c0:=t4.1.cell 0 (.slice q f.length c) rfl;have x0:=b.cell 0 x.env rfl;have x1:=b.cell 1 x.cZ rfl;have x2:=b.cell 2 x.frame rfl;have x3:=b.cell 3 (.bool x.write) rfl;have hgc:g<wc.heap.size:=t4.1.lt;have l:=aX wc.drew (aI #[x.env,x.cZ,x.frame,x.write] 396);have T:=Tb.keep (w:=wc.drew) t4 l;have U:=T.1.cell 0 (.slice q f.length c) rfl;have r:=aP T;have J:=aP l;have K:=aP (bF.keep (w:=wc.drew) b l);clear l T t4 b;go_region_law (refine kM _ rfl (.tmp 53) (.tmp 55) rfl Yn rS (base:=g+1) (xs:=f) r.o.2 (n:=f.length) rfl rfl (m:=1) rfl (ys:= [x]) rfl (Sl.fH rS wc.drew x _ rfl _ rfl) dN aQ (by simp[World.drew];omega) _ rfl (f.length+1) rfl ?_;intro t c5 w5 u s M;(have O:=r.o.1.grown s (λe=>by have:=C.o g e.symm;omega));(have f5:=O.frozen 0);(have z5:=O.cell 0 (.slice q f.length c) rfl))
  all_goals
   have N:aH (Tb (w5.setCell (g,0) (.slice t (f.length+1) c5)) g t c5 (f++ [x]) (wrap64 (h+1)) m):=by
    have:=r.o.slot O u;rw[ab6] at this;exact this
   have V:aH (Tw D (w5.setCell (g,0) (.slice t (f.length+1) c5)) g (aY q)):=((I.o.trans (Tw.cD (Below.drew (Below.refl _ _)))).trans (Tw.cD J.o)).trans (Tw.grown s) |>.cB 0 _;have b:=(K.o.grown s (by simp[aY];omega)).r8 (p:=⟨g,0,none⟩) bX (.slice t (f.length+1) c5);have X:aH (aY t=aY q\/∀k,aY t=some k->w.heap.size<=k):=by
    rcases M with e|e
    .exact .inl e
    .exact .inr (λk hk=>by rw[e] at hk;injection hk with hk;simp[World.drew] at hk;have:=E.o.size;omega)
   have y2:=b.cell 2 x.frame rfl;clear b c0 U x0 x1 x2 x3 u s M O f5 z5 r J I K;generalize w5.setCell (g,0) (.slice t (f.length+1) c5)=w6 at *;go_wp2_with fail
   go_ret2
   exact⟨t,c5,rfl,N.o,(Tw.cD E.o).trans V.o,X.o⟩
end dL
end
end
end Go.Proofs.YtacgiflhgdaeaaaGreat
