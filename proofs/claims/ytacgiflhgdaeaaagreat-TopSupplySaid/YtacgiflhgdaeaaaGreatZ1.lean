/- Texts laid as one. -/
import Derived.Test.YtacgiflhgdaeaaaGreatRows
import Derived.WalkKit
import Derived.WalkSpells
import Derived.WalkLawsBesides
import Derived.Deep.RegionHeld3
import Derived.Lib.Hide
import Derived.Deep.QuietTactic
import Derived.BigQuiet
import Derived.Deep.Draws
import Derived.ProofKit
import Derived.Lib.SmallJoins
import Derived.Deep.Slices
import Derived.Deep.Fields
import Derived.Deep.AppendLies
import Derived.OwnWalk
import Derived.Laws.OwnMore
import Derived.Laws.Rows
import Derived.Maps.AppendAt
import Derived.RegionTactic
set_option linter.unusedVariables false
set_option linter.unusedSimpArgs false
set_option maxRecDepth 100000
set_option maxHeartbeats 20000000
namespace Go.Proofs.YtacgiflhgdaeaaaGreat
open Go.Proofs.Tryz
open Go renaming World->aA,Value->aC,Addr->aJ,Oper->aK,Ending->aM,TypeId->aN,Program->aO,Calls->aG
open Go.RowKit renaming Below->aD
section
open Go.ChangeShapes Go.WideShapes Go.ChangeAt Go.RowKit
variable{W w1 w2 w W':aA}{aa:aC}{P:aO}{K2:aM->aA->Prop}{ba:Prop}
section
abbrev aaG:=@List.getElem?_eq_getElem
abbrev aaH:=@Nat.le_refl
abbrev aaI:=@List.setIfInBounds_toArray
abbrev aaJ:=@Nat.lt_of_lt_of_le
abbrev aaK:=@if_pos
abbrev aaL:=@if_neg
abbrev aaM:=@List.getElem_mem
abbrev aaN:=@List.set_cons_succ
abbrev aaO:=@Int.eq_ofNat_of_zero_le
abbrev aaP:=@List.set_cons_zero
abbrev aaQ:=@Nat.zero_le
abbrev aaR:=@Nat.le_trans
abbrev aaS:=@List.getElem?_append_right
abbrev aaT:=@List.length_append
abbrev aaU:=@List.getD_eq_getElem?_getD
abbrev aaV:=@List.length_set
abbrev aaW:=@Int.toNat_natCast
abbrev aaX:=@List.getElem?_eq_some_iff
abbrev aaZ:=@List.mem_singleton
abbrev aaY:=@List.getElem?_toArray
abbrev aa0:=@decide_eq_false
abbrev aa1:=@List.mem_of_getElem?
abbrev aa2:=@List.getElem_of_mem
abbrev aa3:=@Nat.add_zero
abbrev aa5:=@List.findIdx?_eq_some_iff_getElem
abbrev aa4:=@Classical.byContradiction
abbrev aa6:=@List.set_append_right
abbrev aa7:=@List.take_of_length_le
abbrev aa8:=@List.mem_append
abbrev aa9:=@List.length_take
abbrev abA:=@List.append_assoc
abbrev abB:=@Bool.false_eq_true
abbrev abC:=@List.getElem?_append_left
abbrev abD:=@decide_eq_true
abbrev abF:=@List.getElem_set
abbrev abG:=@Array.getElem?_toList
abbrev abH:=@List.pairwise_append
abbrev abI:=@List.eq_of_mem_replicate
abbrev abK:=@List.flatMap_cons
abbrev abL:=@Option.map_some
abbrev abN:=@List.take_add_one
abbrev abO:=@List.eq_nil_of_length_eq_zero
abbrev abM:=@List.length_cons
abbrev abP:=@List.findIdx?_eq_none_iff
abbrev abE:=@Array.getElem?_eq_getElem
abbrev abQ:=@Nat.zero_add
abbrev abS:=@List.take_append_getElem
abbrev abT:=@List.length_map
abbrev abJ:=@Bool.and_eq_true
abbrev abU:=@List.getElem?_take
abbrev abV:=@Nat.add_assoc
abbrev abZ:=@List.getElem?_eq_none
abbrev abW:=@List.mem_or_eq_of_mem_set
abbrev abX:=@List.ext_getElem
abbrev abY:=@List.length_drop
abbrev ab0:=@Int.le_refl
abbrev ab1:=@List.map_set
abbrev ab2:=@Nat.le_succ
abbrev ab5:=@List.length_nil
abbrev ab6:=@List.pairwise_iff_getElem
abbrev ab7:=@List.getElem?_map
abbrev ab8:=@Classical.not_not
abbrev abR:=@List.all_eq_true
abbrev ab9:=@List.length_modify
abbrev acA:=@Nat.lt_irrefl
abbrev acB:=@Nat.mul_le_mul_right
abbrev ab3:=@List.mem_range
abbrev acC:=@of_decide_eq_true
abbrev acD:=@List.mem_cons
abbrev acE:=@Option.isSome_some
abbrev acF:=@Option.isSome_none
abbrev acG:=@List.drop_eq_getElem_cons
abbrev acH:=@List.contains_eq_mem
abbrev acI:=@Nat.mul_one
abbrev acJ:=@List.take_length
abbrev acK:=@Nat.not_lt_zero
abbrev acL:=@List.getElem?_drop
abbrev ab4:=@if_false
abbrev acM:=@Nat.add_sub_cancel_left
abbrev acN:=@Nat.add_mul
abbrev acO:=@List.length_eraseIdx
abbrev acP:=@List.getElem?_set_ne
abbrev acQ:=@List.foldl_append
abbrev acR:=@List.filter_append
abbrev acS:=@List.filterMap_append
abbrev acT:=@List.range_succ
abbrev acU:=@Option.map_none
abbrev acW:=@List.mem_filter
abbrev acX:=@List.append_nil
abbrev acZ:=@List.length_replicate
abbrev ac0:=@Nat.lt_or_ge
abbrev ac1:=@List.mem_map
abbrev ac2:=@List.pairwise_cons
abbrev ac3:=@List.getElem?_modify
abbrev ac4:=@List.getElem_cons_succ
abbrev acY:=@if_true
abbrev ac5:=@List.length_singleton
abbrev ac6:=@List.length_filter_le
abbrev ac7:=@List.foldl_cons
abbrev ac8:=@List.pairwise_singleton
abbrev ac9:=@List.set_append_left
abbrev adT:=@Array.getElem?_eq_none
abbrev adA:=@List.getElem?_set
abbrev adB:=@List.getElem_cons_zero
abbrev adC:=@List.getElem?_set_self
abbrev adD:=@List.Sublist.refl
abbrev adE:=@Int.mul_nonneg
abbrev adF:=@Array.length_toList
abbrev adH:=@List.getElem_set_self
abbrev adJ:=@of_decide_eq_false
abbrev adK:=@Nat.mul_comm
abbrev adL:=@List.map_cons
abbrev adM:=@List.sum_cons
abbrev adN:=@Option.some.injEq
abbrev adO:=@List.length_eraseIdx_le
abbrev adP:=@List.size_toArray
abbrev adQ:=@List.take_succ_cons
abbrev adR:=@List.drop_succ_cons
abbrev adS:=@List.mem_map_of_mem
abbrev adU:=@Int.add_mul
abbrev adW:=@Array.getElem?_append_left
abbrev adX:=@Array.getElem?_modify
abbrev adY:=@Nat.zero_mul
abbrev ad0:=@Nat.one_mul
abbrev ad1:=@List.getElem_take
abbrev ad2:=@List.mem_of_mem_eraseIdx
abbrev ad3:=@List.length_pos_iff
abbrev ad4:=@decide_eq_decide
abbrev ad7:=@List.drop_drop
abbrev ad8:=@Int.mul_le_mul_of_nonneg_right
abbrev ad9:=@List.mem_eraseIdx_iff_getElem
abbrev aeA:=@List.drop_append_of_le_length
abbrev aeB:=@Int.mul_le_mul_of_nonneg_left
abbrev adV:=@List.mem_filterMap
abbrev aeD:=@Array.ext_getElem?
abbrev aeE:=@Nat.succ_mul
abbrev aeF:=@Int.ediv_lt_iff_lt_mul
abbrev aeG:=@List.drop_eq_nil_of_le
abbrev aeH:=@List.length_eq_one_iff
abbrev aeI:=@List.length_pos_of_mem
abbrev aeK:=@List.nil_append
abbrev aeJ:=@List.map_append
abbrev aeM:=@List.ext_getElem?
abbrev aeL:=@Array.getD_eq_getD_getElem?
abbrev aeN:=@Array.getElem?_eq_some_iff
abbrev aeO:=@Nat.div_lt_of_lt_mul
abbrev adZ:=@List.mem_append_left
abbrev aeQ:=@List.drop_zero
abbrev aeR:=@List.mem_of_mem_take
abbrev aeS:=@List.take_zero
abbrev aeT:=@Int.mul_one
abbrev aeU:=@Option.bind_some
abbrev adI:=@List.any_eq_true
abbrev adG:=@Option.isNone_iff_eq_none
abbrev aeV:=@List.filterMap_cons
abbrev aeW:=@List.flatMap_append
abbrev aeX:=@List.getElem_modify
abbrev aeY:=@Nat.div_eq_of_lt_le
abbrev aeZ:=@List.getElem_mapIdx
abbrev ae0:=@List.filter_eq_self
abbrev ae1:=@beq_eq_false_iff_ne
abbrev ae2:=@Option.isSome_iff_exists
abbrev ae3:=@List.length_filterMap_le
abbrev ae5:=@Ne.symm
abbrev ae6:=@Bool.true_eq_false
abbrev ae7:=@Nat.add_sub_cancel
abbrev ae8:=@List.getElem?_cons_succ
abbrev ad6:=@List.length_eq_zero_iff
abbrev ae9:=@List.map_nil
abbrev afA:=@List.drop_of_length_le
abbrev aeC:=@List.filter_eq_nil_iff
abbrev afB:=@Int.le_ediv_iff_mul_le
abbrev afC:=@Nat.lt_succ_of_lt
abbrev afD:=@getElem!_pos
abbrev afE:=@decide_eq_true_eq
abbrev afF:=@List.Perm.append_right
abbrev afG:=@List.getElem_replicate
abbrev afH:=@List.set_set
abbrev afI:=@List.eraseIdx_sublist
abbrev afJ:=@Int.mul_ediv_add_emod
abbrev afK:=@Option.getD_some
abbrev afL:=@Nat.lt_of_not_le
abbrev aeP:=@List.mem_iff_getElem
abbrev afM:=@List.mem_of_mem_drop
abbrev afN:=@Array.getElem_toList
abbrev ae4:=@Bool.or_eq_true
abbrev afO:=@Nat.le_antisymm
abbrev afP:=@List.append_inj
abbrev afQ:=@Int.add_zero
abbrev afR:=@Nat.sub_self
abbrev afS:=@Nat.le_of_eq
abbrev afT:=@true_and
abbrev afU:=@Nat.mod_lt
abbrev afV:=@Bool.and_false
instance:Coe Int aC:=⟨λx=>.int .i64 x⟩
instance:Coe Nat aC:=⟨λx=>.int .i64 x⟩
instance:Coe Nat (Option aJ):=⟨λx=>some ⟨x,0,none⟩⟩
instance:Coe Bool aC:=⟨λx=>.bool x⟩
instance:Coe aA Nat:=⟨λw=>w.heap.size⟩
instance(a b:Nat):CoeDep (Nat×Nat) (a,b) aJ:=⟨⟨a,b,none⟩⟩
instance(a:aA)(b:Nat):CoeDep (aA×Nat) (a,b) aJ:=⟨⟨a.heap.size,b,none⟩⟩
instance(a:Option aJ)(n c:Nat):CoeDep (Option aJ×Nat×Nat) (a,n,c) aC:=⟨.slice a n c⟩
instance(a n c:Nat):CoeDep (Nat×Nat×Nat) (a,n,c) aC:=⟨.slice (some ⟨a,0,none⟩) n c⟩
inductive aU
instance:CoeDep Type aU aC:=⟨.int .i64 0⟩
inductive cO
instance:CoeDep Type cO aC:=⟨.int .u64 0⟩
inductive bA
instance:CoeDep Type bA aC:=⟨.slice none 0 0⟩
inductive PN
instance:CoeDep Type PN aC:=⟨.pointer none⟩
theorem _root_.Go.RowKit.Hid.o{p:Prop}(h:Hid p):p:=h.out
theorem aP{p:Prop}(h:p):Hid p:=h
theorem aQ{P:Prop}(h:P:=by omega):P:=h
theorem aT{P:Prop}(h:P:=by simp):P:=h
theorem aV{P:Prop}(h:P:=by kernel_rfl):P:=h
theorem bK{P:Prop}(h:P:=by rfl):P:=h
theorem cD{P:Prop}(h:P:=by decide):P:=h
theorem dT{P:Prop}(h:P:=by simp only[maxLen];omega):P:=h
theorem bL{P:Prop}(h:P:=by simp;omega):P:=h
theorem bH{a b:Prop}(x:a)(y:b):Hid (a/\b):=⟨x,y⟩
theorem cZ{a b c:Prop}(x:a)(y:b)(z:c):Hid (a/\b/\c):=⟨x,y,z⟩
theorem iO{a b:Bool}(h:a=b):Ending.returned (.bool a)= .returned (.bool b):=by rw[h]
theorem gY{k:IntKind}{a b:Int}(h:a=b):Ending.returned (.int k a)= .returned (.int k b):=by rw[h]
theorem QN{k:IntKind}{a b:Int}{v:aC}(h:a=b):Ending.returned (.tuple #[.int k a,v])= .returned (.tuple #[.int k b,v]):=by rw[h]
theorem aX(w:aA)(o:Obj):aD w w (w.alloc o):=(Below.refl _ _).alloc (aaH _) _
theorem VG(a:aD W W w1):(∀b o,b<W.heap.size->w1.cell? ⟨b,o,none⟩=W.cell? ⟨b,o,none⟩)/\(∀b o,b<W.heap.size->w1.frozen? ⟨b,o,none⟩=W.frozen? ⟨b,o,none⟩):=
 ⟨λb o h=>a.cell (p:=⟨b,o,none⟩) h,λb o h=>a.frozen (p:=⟨b,o,none⟩) h⟩
theorem bD{p:aJ}{v:aC}(a:aD W W w1)(h:W.cell? p=some v):w1.cell? p=some v:=by
 rw[a.cell (World.block_lt_of_cell? W p h)];exact h
theorem dQ{B:Nat}(h:aD B W w1)(a:B<=W.heap.size)(b:aD w1 w1 w2):aD B W w2:=
 h.trans (b.mono (aaR a h.size))
theorem gJ{B:Nat}{a:aA}(h:aD B a w)(n:Nat):aD B a (w.drewN n):=⟨h.os,h.tape,h.output,h.size,h.block⟩
theorem WD{p q:aJ}{v:aC}(h:aD W W w1/\w1.cell? p=some v/\w1.cell? q=some aa)(a:aD w1 w1 w2):
 aD W W w2/\w2.cell? p=some v/\w2.cell? q=some aa:=⟨dQ h.1 (aaH _) a,bD a h.2.1,bD a h.2.2⟩
theorem wf_u64{x:Int}(h:(Lit.int .u64 x).wf=true):0<=x/\x<18446744073709551616:=by
 have:=h;simp[Lit.wf,IntKind.min,IntKind.max,IntKind.signed,IntKind.bits] at this;omega
theorem wf_u8{x:Int}(h:(Lit.int .u8 x).wf=true):0<=x/\x<256:=by
 have:=h;simp[Lit.wf,IntKind.min,IntKind.max,IntKind.signed,IntKind.bits] at this;omega
theorem own:ownKnob prog.godebug=none:=aV
theorem laidOut:laidOutB prog=true:=aV
theorem D1{H:Type}{enc:aN×aC->H}(i:aD W W W'):
 ∀(ts:List aN) (e:List aC) (f:List (DataW H)) (ps:List MemPlace),
  (∀t∈ts,prog.readableRec t=true/\t<prog.types.size)->
  DataW.TrodAll enc prog W 0 (λ_=>true) true ts e f ps->(∀x∈ps,x.block<W.heap.size)->
  DataW.TrodAll enc prog W' 0 (λb=>decide (b<W.heap.size)) true ts e f ps
 | [], [], [],ps,_,h,_=>h
 |t::ts,v::e,d::f,ps,ht,h,a=>by
  obtain⟨p,q,h1,j,rfl⟩:=h;have c:=ht t aT;refine⟨p,q,Below.trod laidOut c.1 c.2 h1 i (λx g=>a x (by simp[g])),?_,rfl⟩;exact D1 i ts e f q (λk l=>ht k (by simp[l])) j (λx g=>a x (by simp[g]))
 | [],_::_,_,_,_,h,_=>by cases h
 | [], [],_::_,_,_,h,_=>by cases h
 |_::_, [],_,_,_,h,_=>by cases h
 |_::_,_::_, [],_,_,h,_=>by cases h
theorem He{H:Type}{enc:aN×aC->H}{f:Func}{s:ChangeSpec}{tb:aN}(a:s.vars= [])(e:f.resultTypes=#[tb])(b:prog.underlying tb=some .bool)
 {args:Array aC} {i gs:List (DataW H)} {before:List MemPlace}
 (c:∀t∈f.params.toList,prog.readableRec t=true/\t<prog.types.size)
 (j:DataW.Whole enc prog f.params.toList s.vars false W args.toList i gs before)
 (d:s.fn H (i++gs)={results:= [.lit (.bool true)],args:=i}) (m:aD W W W'):
 s.post enc prog f false true false false W args (.bool true) W':=by
 have k:=j.lt;have l:=j;obtain⟨p,q,n,o,rfl,r,u⟩:=l;rw[a] at o;have g:∀x∈p,x.block<W.heap.size:=λx v=>k x (by simp[v])
 refine⟨i,gs,p++q, [],p, [],j,?_,?_,?_,m.frame _,λh=>by cases h⟩
 .rw[d,e];exact trodAll_mk1 (shut_bool b true)
 .rw[d];exact D1 m _ _ _ _ c n g
 .rw[d,a];rfl
theorem aR{n:FuncId}{a:Array aC}{K:aM->aA->Prop}(h:Hid (aG P n a w K))(k:∀e b,K e b->K2 e b):aG P n a w K2:=Calls.mono h k
theorem aS{n:FuncId}{a:Array aC}{K:aM->aA->Prop}(h:aG P n a w K)(k:∀e b,K e b->K2 e b):aG P n a w K2:=Calls.mono h k
theorem fQ{P:Prop}(p:P)(f:Hid P->ba:=by intro a;(first|(refine ZD (by rfl) ?_;(try simp only[Act.put,aaI,aaP,aaN]))|(refine UY (by rfl) (by rfl) (by rfl) (by rfl) (by rfl) (λK hK=>?_);go_big_quiet_op;refine hK _ ?_;clear hK K)|(refine Pu (by rfl) (by rfl) (by rfl) (by rfl) (by rfl) (by rfl) (λK hK=>?_);go_big_quiet_op;refine hK _ ?_;clear hK K)|(refine Lr (by rfl) (by rfl) (by rfl) ?_;(try simp only[Act.put,aaI,aaP,aaN]))|(refine VC (by rfl) (by rfl) (by rfl) (by rfl) (by rfl) (λK hK=>?_);go_simp;(try simp only[SH,afT]);first|(apply Exists.intro;refine⟨λn=>rfl,hK _ ?_⟩;clear hK K;(try simp only[Act.put,aaI,aaP,aaN]))));exact a.o):ba:=f p
theorem CH{P:Prop}(p:P)(f:Hid P->ba:=by intro a;(first|(refine Pz (by rfl) ?_;(try simp only[Act.put,aaI,aaP,aaN]))|(refine Pg (by rfl) (by rfl) (by rfl) (λK hK=>?_);go_big_quiet_op;refine hK _ ?_;clear hK K)|(refine Oi (by rfl) (by rfl) (by rfl) (λK hK=>?_);go_big_quiet_op;refine hK _ ?_;clear hK K)|(refine Us (by rfl) (by rfl) ?_;(try simp only[Act.put,aaI,aaP,aaN])));exact a.o):ba:=f p
theorem PI{P:Prop}(p:P)(f:Hid P->ba:=by intro a;(first|(refine sh_q (by rfl) (by rfl) (by rfl) (λK hK=>?_);go_big_quiet_op;refine hK _ ?_;clear hK K)|(refine sh_skip (by rfl) (by rfl) ?_;(try simp only[Act.put,aaI,aaP,aaN]))|(refine sh_call (by rfl) (by rfl) (by rfl) (λK hK=>?_);go_simp;(try simp only[CUp,afT]);first|(apply Exists.intro;refine⟨λn=>rfl,hK _ ?_⟩;clear hK K;(try simp only[Act.put,aaI,aaP,aaN]))));exact a.o):ba:=f p
theorem dB{P:Prop}(p:P)(f:Hid P->ba:=by intro a;simp only[Act.put,aaI,aaP,aaN];exact a.o):ba:=f p
theorem eT{P:Prop}(p:P)(f:Hid P->ba:=by intro a;simp only[aeV,List.filterMap_nil,ae8,List.getElem?_cons_zero];exact a.o):ba:=f p
end
end
section
open Go.ChangeShapes Go.WideShapes Go.ChangeAt Go.RowKit Go.Deep
variable{w w' W w1 w2:aA}{A:Option aJ}{i b0 sz n:Nat}{P:aO}{fs:Array Field}
section
section
variable{α:Type}{enc:α->List aC}{sz:Nat}
theorem fH(he:∀x,(enc x).length=sz)(xs:List α):(xs.flatMap enc).length=xs.length *sz:=by
 induction xs with
 |nil=>simp
 |cons x xs a=>simp only[abK,aaT,abM,a,he x,acN];omega
theorem jG(he:∀x,(enc x).length=sz):∀(xs:List α) (i:Nat) (x:α) (j:Nat),xs[i]?=some x->j<sz->(xs.flatMap enc)[i *sz+j]?=(enc x)[j]?
 | [],i,x,j,h,_=>by simp at h
 |y::ys,0,x,j,h,a=>by
  simp at h;subst h;simp only[abK,adY,abQ];rw[abC (by rw[he];exact a)]
 |y::ys,i+1,x,j,h,a=>by
  simp at h;simp only[abK];rw[aaS (by rw[he,acN];omega),he,show(i+1) *sz+j - sz=i *sz+j by rw[acN];omega];exact jG he ys i x j h a
def Sl(enc:α->List aC)(sz:Nat)(w:aA)(A:Option aJ)(xs:List α):Prop:=
 0<xs.length->∃b off,A=some ⟨b,off,none⟩/\∀(i:Nat) (x:α) (j:Nat) (u:aC),xs[i]?=some x->(enc x)[j]?=some u->w.cell? ⟨b,off+(i *sz+j),none⟩=some u
theorem Sl.nil(w:aA)(A:Option aJ):Sl enc sz w A []:=λh=>absurd h aT
theorem Sl.keep{xs:List α}(h:Sl enc sz w A xs)(a:aD w w w'):Sl enc sz w' A xs:=λc=>by
 obtain⟨b,off,d,hc⟩:=h c;exact⟨b,off,d,λi x j u e hu=>bD a (hc i x j u e hu)⟩
theorem Sl.alloc{xs:List α}(h:Sl enc sz w A xs)(o:Obj):Sl enc sz (w.alloc o) A xs:=h.keep (aX _ _)
theorem Sl.at_{xs:List α}(h:Sl enc sz w A xs)(hi:i<xs.length):
 ∃b off,A=some ⟨b,off,none⟩/\∀(j:Nat) (u:aC),(enc xs[i])[j]?=some u->w.cell? ⟨b,off+(i *sz+j),none⟩=some u:=by
 obtain⟨b,off,a,hc⟩:=h aQ;exact⟨b,off,a,λj u hu=>hc i _ j u (aaG hi) hu⟩
theorem Z2{base:Nat}{e:aN}{v:aC}{xs:List α}(he:∀x,(enc x).length=sz)(h:w.ownsRow base e sz v xs.length (xs.flatMap enc)):
 ∃A c,v= .slice A xs.length c/\Sl enc sz w A xs:=by
 rcases h.2 with⟨a,f⟩|⟨g,cap,cur,a,l,m,h1,n,o,p⟩
 .refine⟨none,0,by rw[a,f],λq=>by omega⟩
 .refine⟨some ⟨g,0,none⟩,cap,a,λ_=>⟨g,0,rfl,λi x j u d hu=>?_⟩⟩;subst a;have k:j<sz:=by rw[<-he x];exact(aaX.1 hu).1
  have hi:i<xs.length:=(aaX.1 d).1;have b:i *sz+j<xs.length *sz:=by
   have:(i+1) *sz<=xs.length *sz:=acB _ hi;rw[acN] at this;omega
  rw[abQ,h.cellAt _ b,jG he xs i x j d k,hu]
end
theorem WX{row:Option Nat}(h:aD W W w1)(a:w1.grownBy w2 row)(b:∀k,row=some k->W.heap.size<=k):aD W W w2:=h.grown a h.size b
def eI(x:Int):List aC:= [.int .i64 x]
def eU(x:Int):List aC:= [.int .u64 x]
theorem LN(x:Int):(eI x).length=1:=rfl
theorem Uf(x:Int):(eU x).length=1:=rfl
theorem Sl.EJ{xs:List Int}(h:Sl eI 1 w A xs)(hi:i<xs.length):
 ∃b off,A=some ⟨b,off,none⟩/\w.cell? ⟨b,off+i,none⟩=some (.int .i64 xs[i]):=by
 obtain⟨b,off,a,hc⟩:=h.at_ hi;refine⟨b,off,a,?_⟩;have:=hc 0 _ (show(eI xs[i])[0]?=some (.int .i64 xs[i]) from rfl);simpa using this
theorem Sl.Bz{xs:List Int}(h:Sl eU 1 w A xs)(hi:i<xs.length):
 ∃b off,A=some ⟨b,off,none⟩/\w.cell? ⟨b,off+i,none⟩=some (.int .u64 xs[i]):=by
 obtain⟨b,off,a,hc⟩:=h.at_ hi;refine⟨b,off,a,?_⟩;have:=hc 0 _ (show(eU xs[i])[0]?=some (.int .u64 xs[i]) from rfl);simpa using this
theorem FV(n:Nat):(madeCells (Value.int .i64 0).cells (n *1)).toList=(List.replicate n 0).flatMap eI:=by
 have h1:(List.replicate n (0:Int)).flatMap eI=List.replicate n (Value.int .i64 0):=by
  induction n with
  |zero=>rfl
  |succ n a=>rw[List.replicate_succ,abK,a];rfl
 rw[h1];apply abX
 .simp[madeCells]
 .intro i b c;simp[madeCells,Value.cells,Nat.mod_one]
theorem Z7{H:Type}{B:aN×aC->H}{r:Reach}{t e:aN}{v:aC}{d:DataW H}{p:List MemPlace}{α:Type}{enc:α->List aC}(b:α->Prop)
 (V:P.underlying t=some (.slice e)) (hC:P.cellsOf e=sz) (lF:0<sz) (Z:Value.okWide P w r b0 t v) (h:DataW.Trod B P w 0 (λ_=>true) true t v d p)
 (E:∀(cs:List aC) (x:DataW H×List MemPlace) (n:Nat),cs.length=sz->DataW.trod B P w 0 (λ_=>true) true n e cs=some x->∃a:α,cs=enc a/\b a):
 ∃(A:Option aJ) (xs:List α) (c:Nat),v= .slice A xs.length c/\xs.length<=c/\c<=maxLen/\Sl enc sz w A xs/\(∀x∈xs,b x):=by
 obtain⟨A,len,cap,rfl⟩:=okWide_slice V Z;obtain⟨fuel,hf⟩:=h;rcases open_slice V hf with⟨g,_⟩|⟨a,W,X,m,n,D,Pl,g,_,hl,hm,F,_,hi⟩
 .simp[Value.cells] at g;obtain⟨rfl,rfl,rfl⟩:=g;exact⟨none, [],0,rfl,aT,by simp[maxLen],Sl.nil _ _,aT⟩
 .simp[Value.cells] at g;obtain⟨rfl,rfl,rfl⟩:=g;simp at F;subst F;have key:∀i:Nat,∃x:Option α,i<len->∃y,x=some y/\b y/\w.cells? 0 (a.add (i *sz)) sz=some (enc y):=λi=>by
   by_cases O:i<len
   .obtain⟨cs',hc,hd⟩:=hi i aQ;rw[hC] at hc;obtain⟨y,rfl,Q⟩:=E cs' _ n (World.cells?_some hc).2.1 hd;exact⟨some y,λ_=>⟨y,rfl,Q,hc⟩⟩
   .exact⟨none,λh=>absurd h O⟩
  obtain⟨f,R⟩:=Classical.axiomOfChoice key;let xs:=(List.range len).filterMap f
  have l:∀i,i<len->∃y,f i=some y/\b y/\w.cells? 0 (a.add (i *sz)) sz=some (enc y):=R;have hlen:∀k,k<=len->((List.range k).filterMap f).length=k:=by
   intro k;induction k with
   |zero=>simp
   |succ k S=>
    intro hk;obtain⟨y,C,_⟩:=l k aQ;rw[acT,acS,aaT,S aQ];simp[C]
  have G:∀k,k<=len->∀i,i<k->((List.range k).filterMap f)[i]?=f i:=by
   intro k;induction k with
   |zero=>intro _ i hi;omega
   |succ k S=>
    intro hk i hi;obtain⟨y,C,_⟩:=l k aQ;rw[acT,acS];by_cases I:i<k
    .rw[abC (by rw[hlen k aQ];exact I)];exact S aQ i I
    .obtain rfl:i=k:=aQ;rw[aaS (by rw[hlen i aQ];omega),hlen i aQ];simp[C]
  have q:=hlen len (aaH _);refine⟨some a,xs,m,by rw[show xs.length=len from q],by rw[show xs.length=len from q];exact hl,hm,λM=>?_,λx N=>?_⟩
  .rw[show xs.length=len from q] at M;obtain⟨y0,_,_,J⟩:=l 0 M;have o:=(World.cells?_some J).2.2 0 lF;have hl0:=(World.cells?_some J).2.1;have K:a.spot=none:=by
    have hz:(a.add (0 *sz)).add 0=a:=by simp[Addr.add]
    rw[hz,aaG aQ] at o;unfold World.cell? at o;cases hs:a.spot with
    |none=>rfl
    |some s=>simp[hs] at o;split at o <;> simp at o
   obtain⟨ab,ao,asp⟩:=a;simp at K;subst K;refine⟨ab,ao,rfl,λi x j u N hu=>?_⟩;have L:i<len:=by
    have:=(aaX.1 N).1;rw[show xs.length=len from q] at this;exact this
   obtain⟨y,C,_,hc⟩:=l i L;have T:x=y:=by
    have:=G len (aaH _) i L;rw[show((List.range len).filterMap f)=xs from rfl,N,C] at this;injection this
   subst T;have hj:j<sz:=by
    have h1:=(World.cells?_some hc).2.1;have h2:=(aaX.1 hu).1;omega
   have Y:=(World.cells?_some hc).2.2 j hj;rw[hu] at Y;rw[<-Y];congr 1
   rw[Go.Deep.add_add];unfold Addr.add;split
   .rename_i M;rw[M,aa3]
   .rfl
  .obtain⟨i,U,z⟩:=adV.1 N;obtain⟨y,C,Q,_⟩:=l i (ab3.1 U);rw[C] at z;injection z with z;subst z;exact Q
theorem LR{H:Type}{b:aN×aC->H}{e:aN}{k:IntKind}(he:P.underlying e=some (.int k)):
 ∀(cs:List aC) (x:DataW H×List MemPlace) (n:Nat),cs.length=1->DataW.trod b P w 0 (λ_=>true) true n e cs=some x->∃a:Int,cs= [.int k a]/\(Lit.int k a).wf=true:=by
 intro cs x n _ h;obtain⟨a,rfl,_,hw⟩:=DataW.trod_int he h;exact⟨a,rfl,hw⟩
theorem nB{H:Type}{a:aN×aC->H}{e:aN}{cs:List aC}{x:DataW H×List MemPlace}(he:P.underlying e=some (.struct fs))(c:oneCellFields P fs=true)
 (hC:P.cellsOf e=fs.size) (h:DataW.trod a P w 0 (λ_=>true) true n e cs=some x) (j:Nat) (f:Field) (d:fs[j]?=some f):
 cs.length=fs.size/\∃(v:aC) (y:DataW H×List MemPlace) (m:Nat),cs[j]?=some v/\DataW.trod a P w 0 (λ_=>true) true m f.type [v]=some y:=by
 obtain⟨ys,g,i,p,hlen,k,l⟩:=DataW.trod_struct he h;rw[hC] at hlen;obtain⟨ho,hk⟩:=hone_of c j f d;have o:j<fs.size:=(aeN.1 d).1;have h1:=l j f d;rw[ho,hk] at h1;have b:(cs.drop j).take 1= [cs[j]'(by omega)]:=by
  rw[acG aQ];rfl
 rw[b,aaG (show j<ys.length by omega)] at h1;exact⟨hlen,_,_,g,aaG aQ,h1⟩
end
end
section
open Go.ChangeShapes Go.WideShapes Go.ChangeAt Go.RowKit Go.Deep Go.Joins Go.Lib
variable{P:aO}{w:aA}{n0 sz:Nat}
section
theorem iQ{H:Type}{q:aN×aC->H}{t e:aN}{v:aC}{T:DataW H×List MemPlace}{α:Type}{enc:α->List aC}(b:α->Prop)
 (U:P.underlying t=some (.slice e)) (hC:P.cellsOf e=sz) (lF:0<sz) (V:DataW.trod q P w 0 (λ_=>true) true n0 t [v]=some T)
 (z:∀(cs:List aC) (x:DataW H×List MemPlace) (n:Nat),cs.length=sz->DataW.trod q P w 0 (λ_=>true) true n e cs=some x->∃a:α,cs=enc a/\b a):
 ∃(A:Option aJ) (xs:List α) (c:Nat),v= .slice A xs.length c/\xs.length<=c/\c<=maxLen/\Sl enc sz w A xs/\(∀x∈xs,b x):=by
 obtain⟨A,len,cap,L⟩:=slice_form U V;injection L with L;subst L;rcases open_slice U V with⟨d,_⟩|⟨a,W,X,m,n,D,Pl,d,_,Z,hm,B,_,hi⟩
 .simp at d;obtain⟨rfl,rfl,rfl⟩:=d;exact⟨none, [],0,rfl,aT,by simp[maxLen],Sl.nil _ _,aT⟩
 .simp at d;obtain⟨rfl,rfl,rfl⟩:=d;simp at B;subst B;have key:∀i:Nat,∃x:Option α,i<len->∃y,x=some y/\b y/\w.cells? 0 (a.add (i *sz)) sz=some (enc y):=λi=>by
   by_cases M:i<len
   .obtain⟨cs',hc,hd⟩:=hi i aQ;rw[hC] at hc;obtain⟨y,rfl,N⟩:=z cs' _ n (World.cells?_some hc).2.1 hd;exact⟨some y,λ_=>⟨y,rfl,N,hc⟩⟩
   .exact⟨none,λh=>absurd h M⟩
  obtain⟨f,O⟩:=Classical.axiomOfChoice key;let xs:=(List.range len).filterMap f
  have g:∀i,i<len->∃y,f i=some y/\b y/\w.cells? 0 (a.add (i *sz)) sz=some (enc y):=O;have hlen:∀k,k<=len->((List.range k).filterMap f).length=k:=by
   intro k;induction k with
   |zero=>simp
   |succ k Q=>
    intro hk;obtain⟨y,r,_⟩:=g k aQ;rw[acT,acS,aaT,Q aQ];simp[r]
  have C:∀k,k<=len->∀i,i<k->((List.range k).filterMap f)[i]?=f i:=by
   intro k;induction k with
   |zero=>intro _ i hi;omega
   |succ k Q=>
    intro hk i hi;obtain⟨y,r,_⟩:=g k aQ;rw[acT,acS];by_cases E:i<k
    .rw[abC (by rw[hlen k aQ];exact E)];exact Q aQ i E
    .obtain rfl:i=k:=aQ;rw[aaS (by rw[hlen i aQ];omega),hlen i aQ];simp[r]
  have o:=hlen len (aaH _);refine⟨some a,xs,m,by rw[show xs.length=len from o],by rw[show xs.length=len from o];exact Z,hm,λJ=>?_,λx K=>?_⟩
  .rw[show xs.length=len from o] at J;obtain⟨T,_,_,F⟩:=g 0 J;have l:=(World.cells?_some F).2.2 0 lF;have a1:=(World.cells?_some F).2.1;have G:a.spot=none:=by
    have hz:(a.add (0 *sz)).add 0=a:=by simp[Addr.add]
    rw[hz,aaG aQ] at l;unfold World.cell? at l;cases hs:a.spot with
    |none=>rfl
    |some s=>simp[hs] at l;split at l <;> simp at l
   obtain⟨ab,ao,asp⟩:=a;simp at G;subst G;refine⟨ab,ao,rfl,λi x j u K hu=>?_⟩;have I:i<len:=by
    have:=(aaX.1 K).1;rw[show xs.length=len from o] at this;exact this
   obtain⟨y,r,_,hc⟩:=g i I;have R:x=y:=by
    have:=C len (aaH _) i I;rw[show((List.range len).filterMap f)=xs from rfl,K,r] at this;injection this
   subst R;have hj:j<sz:=by
    have h1:=(World.cells?_some hc).2.1;have h2:=(aaX.1 hu).1;omega
   have Y:=(World.cells?_some hc).2.2 j hj;rw[hu] at Y;rw[<-Y];congr 1
   rw[Go.Deep.add_add];unfold Addr.add;split
   .rename_i J;rw[J,aa3]
   .rfl
  .obtain⟨i,S,p⟩:=adV.1 K;obtain⟨y,r,N,_⟩:=g i (ab3.1 S);rw[r] at p;injection p with p;subst p;exact N
end
end
section
section
namespace dH
structure En where
 env:Int
 cY:Int
 frame:Int
 write:Bool
def qC(a p:Int)(e:En):Bool:=e.env==a&&e.cY==p
variable{p:Int}
theorem C3{a:Int}{e:En}:qC a p e=true↔e.env=a/\e.cY=p:=by simp[qC]
def fi(L:List En)(a p:Int):Option Nat:=L.findIdx? (qC a p)
def FH(L:List En)(a p:Int):Int:=match fi L a p with
 |some i=>(i:Int)
 |none=> -1
def mZ(L:List En)(X:En):List En:=match fi L X.env X.cY with
 |some i=>L.eraseIdx i
 |none=>if 16<=L.length then L.eraseIdx 0 else L
def ld(L:List En)(X:En):List En:=mZ L X++ [X]
def lE(e:En):Bool:=decide (0<=e.env/\e.env<=7/\0<=e.cY/\e.cY<=65535/\0<=e.frame/\e.frame<=31)
def DS(L:List En):Prop:=L.Pairwise λx y=>¬(x.env=y.env/\x.cY=y.cY)
variable{L:List En}
theorem U5{a:Int}(h:fi L a p=none):∀e∈L,¬(e.env=a/\e.cY=p):=by
 intro e he hk;have:=abP.1 h e he;rw[C3.2 hk] at this;cases this
variable{i:Nat}
theorem BS{a:Int}(h:fi L a p=some i):∃hi:i<L.length,(L[i].env=a/\L[i].cY=p)/\∀j,(b:j<i)->¬(L[j].env=a/\L[j].cY=p):=by
 obtain⟨hi,h1,c⟩:=aa5.1 h;refine⟨hi,C3.1 h1,λj b hk=>?_⟩;have:=c j b;rw[C3.2 hk] at this;simp at this
theorem D6(h:DS L)(i:Nat):DS (L.eraseIdx i):=List.Pairwise.sublist (afI L i) h
theorem QO{X:En}(h:DS L)(d:∀e∈L,¬(e.env=X.env/\e.cY=X.cY)):DS (L++ [X]):=by
 refine abH.2 ⟨h,ac8 _ _,λa f b c=>?_⟩;rw[aaZ] at c;subst c;exact d a f
theorem PQ(h:DS L)(hi:i<L.length):∀e∈L.eraseIdx i,¬(e.env=L[i].env/\e.cY=L[i].cY):=by
 intro e he hk;rw[ad9] at he;obtain⟨j,c,a,rfl⟩:=he;have hp:=ab6.1 h;rcases Nat.lt_or_gt_of_ne a with b|hgt
 .exact hp j i c hi b hk
 .exact hp i j hi c hgt ⟨hk.1.symm,hk.2.symm⟩
end dH
end
end
section
open Go.RowKit
namespace dH
theorem mP(e:En)(w:aA):aG prog 244 #[.agg #[e.env,e.cY,e.frame,e.write]] w λr w'=>r= .returned (.bool (lE e))/\aD w w w':=by
 go_enter func244,ntmps244
 go_wp2
 all_goals go_ret
 all_goals refine⟨iO ?_,aX _ _⟩
 all_goals unfold lE
 all_goals first|(simp;done)|(simp;omega)|(rw[ad4];omega)
end dH
def bC(w:aA)(g:Nat)(t:aN)(cs:Array aC):Prop:=w.heap[g]?=some (.cells cs t (0,0))
section
variable{w w':aA}{g:Nat}{t:aN}{cs:Array aC}
theorem bC.lt(h:bC w g t cs):g<w.heap.size:=by
 rcases ac0 g w with b|hge
 .exact b
 .unfold bC at h;rw[adT hge] at h;cases h
theorem bC.cell(h:bC w g t cs)(i:Nat)(v:aC)(b:cs[i]?=some v):w.cell? (g,i)=some v:=(cell_of_row w g i cs t (0,0) h).trans b
theorem bC.frozen(h:bC w g t cs)(i:Nat):w.frozen? (g,i)=false:=by
 unfold bC at h;simp[World.frozen?,h]
theorem bC.new(w:aA)(t:aN)(cs:Array aC):bC (w.alloc (.cells cs t)) w t cs:=heap_alloc_new w _
theorem bC.gK(w:aA)(t:aN)(cs:Array aC)(h:w.heap.size=g):bC (w.alloc (.cells cs t)) g t cs:=by subst h;exact bC.new w t cs
theorem bC.alloc(h:bC w g t cs)(o:Obj):bC (w.alloc o) g t cs:=(Below.heap_alloc w o g h.lt).trans h
theorem bC.drewN(h:bC w g t cs)(n:Nat):bC (w.drewN n) g t cs:=h
theorem bC.bQ(h:bC w g t cs)(i:Nat)(u:aC):bC (w.setCell (g,i) u) g t (cs.setIfInBounds i u):=by
 unfold bC at h⊢;simp[World.setCell,adX,h]
theorem bC.mG(h:bC w g t cs){p:aJ}(hp:g≠p.block)(u:aC):bC (w.setCell p u) g t cs:=(Below.heap_setCell w p u g hp).trans h
theorem bC.keep(h:bC w g t cs)(b:aD w w w'):bC w' g t cs:=(b.block g h.lt).trans h
theorem bC.grown{row:Option Nat}(h:bC w g t cs)(b:w.grownBy w' row)(c:some g≠row):bC w' g t cs:=(b.block g h.lt c).trans h
end
variable{W:aA}
section
variable{a w w1:aA}{g:Nat}
theorem bE(w:aA)(g:Nat):w.grownBy w (some g):=World.grownBy.refl w _
theorem CU(h:a.grownBy w (some g))(n:Nat):a.grownBy (w.drewN n) (some g):=⟨h.os,h.tape,h.output,h.size,h.block⟩
theorem aY(h:a.grownBy w (some g))(i:Nat)(u:aC):a.grownBy (w.setCell (g,i) u) (some g):=
 ⟨h.os,h.tape,h.output,by simpa[World.setCell] using h.size,λk hk b=>(Below.heap_setCell w ⟨g,i,none⟩ u k (λe=>b (by rw[e]))).trans (h.block k hk b)⟩
theorem lG(h:a.grownBy w (some g))(k:w.grownBy w1 (some g)):a.grownBy w1 (some g):=
 ⟨k.os.trans h.os,k.tape.trans h.tape,k.output.trans h.output,aaR h.size k.size,λi hi b=>(k.block i (aaJ hi h.size) b).trans (h.block i hi b)⟩
theorem mU(h:a.grownBy w (some g))(k:aD w w w1):a.grownBy w1 (some g):=
 ⟨k.os.trans h.os,k.tape.trans h.tape,k.output.trans h.output,aaR h.size k.size,λi hi b=>(k.block i (aaJ hi h.size)).trans (h.block i hi b)⟩
theorem V4(h:aD W W w)(k:w.grownBy w1 (some g))(b:W.heap.size<=g):aD W W w1:=
 h.grown k h.size (λq hq=>by injection hq with hq;omega)
end
variable{P:aO}{sz i m n base:Nat}{B A:Option aJ}{Q:Exit->Act->aA->Prop}{ba:Prop}{w w':aA}
section
def jM(P:aO)(t e:aN)(sz bytes:Nat):Prop:=
 P.underlying t=some (.slice e)/\∃i z,P.info? e=some i/\i.zero=some z/\i.size=sz/\i.bytes=bytes/\z.cells.size=sz/\0<sz
theorem gA{t e:aN}{bytes:Nat}{z:aC}(a:P.underlying t=some (.slice e))(h:(P.info? e).map (λi=>(i.zero,i.size,i.bytes))=some (some z,sz,bytes))(b:z.cells.size=sz)(d:0<sz):jM P t e sz bytes:=by
 obtain⟨i,hi,h1,f,g⟩:=info_parts h;exact⟨a,i,z,hi,h1,f,g,b,d⟩
structure eY{α:Type}(enc:α->List aC)(sz:Nat):Prop where
 len:∀x,(enc x).length=sz
 one:∀x,∀u∈enc x,u.oneCell'=true
theorem fX:eY eI 1:=⟨LN,λx u hu=>by simp[eI] at hu;subst hu;rfl⟩
theorem LG:eY eU 1:=⟨Uf,λx u hu=>by simp[eU] at hu;subst hu;rfl⟩
def aZ(A:Option aJ):Option Nat:=A.map (·.block)
theorem A7(A:Option aJ)(n c:Nat):(Value.slice A n c).ownBlock=aZ A:=by cases A <;> rfl
section
variable{α:Type}{enc:α->List aC}{sz:Nat}
def bB(enc:α->List aC)(sz:Nat)(w:aA)(base:Nat)(e:aN)(A:Option aJ)(c:Nat)(xs:List α):Prop:=
 w.ownsRow base e sz (.slice A xs.length c) xs.length (xs.flatMap enc)
variable{w w':aA}{base:Nat}{e:aN}{A:Option aJ}{c:Nat}{xs:List α}
theorem bB.nil(w:aA)(base:Nat)(e:aN):bB enc sz w base e none 0 []:=⟨aT, .inl ⟨rfl,rfl⟩⟩
theorem bB.sl(h:bB enc sz w base e A c xs)(hc:eY enc sz):Sl enc sz w A xs:=by
 obtain⟨A',b,a,hs⟩:=Z2 hc.len h;injection a with h1 _ _;rw[h1];exact hs
theorem bB.alloc(h:bB enc sz w base e A c xs)(o:Obj):bB enc sz (w.alloc o) base e A c xs:=World.ownsRow.alloc h o
theorem bB.drew(h:bB enc sz w base e A c xs):bB enc sz w.drew base e A c xs:=h
theorem bB.drewN(h:bB enc sz w base e A c xs)(n:Nat):bB enc sz (w.drewN n) base e A c xs:=h
theorem bB.lt(h:bB enc sz w base e A c xs):∀k,aZ A=some k->base<=k/\k<w.heap.size:=λk hk=>World.ownsRow.lt h k (by rw[A7];exact hk)
theorem bB.kept{row:Option Nat}(h:bB enc sz w base e A c xs)(b:w.grownBy w' row)(a:aZ A=none\/aZ A≠row):bB enc sz w' base e A c xs:=
 World.ownsRow.kept h b (by rw[A7];exact a)
theorem bB.keep(h:bB enc sz w base e A c xs)(a:aD w w w'):bB enc sz w' base e A c xs:=by
 refine World.ownsRow.kept (row:=none) h ⟨a.os,a.tape,a.output,a.size,λi hi _=>a.block i hi⟩ ?_;rw[A7];cases h1:aZ A with
 |none=>exact .inl rfl
 |some k=>exact .inr aT
theorem bB.cap(h:bB enc sz w base e A c xs):xs.length<=c:=by
 rcases h.2 with⟨h1,a⟩|⟨g,cap,cur,h1,_,_,b,_⟩
 .omega
 .injection h1 with _ _ h1;omega
theorem bB.shape(h:bB enc sz w base e A c xs):(A=none/\xs= []/\c=0)\/∃g,A=some ⟨g,0,none⟩:=by
 rcases h.2 with⟨h1,b⟩|⟨g,cap,cur,h1,_⟩
 .injection h1 with a a2 a3;exact .inl ⟨a,abO b,a3⟩
 .injection h1 with a;exact .inr ⟨g,a⟩
theorem bB.from_(h:bB enc sz w base e A c xs)(a:i<=base):bB enc sz w i e A c xs:=by
 refine⟨h.1,?_⟩;rcases h.2 with h1|⟨g,cap,cur,h1,b,d⟩
 .exact .inl h1
 .exact .inr ⟨g,cap,cur,h1,aaR a b,d⟩
theorem bB.ne{p:aJ}{B:Nat}(h:bB enc sz w base e A c xs)(hp:p.block<B)(a:B<=base):aZ A=none\/aZ A≠some p.block:=by
 cases h1:aZ A with
 |none=>exact .inl rfl
 |some k=>right;intro he;injection he with he;have:=(h.lt k h1).1;omega
theorem Sl.new(hc:eY enc sz)(w:aA)(y:α)(cs:Array aC)(a:cs.toList=enc y)(t:aN):Sl enc sz (w.alloc (.cells cs t)) (some ⟨w.heap.size,0,none⟩) [y]:=λ_=>by
 refine⟨w.heap.size,0,rfl,λi x j u b hu=>?_⟩;have hi:i=0:=by
  have:=(aaX.1 b).1;simp at this;exact this
 subst hi;simp at b;subst b;have h1:=cell_of_row (w.alloc (.cells cs t)) w j cs t (0,0) (heap_alloc_new w _);rw[adY,abQ,abQ,h1,<-abG,a,hu]
theorem rL(hc:eY enc sz)(ys:List α):∀u∈ys.flatMap enc,u.oneCell'=true:=λu hu=>by
 obtain⟨y,_,a⟩:=List.mem_flatMap.1 hu;exact hc.one y u a
variable{P:aO}
theorem OW{t ty:aN}{bytes:Nat}(w:aA)(R:jM P t e sz bytes)(hc:eY enc sz)(a:bB enc sz w base e A c xs){d:Nat}{ys:List α}(hm:ys.length=m)(q:Sl enc sz w B ys)
 (C:xs.length+m<=maxLen) (f:(xs.length+m) *bytes<=140737488355328) (l:base<=w.heap.size):
 ∃A' n w',(Builtin.append_ #[t,t] ty #[(A,xs.length,c),(B,m,d)]).run P w= .ok (.slice A' (xs.length+m) n) w'/\bB enc sz w' base e A' n (xs++ys)/\w.grownBy w' (aZ A)/\
  (aZ A'=aZ A\/aZ A'=some w.heap.size):=by
 obtain⟨D,i,z,hi,S,hs,E,F,M⟩:=R;subst hm;have fin:∀p w',(Builtin.append_ #[t,t] ty #[(A,xs.length,c),(B,ys.length,d)]).run P w= .ok p w'->w'.ownsRow base e sz p (xs.length+ys.length) (xs.flatMap enc++ys.flatMap enc)->w.grownBy w' (Value.slice A xs.length c).ownBlock->
  (p.ownBlock=(Value.slice A xs.length c).ownBlock\/p.ownBlock=some w.heap.size)->
  ∃A' n w',(Builtin.append_ #[t,t] ty #[(A,xs.length,c),(B,ys.length,d)]).run P w= .ok (.slice A' (xs.length+ys.length) n) w'/\bB enc sz w' base e A' n (xs++ys)/\w.grownBy w' (aZ A)/\(aZ A'=aZ A\/aZ A'=some w.heap.size):=by
  intro p w' G ho N H;rw[<-aeW] at ho;have O:(xs++ys).length=xs.length+ys.length:=aaT;rw[<-O] at ho;obtain⟨A',n,rfl,_⟩:=Z2 hc.len ho;rw[A7] at N H;rw[A7] at H;exact⟨A',n,w',by rw[<-O];exact G,ho,N,H⟩
 cases B with
 |none=>
  have T:ys= []:=by
   cases ys with
   |nil=>rfl
   |cons y ys=>obtain⟨_,_,h,_⟩:=q aT;cases h
  subst T;refine fin (.slice A xs.length c) w ?_ (by simpa[bB] using a) (World.grownBy.refl w _) (.inl rfl);rcases a.2 with⟨h1,r⟩|⟨g,cap,cur,h1,_,_,I,_⟩
  .rw[h1];simp[Builtin.append_,run_underlying D,sizeOf,typeInfo,hi,Builtin.lenOf,Builtin.firstCells]
  .rw[h1];simp[Builtin.append_,run_underlying D,sizeOf,typeInfo,hi,Builtin.lenOf,Builtin.firstCells,I,storeCells]
 |some Q=>
  have k:∀j u,(ys.flatMap enc)[j]?=some u->w.cell? (Q.add j)=some u:=by
   intro j u hu;have s:0<ys.length:=by
    cases ys with
    |nil=>simp at hu
    |cons y ys=>simp
   obtain⟨b,off,J,K⟩:=q s;injection J with J;subst J;have U:j<ys.length *sz:=by
    have:=(aaX.1 hu).1;rw[fH hc.len] at this;exact this
   have hq:j /sz<ys.length:=aeO (by rw[adK];exact U);have G:j%sz<sz:=afU _ M;have v:j /sz *sz+j%sz=j:=by rw[adK];exact Nat.div_add_mod j sz
   have h1:=jG hc.len ys (j /sz) _ (j%sz) (aaG hq) G;rw[v,hu] at h1;have r:=K (j /sz) _ (j%sz) u (aaG hq) h1.symm;rw[v] at r;rw[<-r];unfold Addr.add;split
   .rename_i L;rw[L,aa3]
   .rfl
  obtain⟨p,w',x,r,I,_,V⟩:=run_append_own_at (P:=P) w base t ty e i z sz bytes D hi S hs E F M (.slice A xs.length c) xs.length (xs.flatMap enc) a Q ys.length d (ys.flatMap enc) (fH hc.len ys) k (rL hc ys) C f l;exact fin p w' x r I V
theorem D7{o:aK}{a:Act}{K:Act->aA->Prop}{t:aN}{bytes:Nat}(w:aA)(s x:Operand)(ho:o.op= .call {callee:= .builtin .append,args:=#[s,x],argTypes:=#[t,t]})
 (l:jM P t e sz bytes) (hc:eY enc sz) (g:bB enc sz w base e A c xs) (p:xs.length=n) (hs:a.eval s= .slice A n c) {d:Nat} {ys:List α} (q:a.eval x= .slice B m d) (hm:ys.length=m) (j:Sl enc sz w B ys)
 (k:n+m<=maxLen) (b:(n+m) *bytes<=140737488355328) (f:base<=w.heap.size) (H:Nat) (hH:w.heap.size=H) (N:Nat) (r:n+m=N)
 (h:∀A' i w',bB enc sz w' base e A' i (xs++ys)->w.grownBy w' (aZ A)->(aZ A'=aZ A\/aZ A'=some H)->K (a.put o.dst (.slice A' N i)) w'):o.wp P a w K Q:=by
 subst p;subst hH;subst r;obtain⟨A',i,w',u,v,y,z⟩:=OW (P:=P) (ty:=o.type) w l hc g hm j k b f;unfold Oper.wp execOp;simp only[ho,resolve,invoke,builtin,Sem.run_bind,Sem.run_pure,Result.andThen_ok,List.map_toArray,adL,ae9,hs,q];rw[u];exact h A' i w' v y z
theorem bN{ops:Array aK}{rest:List aK}{o:aK}{a:Act}{t:aN}{bytes:Nat}(w:aA)(j:o.guard=none)(s x:Operand)(ho:o.op= .call {callee:= .builtin .append,args:=#[s,x],argTypes:=#[t,t]})
 (p:jM P t e sz bytes) (hc:eY enc sz) (g:bB enc sz w base e A c xs) (q:xs.length=n) (hs:a.eval s= .slice A n c) {d:Nat} {ys:List α} (r:a.eval x= .slice B m d) (hm:ys.length=m) (k:Sl enc sz w B ys)
 (l:n+m<=maxLen) (b:(n+m) *bytes<=140737488355328) (f:base<=w.heap.size) (H:Nat) (hH:w.heap.size=H) (N:Nat) (u:n+m=N)
 (h:∀A' i w',bB enc sz w' base e A' i (xs++ys)->w.grownBy w' (aZ A)->(aZ A'=aZ A\/aZ A'=some H)->wpList P ops Q rest (a.put o.dst (.slice A' N i)) w'):wpList P ops Q (o::rest) a w:=
 wpList_plain j λ_ hK=>D7 w s x ho p hc g q hs r hm k l b f H hH N u λA' i w' v y z=>hK _ _ (h A' i w' v y z)
theorem lO{ops:Array aK}{o:aK}{a:Act}{K:Act->aA->Prop}{t:aN}{bytes:Nat}(w:aA)(i:o.guard=none)(s x:Operand)(ho:o.op= .call {callee:= .builtin .append,args:=#[s,x],argTypes:=#[t,t]})
 (p:jM P t e sz bytes) (hc:eY enc sz) (g:bB enc sz w base e A c xs) (q:xs.length=n) (hs:a.eval s= .slice A n c) {d:Nat} {ys:List α} (r:a.eval x= .slice B m d) (hm:ys.length=m) (j:Sl enc sz w B ys)
 (k:n+m<=maxLen) (b:(n+m) *bytes<=140737488355328) (f:base<=w.heap.size) (H:Nat) (hH:w.heap.size=H) (N:Nat) (u:n+m=N)
 (h:∀A' l w',bB enc sz w' base e A' l (xs++ys)->w.grownBy w' (aZ A)->(aZ A'=aZ A\/aZ A'=some H)->K (a.put o.dst (.slice A' N l)) w'):
 if Region.wanted o (yielded ops a.tmps)=true then Oper.wp P o a w K Q else ba:=by
 have hw:Region.wanted o (yielded ops a.tmps)=true:=by simp[Region.wanted,i]
 rw[aaK hw];exact D7 w s x ho p hc g q hs r hm j k b f H hH N u h
theorem Sl.drop{b off k:Nat}(h:Sl enc sz w (some ⟨b,off,none⟩) xs)(hk:k<xs.length):Sl enc sz w (some ⟨b,off+k *sz,none⟩) (xs.drop k):=λ_=>by
 obtain⟨l,d,a,hc⟩:=h aQ;injection a with a;injection a with h1 g;subst h1 g;refine⟨b,off+k *sz,rfl,λi x j u f hu=>?_⟩;rw[acL] at f;have:=hc (k+i) x j u f hu;rw[acN] at this;rw[show off+k *sz+(i *sz+j)=off+(k *sz+i *sz+j) by omega];exact this
end
theorem bB.empty{α:Type}{enc:α->List aC}(w:aA)(e:aN)(a:base<=w.heap.size):bB enc sz (w.alloc (.cells #[] e)) base e (some ⟨w.heap.size,0,none⟩) 0 []:=
 ⟨aT, .inr ⟨w.heap.size,0,#[],rfl,a,heap_alloc_new w _,aaH _,by simp[maxLen],aT,aT⟩⟩
theorem Sl.grown{α:Type}{enc:α->List aC}{xs:List α}{row:Option Nat}(h:Sl enc sz w A xs)(f:w.grownBy w' row)(a:∀g,row=some g->aZ A≠some g):Sl enc sz w' A xs:=λk=>by
 obtain⟨b,off,d,hc⟩:=h k;refine⟨b,off,d,λi x j u l hu=>?_⟩;have h1:=hc i x j u l hu;rw[World.cell?_of_block (w:=w) (f.block b (World.block_lt_of_cell? w _ h1) (λe=>a b e.symm (by rw[d];rfl)))];exact h1
theorem Sl.gK{α:Type}{enc:α->List aC}(hc:eY enc sz)(w:aA)(y:α)(cs:Array aC)(a:cs.toList=enc y)(t:aN){G:Nat}(b:w.heap.size=G):Sl enc sz (w.alloc (.cells cs t)) G [y]:=by
 subst b;exact Sl.new hc w y cs a t
def Ml{α:Type}(enc:α->List aC)(sz:Nat)(e:aN)(xs:List α)(w:aA)(en:aM)(w':aA):Prop:=
 ∃A c,en= .returned (.slice A xs.length c)/\bB enc sz w' w e A c xs/\aD w w w'
end
end
end Go.Proofs.YtacgiflhgdaeaaaGreat
