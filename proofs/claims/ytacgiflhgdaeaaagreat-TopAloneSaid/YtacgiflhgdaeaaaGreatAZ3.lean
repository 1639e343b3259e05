/- Texts laid as one. -/
import Derived.KernelRfl
import Derived.Shelf.Abstract
import Derived.Deep.DeepCutAuto
import Derived.Deep.CutBlock
import Derived.Test.YtacgiflhgdaeaaaGreatAZ1
import Derived.Test.YtacgiflhgdaeaaaGreatAZ2
set_option linter.unusedVariables false
set_option linter.unusedSimpArgs false
set_option maxRecDepth 100000
set_option maxHeartbeats 20000000
namespace Go.Proofs.YtacgiflhgdaeaaaGreat
open Go.Proofs.Tryz
open Go renaming World->aA,Value->aC,Addr->aJ,TypeId->aN,Calls->aG
open Go.RowKit renaming Below->aD,Hid->aH
open Go.Obj renaming cells->aI
section
open Go.RowKit Go.Lib
variable{i g:Nat}{v:aC}{w w' W:aA}{P:Program}{f:FuncId}{Q:Exit->Act->aA->Prop}
section
def EO(N:Nat)(t:aN)(c0:Array aC)(v:aC)(w:aA):Prop:=∃g,v= .pointer (some ⟨g,0,none⟩)/\N<=g/\bF w g t c0
theorem EO.keep{t:aN}{c0:Array aC}(h:EO i t c0 v w)(a:bS w w'):EO i t c0 v w':=by
 obtain⟨g,h1,b,c⟩:=h;exact⟨g,h1,b,c.keep a⟩
abbrev jA {w:aA} {p:aJ} {v:aC} (_:w.cell? p=some v):Nat:=w.heap.size
theorem JK{args:Array aC}(h:aG P f args w λe w'=>e= .returned v/\aD w w w'):aG P f args w λe w'=>e= .returned v/\bS w w':=h
theorem Q8(n:CW (bS W)):aD W W n.w:=n.ok
theorem iP{ops:Array Oper}{rest:List Oper}{op:Oper}{a:Act}{t:aN}{c0:Array aC}(hm:W.heap.size<=g)(hb:aD W W w)(hk:bF w g t c0)(b:op.guard=none)(ty:aN)(x y:Operand)(ho:op.op= .store ty x y)(c1:Array aC)(c:a.eval x= .pointer g)(d:a.eval y= .agg c1)(e:c0.size=c1.size)(hi:(P.info? ty).map (·.size)=some c1.size)(h1:c1.all (·.oneCell')=true)(h:∀w',aD W W w'->W.heap.size<=g/\bF w' g t c1->wpList P ops Q rest (a.put op.dst undef) w'):wpList P ops Q (op::rest) a w:=by
 refine wpList_store_mid b ty x y ho g 0 c1 c d (hk.there aQ) hi h1 ?_;refine h _ (KK hb (fJ g _ 0 _ _ (bK w g)) hm) ⟨hm,?_⟩;have:=hk.fill c1.toList (by simpa using e);simpa using this
end
end
section
namespace MZ
def MF(a s x:Nat):Nat:=x /2 ^ a%2 ^ s
theorem Hs(a s x:Nat):(x /2 ^ a) &&& (2 ^ s - 1)=MF a s x:=by
 rw[Nat.and_two_pow_sub_one_eq_mod];rfl
theorem Nq(s:Nat)(h1:1<=s)(a:s<=64):18446744073709551615 /2 ^ (64 - s)=2 ^ s - 1:=by
 obtain⟨k,rfl⟩:∃k,s=64 - k:=⟨64 - s,aQ⟩
 have hk:k<64:=aQ;have e:64 - (64 - k)=k:=aQ;rw[e];have:∀k:Fin 64,18446744073709551615 /2 ^ k.val=2 ^ (64 - k.val) - 1:=cC;exact this ⟨k,hk⟩
end MZ
end
section
open Go.RowKit
namespace Pa
def yK(a s:Int):Bool:=decide (1<=s/\s<=64/\0<=a/\a+s<=64)
theorem QW{a s:Int}(h:1<=s/\s<=64/\0<=a/\a+s<=64):yK a s=true:=aa2 h
theorem tK(a s:Int)(w:aA):
 aG prog 241 #[.agg #[a,s]] w λe w'=>e= .returned (.bool (yK a s))/\aD w w w':=by
 go_enter func241,ntmps241
 go_wp2
 all_goals go_ret
 all_goals refine⟨jL ?_,aX _ _⟩
 all_goals unfold yK
 all_goals first|(simp;done)|(simp;omega)|(rw[aeG];omega)
def zM(s:Int):Int:=2 ^ s.toNat - 1
theorem Hh(s:Int)(h1:1<=s)(b:s<=64):(18446744073709551615:Int) /2 ^ (64 - s).toNat=zM s:=by
 unfold zM;obtain⟨n,rfl⟩:=aaB (show 0<=s by omega);have h:=MZ.Nq n aQ aQ;have e:(64 - (n:Int)).toNat=64 - n:=aQ;rw[e,aaG];have c:=Nat.two_pow_pos n;have a:((18446744073709551615 /2 ^ (64 - n):Nat):Int)=((2 ^ n - 1:Nat):Int):=by rw[h]
 rw[Int.natCast_ediv,Int.natCast_sub aQ] at a;simpa using a
theorem UN(s:Int)(h1:1<=s)(a:s<=64):0<=zM s/\zM s<=18446744073709551615:=by
 unfold zM;have h:∀k:Fin 65,(0:Int)<=2 ^ k.val - 1/\(2:Int) ^ k.val - 1<=18446744073709551615:=cC;exact h ⟨s.toNat,aQ⟩
theorem Ey(a s:Int)(w:aA)(h1:1<=s)(b:s<=64)(c:0<=a)(d:a+s<=64):
 aG prog 242 #[.agg #[a,s]] w λe w'=>e= .returned (.int .u64 (zM s))/\aD w w w':=by
 have f:=QW ⟨h1,b,c,d⟩;go_enter func242,ntmps242
 go_wp2_with(go_at_call 241;refine(tK _ _ _).mono ?_;rintro e w' ⟨rfl,hb⟩;obtain⟨hc,hf⟩:=WY hb)
 go_ret
 exact⟨lT (Hh s h1 b),(aX _ _).trans (hb.mono aT)⟩
theorem Bi(a:Int)(b:0<=a)(c:a<=64):min (IntKind.u64.wrap a).toNat 64=a.toNat:=by
 rw[IntKind.wrap_u64,Int.emod_eq_of_lt b aQ];omega
theorem Rj(a s x:Int)(w:aA)(h:yK a s=false):
 aG prog 203 #[.agg #[a,s], .int .u64 x] w λe w'=>e= .returned (.int .u64 0)/\aD w w w':=by
 go_enter func203,ntmps203
 go_wp2_with(go_at_call 241;refine(tK _ _ _).mono ?_;rintro e w' ⟨rfl,hb⟩;obtain⟨hc,hf⟩:=WY hb)
 go_ret
 exact⟨rfl,fK (aX _ _) (Zw _) hb⟩
theorem If(a s x:Int)(h1:1<=s)(b:s<=64)(c:0<=a)(h:a+s<=64)(d:0<=x)(i:x<18446744073709551616):
 bits BinOp.and IntKind.u64 (x /2 ^ min (IntKind.u64.wrap a).toNat 64) (zM s)=(MZ.MF a.toNat s.toNat x.toNat:Nat):=by
 rw[Bi a c aQ];obtain⟨n,rfl⟩:=aaB d;have e:=UN s h1 b;unfold zM at e⊢;have f:(n:Int) /2 ^ a.toNat=((n /2 ^ a.toNat:Nat):Int):=by rw[Int.natCast_ediv];simp
 have g:((2:Int) ^ s.toNat - 1)=((2 ^ s.toNat - 1:Nat):Int):=by
  have:=Nat.two_pow_pos s.toNat;rw[Int.natCast_sub aQ];simp
 have hd:n /2 ^ a.toNat<=n:=Nat.div_le_self _ _;rw[f,g,u64_and_nat _ _ aQ aQ,MZ.Hs,aaG]
theorem Lg(a s x:Int)(w:aA)(h1:1<=s)(c:s<=64)(d:0<=a)(f:a+s<=64)(g:0<=x)(h:x<18446744073709551616):
 aG prog 203 #[.agg #[a,s], .int .u64 x] w λe w'=>e= .returned (.int .u64 (MZ.MF a.toNat s.toNat x.toNat))/\aD w w w':=by
 have j:=QW ⟨h1,c,d,f⟩;go_enter func203,ntmps203
 go_wp2_with(go_at_call 241;refine(tK _ _ _).mono ?_;rintro e b ⟨rfl,hb⟩)
 have i:=fK (aX _ _) (Zw _) hb;have c0:b.cell? (w.heap.size,0)=some (.int .i64 a):=bG hb aT;have c1:b.cell? (w.heap.size,1)=some (.int .i64 s):=bG hb aT;clear hb;go_region_held3 (λw'=>aD b b w'/\w'.cell? (w.heap.size,0)=some (.int .i64 a)/\w'.cell? (w.heap.size,1)=some (.int .i64 s))
  (first|exact⟨(Below.refl _ _).drew,c0,c1⟩|exact Vg ‹_› hb)
  (first|(go_at_call 242;refine(Ey _ _ _ h1 c d f).mono ?_;rintro e w' ⟨rfl,hb⟩))
 go_wp2
 go_ret
 exact⟨lT (If a s x h1 c d f g h),fK i.drew (Zw _) hb⟩
end Pa
end
section
namespace Pa
structure Fl where
 at_:Int
 size:Int
def DQ(f:Fl):Bool:=yK f.at_ f.size
theorem Gi{f:Fl}(h:DQ f=true):1<=f.size/\f.size<=64/\0<=f.at_/\f.at_+f.size<=64:=abQ h
def tD(f:Fl)(x:Int):Int:=if DQ f then(MZ.MF f.at_.toNat f.size.toNat x.toNat:Nat) else 0
end Pa
end
section
open Go.RowKit
section
namespace Pa
def eF(f:Fl):List aC:= [.int .i64 f.at_, .int .i64 f.size]
theorem Js:eL eF 2:=⟨λ_=>rfl,λx u hu=>by simp[eF] at hu;rcases hu with rfl|rfl <;> rfl⟩
variable{w:aA}{A:Option aJ}{i:Nat}
theorem _root_.Go.Proofs.YtacgiflhgdaeaaaGreat.Sl.Ut{xs:List Fl}(h:Sl eF 2 w A xs)(hi:i<xs.length):
 ∃b off,A=some ⟨b,off,none⟩/\w.cell? ⟨b,off+i *2,none⟩=some (.int .i64 xs[i].at_)/\w.cell? ⟨b,off+i *2+1,none⟩=some (.int .i64 xs[i].size):=by
 obtain⟨b,off,a,hc⟩:=h.at_ hi;exact⟨b,off,a,by simpa using hc 0 _ (show(eF xs[i])[0]?=some (.int .i64 xs[i].at_) from rfl),by simpa[abD] using hc 1 _ (show(eF xs[i])[1]?=some (.int .i64 xs[i].size) from rfl)⟩
end Pa
end
namespace Pa
end Pa
section
namespace Pa
theorem get_at(f:Fl)(x:Int)(w:aA)(b:0<=x)(c:x<18446744073709551616):
 aG prog 203 #[.agg #[f.at_,f.size], .int .u64 x] w λe w'=>e= .returned (.int .u64 (tD f x))/\aD w w w':=by
 unfold tD;cases a:DQ f
 .exact Rj _ _ _ _ a
 .have:=Gi a;exact Lg _ _ _ _ this.1 this.2.1 this.2.2.1 this.2.2.2 b c
theorem QO:(prog.info? 75).map (λi=>(i.zero,i.size,i.bytes))=some (some (.int .u64 0),1,8):=aV
theorem Sn:jS prog 34 75 1 8:=fU underlying34 QO rfl aQ
theorem OH(A:Option aJ)(l:List Fl)(x:Int)(c:Nat)(w:aA)(hs:Sl eF 2 w A l)(h1:l.length<=40)(B:0<=x)(C:x<18446744073709551616):
 aG prog 160 #[(A,l.length,c), .int .u64 x] w (WE eU 1 75 (l.map (tD · x)) w):=by
 obtain⟨i0,r,s,t,u⟩:=info_parts QO;go_enter func160,ntmps160
 go_wp2_with(at_make;refine wpList_make_own _ rfl _ _ 34 rfl w.heap.size 75 i0 _ 1 underlying34 r s t _ _ _ l.length rfl rfl rfl (by rw[u];omega) dI (Zw _) ?_;intro D a g)
 have h:aD w w D:=(Below.refl _ _).grown g (Zw _) (λk hk=>by cases hk);clear g;go_loopw [5,13] (λv i wr=>∃(k:Nat) (O:Option aJ) (d:Nat),k<=l.length/\i= .int .i64 k/\v= .slice O k d/\bI eU 1 wr w.heap.size 75 O d ((l.take k).map (tD · x))/\aD w w wr) (λ_ i _=>l.length - (intOf i).toNat)
 case atStart=>exact⟨0,_,_,aaH _,rfl,rfl,a,h⟩
 case round=>
  clear a h;obtain⟨k,O,d,hk,rfl,rfl,own,f⟩:=hrel;by_cases j:k<l.length
  .obtain⟨b,off,rfl,c0,c1⟩:=(hs.keep f).Ut j;have E:aH (((l.take k).map (tD · x)).length=k):=by simp[aH];omega
   have F:=aP (λW=>get_at l[k] x W B C);have G:aH ((l.take (k+1)).map (tD · x)=(l.take k).map (tD · x)++ [tD l[k] x]):=by unfold aH;rw[List.take_succ_eq_append_getElem j,adU];rfl
   generalize tD l[k] x=y at *;go_wp2_with(first|(go_at_call 203;(refine aS (F.o _) ?_);rintro e w5 ⟨rfl,hb⟩;replace own:=(own.alloc _).keep hb;replace f:=fK (f.alloc f.size _) (Zw _) hb;clear hb;have H:=f.size)|(at_builtin;refine bP _ rfl _ _ rfl Sn xS (own.alloc _) (n:=k) E.o rfl (m:=1) rfl (ys:= [y]) rfl (Sl.new xS w5 _ _ rfl _) dI aQ bT _ rfl (k+1) rfl ?_;intro I J L p z K))
   go_roundw
   case rel=>exact⟨k+1,I,J,aQ,by go_num,rfl,by rw[G.o];exact p,(f.alloc f.size _).grown z bT (λq hq=>(own.lt q hq).1)⟩
   case measure=>simp[intOf];omega
  .obtain rfl:k=l.length:=aQ;go_wp2
   go_ret
   exact⟨O,d,aT,by simpa using own,f⟩
variable{w:aA}{b i:Nat}
theorem _root_.Go.Proofs.YtacgiflhgdaeaaaGreat.Sl.GC{off:Nat}{xs:List Int}(h:Sl eU 1 w (some ⟨b,off,none⟩) xs)(hi:i<xs.length):w.cell? (b,off+i)=some (.int .u64 xs[i]):=by
 obtain⟨c,a,heq,h1⟩:=h.ZK hi;injection heq with heq;injection heq with q1 q2;subst q1 q2;exact h1
end Pa
end
namespace Pa.Cp
def fC(op:Int)(i:Nat):Bool:=
 match i with
 |0=>!(op==0 || op==14)
 |1=>!(op==0 || op==14 || op==16 || op==18 || op==1 || op==15 || op==17)
 |2=>!(op==0 || op==14 || op==16 || op==18 || op==1 || op==15 || op==17 || op==12 || op==13)
 |_=>op==14 || op==1 || op==15 || op==17 || op==12 || op==13
def rJ(n:Int)(had:Bool):Bool:=if had then decide (0<=n/\n<=7) else n==0
def OO:Int:=17592186044415
def iH(n:Int)(had:Bool):Bool:=if had then decide (n<=OO) else n==0
def sE(op a b c n:Int):Bool:=decide (0<=op/\op<=18)&&rJ a (fC op 0)&&rJ b (fC op 1)&&rJ c (fC op 2)&&iH n (fC op 3)
theorem yP(n:Int)(a:Bool)(w:aA):aG prog 279 #[n,a] w λe w'=>e= .returned (.bool (rJ n a))/\w=w':=by
 cases a
 .go_enter func279,ntmps279
  go_wp2
  go_ret
  exact⟨rfl,rfl⟩
 .go_enter func279,ntmps279
  go_wp2
  all_goals go_ret
  all_goals refine⟨jL ?_,rfl⟩
  all_goals unfold rJ
  all_goals simp
  all_goals omega
theorem lU(op:Int)(w:aA)(a:0<=op)(h1:op<=18):aG prog 278 #[op] w λe w'=>e= .returned (.tuple #[.bool (fC op 0), .bool (fC op 1), .bool (fC op 2), .bool (fC op 3)])/\w=w':=by
 obtain⟨n,rfl⟩:=aaB a;have b:n<=18:=aQ;clear a h1;rcases(show n=0\/n=1\/n=2\/n=3\/n=4\/n=5\/n=6\/n=7\/n=8\/n=9\/n=10\/n=11\/n=12\/n=13\/n=14\/n=15\/n=16\/n=17\/n=18 by omega) with rfl|rfl|rfl|rfl|rfl|rfl|rfl|rfl|rfl|rfl|rfl|rfl|rfl|rfl|rfl|rfl|rfl|rfl|rfl
 all_goals
  clear b;go_enter func278,ntmps278
  go_wp2
  exact bodyPost_ret (v:= .tuple #[_,_,_,_]) (by simp[results,results278,go_sem];exact⟨rfl,rfl,rfl,rfl⟩) rfl ⟨rfl,rfl⟩
theorem V7(op a b c n:Int)(w:aA)(r:0<=n):aG prog 255 #[.agg #[op,a,b,c, .int .u64 n]] w λe w'=>e= .returned (.bool (sE op a b c n))/\aD w w w':=by
 by_cases g:0<=op/\op<=18
 .obtain⟨g,h1⟩:=g;have h:=aP (λW=>lU op W g h1);have j:sE op a b c n=(rJ a (fC op 0)&&rJ b (fC op 1)&&rJ c (fC op 2)&&iH n (fC op 3)):=by unfold sE;simp[g,h1]
  rw[j];clear j;have l:=aP (λW=>yP a (fC op 0) W);have m:=aP (λW=>yP b (fC op 1) W);have p:=aP (λW=>yP c (fC op 2) W);generalize rJ a (fC op 0)=q at *;generalize rJ b (fC op 1)=q1 at *;generalize rJ c (fC op 2)=q2 at *;generalize fC op 0=p0 at *;generalize fC op 1=p1 at *;generalize fC op 2=p2 at *;cases k:fC op 3
  .rw[k] at h;clear k;by_cases d:n=0
   .subst d;have f:aH (iH 0 false=true):=rfl;cases q <;> cases q1 <;> cases q2
    all_goals
     go_enter func255,ntmps255
     go_wp2_with(first|(go_at_call 278;(with_reducible refine(h.o _).mono ?_);rintro e i ⟨rfl,rfl⟩)|(go_at_call 279;(first|(with_reducible refine(l.o _).mono ?_)|(with_reducible refine(m.o _).mono ?_)|(with_reducible refine(p.o _).mono ?_));rintro e i ⟨rfl,rfl⟩))
     go_ret
     exact⟨by rw[f.o];first|(simp;done)|(simp;omega),aX _ _⟩
   .have hb:(n !=0)=true:=by simp[d]
    have f:aH (iH n false=false):=by unfold aH iH;simp[d]
    clear d;go_enter func255,ntmps255
    go_wp2_with(first|(go_at_call 278;(refine aS (h.o _) ?_);rintro e i ⟨rfl,rfl⟩))
    go_ret
    exact⟨by rw[f.o];first|(simp;done)|(simp;omega),aX _ _⟩
  .rw[k] at h;clear k;by_cases d:n<=17592186044415
   .have f:aH (iH n true=true):=by unfold aH iH OO;simp[d]
    cases q <;> cases q1 <;> cases q2
    all_goals
     go_enter func255,ntmps255
     go_wp2_with(first|(go_at_call 278;(with_reducible refine(h.o _).mono ?_);rintro e i ⟨rfl,rfl⟩)|(go_at_call 279;(first|(with_reducible refine(l.o _).mono ?_)|(with_reducible refine(m.o _).mono ?_)|(with_reducible refine(p.o _).mono ?_));rintro e i ⟨rfl,rfl⟩))
     go_ret
     exact⟨by rw[f.o];first|(simp;done)|(simp;omega),aX _ _⟩
   .have f:aH (iH n true=false):=by
     unfold aH iH OO;exact aaP d
    cases q <;> cases q1 <;> cases q2
    all_goals
     go_enter func255,ntmps255
     go_wp2_with(first|(go_at_call 278;(with_reducible refine(h.o _).mono ?_);rintro e i ⟨rfl,rfl⟩)|(go_at_call 279;(first|(with_reducible refine(l.o _).mono ?_)|(with_reducible refine(m.o _).mono ?_)|(with_reducible refine(p.o _).mono ?_));rintro e i ⟨rfl,rfl⟩))
     go_ret
     exact⟨by rw[f.o];first|(simp;done)|(simp;omega),aX _ _⟩
 .have j:sE op a b c n=false:=by unfold sE;simp[g]
  rw[j];clear j;by_cases h1:op<0
  .go_enter func255,ntmps255
   go_wp2
   go_ret
   exact⟨rfl,aX _ _⟩
  .have s:18<op:=aQ;clear g;go_enter func255,ntmps255
   go_wp2
   go_ret
   exact⟨rfl,aX _ _⟩
end Pa.Cp
section
namespace Pa.Cp
def nN:List Fl:= [⟨0,8⟩,⟨8,4⟩,⟨12,4⟩,⟨16,4⟩,⟨20,44⟩]
theorem D8(x:Nat)(a:x<18446744073709551616):nN.map (tD · (x:Int))= [((x%256:Nat):Int),((x /256%16:Nat):Int),((x /4096%16:Nat):Int),((x /65536%16:Nat):Int),((x /1048576:Nat):Int)]:=by
 simp[nN,tD,DQ,yK,MZ.MF];omega
variable{ia:Bool}
theorem QD{n:Int}(h:rJ n ia=true):0<=n/\n<=7:=by
 unfold rJ at h;cases ia
 .simp at h;omega
 .simp at h;omega
theorem Qx{n:Int}(h:iH n ia=true):n<=17592186044415:=by
 unfold iH OO at h;cases ia
 .simp at h;omega
 .simp at h;omega
variable{op:Int}
theorem Gu{a b c n:Int}(h:sE op a b c n=true):(0<=op/\op<=18)/\(0<=a/\a<=7)/\(0<=b/\b<=7)/\(0<=c/\c<=7)/\n<=17592186044415:=by
 unfold sE at h;simp only[aa6,acB] at h;obtain⟨⟨⟨⟨d,h1⟩,e⟩,f⟩,g⟩:=h;exact⟨d,QD h1,QD e,QD f,Qx g⟩
end Pa.Cp
end
section
namespace Pa.Cp
variable{sz:Nat}
theorem _root_.Go.Proofs.YtacgiflhgdaeaaaGreat.Sl.Ya{α:Type}{enc:α->List aC}(he:eL enc sz)(w:aA)(xs:List α)(cs:Array aC)(a:cs.toList=xs.flatMap enc)(t:aN):Sl enc sz (w.alloc (.cells cs t)) (some ⟨w.heap.size,0,none⟩) xs:=λ_=>by
 refine⟨w.heap.size,0,rfl,λi x j u b hu=>?_⟩;have c:j<sz:=by rw[<-he.len x];exact(aaN.1 hu).1
 have h1:=cell_of_row (w.alloc (.cells cs t)) w (i *sz+j) cs t (0,0) (heap_alloc_new w _);rw[aa8,h1,<-aaX,a,kM he.len xs i x j b c,hu]
def tY:Array aC:=#[aU, .int .i64 8, .int .i64 8, .int .i64 4, .int .i64 12, .int .i64 4, .int .i64 16, .int .i64 4, .int .i64 20, .int .i64 44]
theorem DB(w:aA):aG prog 254 #[] w λe w'=>e= .returned (.slice w.heap.size 5 5)/\w'=w.alloc (.cells tY 384):=by
 go_enter func254,ntmps254
 go_wp2
 go_ret
 exact⟨rfl,rfl⟩
end Pa.Cp
end
namespace Pa.Cp
theorem tS(w:aA)(g:Nat)(v0 v1 v2 v3 v4:aC):w.grownBy (((((w.setCell (g,0) (v0)).setCell (g,1) (v1)).setCell (g,2) (v2)).setCell (g,3) (v3)).setCell (g,4) (v4)) (some g):=
 aZ (aZ (aZ (aZ (aZ (bK w g) 0 v0) 1 v1) 2 v2) 3 v3) 4 v4
theorem U1(x n0 n1 c f l:Nat)(w:aA)(S:x<18446744073709551616)(F:nN.map (tD · (x:Int))= [(n0:Int),(n1:Int),(c:Int),(f:Int),(l:Int)])(hs:n0<1000000000/\n1<1000000000/\c<1000000000/\f<1000000000)(q:Bool)(hq:sE n0 n1 c f l=q):
 aG prog 225 #[.int .u64 x] w λe w'=>e= .returned (if q then .tuple #[.agg #[n0,n1,c,f, .int .u64 l],aU] else .tuple #[.agg #[aU,aU,aU,aU,bC], .int .i64 21])/\aD w w w':=by
 have T:IntKind.i64.wrap (n0:Int)=n0:=by rw[IntKind.wrap_i64];omega
 have U:IntKind.i64.wrap (n1:Int)=n1:=by rw[IntKind.wrap_i64];omega
 have V:IntKind.i64.wrap (c:Int)=c:=by rw[IntKind.wrap_i64];omega
 have X:IntKind.i64.wrap (f:Int)=f:=by rw[IntKind.wrap_i64];omega
 have G:=aP (λW=>V7 n0 n1 c f l W aQ);rw[hq] at G;have O:aH (∀(W:aA) (A:Option aJ),Sl eF 2 W A nN->aG prog 160 #[.slice A 5 5, .int .u64 (x:Int)] W (WE eU 1 75 [(n0:Int),(n1:Int),(c:Int),(f:Int),(l:Int)] W)):=λW A h=>by rw[<-F];exact OH A nN x 5 W h cC aQ aQ
 clear F;have j:=aX w (aI #[aU,aU,aU,aU,bC] 365);have bk:=bF.new w 365 #[aU,aU,aU,aU,bC];go_enter func225,ntmps225
 go_wp2_with fail
 refine(DB _).mono ?_;rintro e Y ⟨rfl,rfl⟩;have b:=Sl.Ya Js (w.alloc (aI #[aU,aU,aU,aU,bC] 365)) nN tY rfl 384;generalize w.alloc (aI #[aU,aU,aU,aU,bC] 365)=wa at *;replace j:=j.alloc j.size (aI tY 384);replace bk:=bk.alloc (aI tY 384);go_wp2_with fail
 refine(O.o _ _ b).mono ?_;rintro e Z ⟨A,k,rfl,own,hb⟩;replace bk:=bk.keep hb;replace j:=fK j aT hb;clear hb b;rcases own.shape with⟨_,u,_⟩|⟨g,rfl⟩
 .cases u
 have b:=own.sl xS;have P:=own.lt g rfl;have c0:=b.GC (i:=0) aT;have c1:=b.GC (i:=1) aT;have c2:=b.GC (i:=2) aT;have c3:=b.GC (i:=3) aT;have c4:=b.GC (i:=4) aT;simp only[abL,abG,aa8] at c0 c1 c2 c3 c4;clear b own;go_wp2_with fail
 have m:=bD c0;have n:=bD c1;have p:=bD c2;have r:=bD c3;have s:=bD c4;refine bO (bS _) (λ_=>bS) [5] (λ_ v w=>EO (jA c0) 365 #[aU,aU,aU,aU,bC] v w) [21] [] 34 (bY _) (λ_ _ _ h B=>bU h B) (λ_ d hd _ v w w' _ h B=>h.keep B) aV aV bL ?_;repeat (first|(refine eA ?_)|(refine uG 5 [] bL bL bL bL (λγ w hC C=>?_) ?_;(simp only[cO];go_simp;exact p5 (aX w _) ⟨_,rfl,Below.size hC,bF.new w _ _⟩);(try refine dE ?_)))
 refine dC ?_;intro γ w_ hb_ C;clear m n p r s;simp only[cO,Act.put,Zx,aaE,aaD];refine dP ?_;obtain⟨g5,H,y,z⟩:=C 5 aT;simp only[H];clear C H;refine iP y hb_ z rfl 365 _ _ rfl #[n0,n1,c,f, .int .u64 l] rfl rfl rfl aV aV ?_;clear y hb_ z;intro w3 t D;refine cI ?_;simp only[Act.put];obtain⟨Q,a⟩:=D;replace bk:=bk.keep t;replace j:=fK j aT t;have I:=a.cell 0 n0 rfl;have J:=a.cell 1 n1 rfl;have K:=a.cell 2 c rfl;have L:=a.cell 3 f rfl;have M:=a.cell 4 (.int .u64 l) rfl;clear t;go_wp2_with fail
 refine(G.o _).mono ?_;rintro e N ⟨rfl,hb⟩;replace bk:=bk.keep hb;replace a:=a.keep hb;replace j:=fK j aT hb;clear hb I J K L M;have R:=bk.lt;have I:=a.cell 0 n0 rfl;have J:=a.cell 1 n1 rfl;have K:=a.cell 2 c rfl;have L:=a.cell 3 f rfl;have M:=a.cell 4 (.int .u64 l) rfl;have z0:=bk.cell 0 (.int .i64 0) rfl;have z1:=bk.cell 1 (.int .i64 0) rfl;have z2:=bk.cell 2 (.int .i64 0) rfl;have z3:=bk.cell 3 (.int .i64 0) rfl;have z4:=bk.cell 4 (.int .u64 0) rfl;have f0:=bk.frozen 0;have f1:=bk.frozen 1;have f2:=bk.frozen 2;have f3:=bk.frozen 3;have f4:=bk.frozen 4;cases q
 .go_wp2
  have E:=j.grown (tS N w (.int .i64 0) (.int .i64 0) (.int .i64 0) (.int .i64 0) (.int .u64 0)) j.size (λk hk=>by injection hk with hk;omega);exact bodyPost_ret (v:= .tuple #[.agg #[aU,aU,aU,aU,bC], .int .i64 21]) (by simp[results,results225,go_sem, *]) rfl ⟨rfl,E⟩
 .go_wp2
  have E:=j.grown (tS N w (.int .i64 n0) (.int .i64 n1) (.int .i64 c) (.int .i64 f) (.int .u64 l)) j.size (λk hk=>by injection hk with hk;omega);exact bodyPost_ret (v:= .tuple #[.agg #[n0,n1,c,f, .int .u64 l],aU]) (by simp[results,results225,go_sem, *]) rfl ⟨rfl,E⟩
end Pa.Cp
end
section
open Go.RowKit
open dF (En mJ kR fi mD ld lk lG qD MG pP zT IW IL)
open Fr (dX fL rO iW)
section
namespace Pa.Cp
def nD(L:List En)(a p:Int):Option (Int×Bool):=(L.find? (mJ a p)).map λx=>(x.frame,x.write)
variable{L:List En}{p:Int}
theorem Hk{a:Int}(h:fi L a p=none):nD L a p=none:=by
 unfold nD;rw[List.find?_eq_none.2 λx b hk=>MG h x b (kR.1 hk)];rfl
variable{i:Nat}
theorem Gg{a:Int}{x:En}(h:fi L a p=some i)(c:L[i]?=some x):nD L a p=some (x.frame,x.write):=by
 obtain⟨hi,hk,d⟩:=pP h;have e:L[i]=x:=by rw[Zv hi] at c;injection c
 unfold nD;rw[List.find?_eq_some_iff_getElem.2 ⟨by rw[<-e];exact kR.2 hk,i,hi,e,λj b=>?_⟩]
 .rfl
 .have:=d j b;cases hb:mJ a p L[j] with
  |false=>rfl
  |true=>exact absurd (kR.1 hb) this
theorem TL(u:qD L){a:Int}{q:Int×Bool}:nD L a p=some q↔∃e∈L,(e.env=a/\e.cN=p)/\(e.frame,e.write)=q:=by
 unfold nD;rw[Option.map_eq_some_iff];constructor
 .rintro⟨e,he,rfl⟩;exact⟨e,ad2 he,kR.1 (by simpa using List.find?_some he),rfl⟩
 .rintro⟨e,he,hk,rfl⟩;obtain⟨i,hi,rfl⟩:=aa1 he;refine⟨L[i],List.find?_eq_some_iff_getElem.2 ⟨kR.2 hk,i,hi,rfl,λj c=>?_⟩,rfl⟩;cases hb:mJ a p L[j] with
  |false=>rfl
  |true=>
   have b:=kR.1 hb;exact absurd ⟨b.1.trans hk.1.symm,b.2.trans hk.2.symm⟩ (acK.1 u j i aQ hi c)
theorem Mb{M:List En}(u:qD L)(v:qD M){a b q:Int}(h:∀r,(∃e∈L,(e.env=a/\e.cN=p)/\(e.frame,e.write)=r)↔(∃e∈M,(e.env=b/\e.cN=q)/\(e.frame,e.write)=r)):nD L a p=nD M b q:=by
 apply Option.ext;intro r;rw[TL u,TL v,h r]
theorem Bq(u:qD L)(a p:Int):qD (lk L a p):=by
 unfold lk;cases hf:fi L a p with
 |none=>exact u
 |some i=>
  obtain⟨hi,_,_⟩:=pP hf;simp only[Zv hi,adT];exact IW (zT u i) (IL u hi)
theorem Pq(L:List En)(a p:Int):(lk L a p).length=L.length:=by
 unfold lk;cases hf:fi L a p with
 |none=>rfl
 |some i=>
  obtain⟨hi,_,_⟩:=pP hf;simp only[Zv hi,adT,aaM,ab2,Zz hi,aa9,abM];omega
theorem Ov(hi:i<L.length){e:En}:e∈L.eraseIdx i++ [L[i]]↔e∈L:=by
 rw[aaO,aaK,adA];constructor
 .rintro(⟨j,b,_,rfl⟩|rfl)
  .exact aaF _
  .exact aaF _
 .intro he;obtain⟨j,b,rfl⟩:=aa1 he;by_cases a:j=i
  .subst a;exact .inr rfl
  .exact .inl ⟨j,b,a,rfl⟩
theorem Sr(u:qD L)(a p:Int):nD (lk L a p)=nD L:=by
 funext b q
 refine Mb (Bq u a p) u λr=>?_
 unfold lk;cases hf:fi L a p with
 |none=>exact Iff.rfl
 |some i=>
  obtain⟨hi,_,_⟩:=pP hf;simp only[Zv hi,adT,Ov hi]
structure In where
 op:Nat
 a:Nat
 b:Nat
 c:Nat
 n:Nat
def EC(x:Nat):Option In:=if sE ((x%256:Nat):Int) ((x /256%16:Nat):Int) ((x /4096%16:Nat):Int) ((x /65536%16:Nat):Int) ((x /1048576:Nat):Int)=true then some ⟨x%256,x /256%16,x /4096%16,x /65536%16,x /1048576⟩ else none
def QE(i:In):Prop:=i.op<=18/\i.a<=7/\i.b<=7/\i.c<=7/\i.n<=17592186044415
theorem Nx{x:Nat}{i:In}(h:EC x=some i):QE i:=by
 unfold EC at h;split at h
 .rename_i a;injection h with h;subst h;obtain⟨b,h1,c,d,e⟩:=Gu a;exact⟨(by omega:x%256<=18),(by omega:x /256%16<=7),(by omega:x /4096%16<=7),(by omega:x /65536%16<=7),(by omega:x /1048576<=17592186044415)⟩
 .cases h
structure St where
 R:List Int
 pc:Int
 s:dX
structure Tp where
 k:Int
 p:Int
 x:Int
def EY(R:List Int):Prop:=R.length=8/\∀v∈R,0<=v/\v<18446744073709551616
def rat(R:List Int)(i:Nat):Int:=(R[i]?).getD 0
def rk(op:Nat)(b c:Int):Int:=
 if op=2 then IntKind.u64.wrap (b+c) else if op=3 then IntKind.u64.wrap (b - c) else if op=4 then IntKind.u64.wrap (b *c)
 else if op=5 then b /c
 else if op=6 then IntKind.u64.wrap (BitVec.ofInt 64 b &&& BitVec.ofInt 64 c).toNat
 else if op=7 then IntKind.u64.wrap (BitVec.ofInt 64 b ||| BitVec.ofInt 64 c).toNat
 else if op=8 then IntKind.u64.wrap (BitVec.ofInt 64 b ^^^ BitVec.ofInt 64 c).toNat
 else if op=9 then IntKind.u64.wrap (b *2 ^ (c%64).toNat)
 else if op=10 then b /2 ^ (c%64).toNat
 else if b<c then 1 else 0
abbrev Tt:=Int->Option (Int×Bool)
def vA(b:Int)(n:Nat):Int:=IntKind.u64.wrap (b+n)
def JQ(t:Tt)(ad:Int)(wr:Bool):Except (Int×Int) Int:=match t (ad /16) with
 |none=> .error (5,ad)
 |some q=>if wr=true/\q.2=false then .error (6,ad) else .ok q.1
def GU(t:Tt)(s:dX)(ad:Int):Except (Int×Int) Int:=match JQ t ad false with
 | .error z=> .error z
 | .ok f=>if fL s f (ad%16)=0 then .ok (IntKind.u64.wrap (rO s f (ad%16))) else .error (5,ad)
def stM(t:Tt)(s:dX)(ad v:Int):Except (Int×Int) dX:=match JQ t ad true with
 | .error z=> .error z
 | .ok f=>if fL s f (ad%16)=0 then .ok (iW s f (ad%16) (v%256)) else .error (5,ad)
def kW(t:Tt)(i:In)(m:St):Except (Int×Int) (St×Tp):=
 let ra:=rat m.R i.a
 let rb:=rat m.R i.b
 let rc:=rat m.R i.c
 if i.op=0 then .error (2,0)
 else if i.op=1 then .ok (⟨m.R.set i.a i.n,m.pc+1,m.s⟩,⟨0,0,0⟩)
 else if i.op=12 then match GU t m.s (vA rb i.n) with
  | .error z=> .error z
  | .ok v=> .ok (⟨m.R.set i.a v,m.pc+1,m.s⟩,⟨0,0,0⟩)
 else if i.op=13 then match stM t m.s (vA rb i.n) ra with
  | .error z=> .error z
  | .ok s=> .ok (⟨m.R,m.pc+1,s⟩,⟨0,0,0⟩)
 else if i.op=14 then .ok (⟨m.R,i.n,m.s⟩,⟨0,0,0⟩)
 else if i.op=15 then .ok (⟨m.R,if ra=0 then m.pc+1 else i.n,m.s⟩,⟨0,0,0⟩)
 else if i.op=16 then .ok (⟨m.R,m.pc+1,m.s⟩,⟨1,m.pc,ra⟩)
 else if i.op=17 then .ok (⟨m.R.set i.a (m.pc+1),i.n,m.s⟩,⟨0,0,0⟩)
 else if i.op=18 then(if 17592186044415<ra then .error (3,ra) else .ok (⟨m.R,ra,m.s⟩,⟨0,0,0⟩))
 else if i.op=5/\rc=0 then .error (4,0)
 else .ok (⟨m.R.set i.a (rk i.op rb rc),m.pc+1,m.s⟩,⟨0,0,0⟩)
def mF(t:Tt)(C:List Int)(m:St):Tp×St:=
 if m.pc<0\/(C.length:Int)<=m.pc then(⟨3,m.pc,0⟩,m)
 else match EC (rat C m.pc.toNat).toNat with
  |none=>(⟨3,m.pc,rat C m.pc.toNat⟩,m)
  |some i=>match kW t i m with
   | .error z=>(⟨z.1,m.pc,z.2⟩,m)
   | .ok q=>(q.2,q.1)
def mZ(t:Tt)(C:List Int):Nat->Nat->St->Tp×Nat×St
 |0,n,m=>(⟨0,0,0⟩,n,m)
 |k+1,n,m=>if(mF t C m).1.k=0 then mZ t C k (n+1) (mF t C m).2 else if(mF t C m).1.k=1 then((mF t C m).1,n+1,(mF t C m).2) else((mF t C m).1,n,(mF t C m).2)
theorem T3(t:Tt)(C:List Int):∀(k n:Nat) (m:St),n<=(mZ t C k n m).2.1/\(mZ t C k n m).2.1<=n+k
 |0,n,m=>⟨Zw _,Zw _⟩
 |k+1,n,m=>by
  unfold mZ;split
  .have:=T3 t C k (n+1) (mF t C m).2;omega
  .split <;> simp <;> omega
end Pa.Cp
end
end
section
open Go.RowKit Go.Lib
section
namespace dF
def eE(e:En):List aC:= [.int .i64 e.env, .int .i64 e.cN, .int .i64 e.frame, .bool e.write]
theorem rM:eL eE 4:=⟨λ_=>rfl,λx u hu=>by simp[eE] at hu;rcases hu with rfl|rfl|rfl|rfl <;> rfl⟩
theorem TB:(prog.info? 396).map (λi=>(i.zero,i.size,i.bytes))=some (some (.agg #[aU,aU,aU,false]),4,32):=aV
theorem Wl:jS prog 312 396 4 32:=fU underlying312 TB rfl aQ
variable{w:aA}{A:Option aJ}{i:Nat}
theorem _root_.Go.Proofs.YtacgiflhgdaeaaaGreat.Sl.XG{xs:List En}(h:Sl eE 4 w A xs)(hi:i<xs.length):
 ∃b off,A=some ⟨b,off,none⟩/\w.cell? ⟨b,off+i *4,none⟩=some (.int .i64 xs[i].env)/\w.cell? ⟨b,off+i *4+1,none⟩=some (.int .i64 xs[i].cN)/\w.cell? ⟨b,off+i *4+1+1,none⟩=some (.int .i64 xs[i].frame)/\w.cell? ⟨b,off+i *4+1+1+1,none⟩=some (.bool xs[i].write):=by
 obtain⟨b,off,a,hc⟩:=h.at_ hi;refine⟨b,off,a,?_,?_,?_,?_⟩
 .simpa using hc 0 _ (show(eE xs[i])[0]?=some (.int .i64 xs[i].env) from rfl)
 .simpa[abD] using hc 1 _ (show(eE xs[i])[1]?=some (.int .i64 xs[i].cN) from rfl)
 .simpa[abD] using hc 2 _ (show(eE xs[i])[2]?=some (.int .i64 xs[i].frame) from rfl)
 .simpa[abD] using hc 3 _ (show(eE xs[i])[3]?=some (.bool xs[i].write) from rfl)
def Tb(w:aA)(g:Nat)(A:Option aJ)(c:Nat)(L:List En)(h m:Int):Prop:=
 bF w g 314 #[(A,L.length,c),h,m]/\bI eE 4 w (g+1) 396 A c L
variable{w':aA}{g:Nat}{L:List En}{h:Int}
theorem Tb.keep{c:Nat}{m:Int}(t:Tb w g A c L h m)(hb:aD w w w'):Tb w' g A c L h m:=⟨t.1.keep hb,t.2.keep hb⟩
theorem tH(a p:Int)(e:En)(b1 b2:Nat)(w:aA)(c1:w.cell? (b1,0)=some (.int .i64 a))(c2:w.cell? (b2,0)=some (.int .i64 p)):
 aG prog 275 #[.agg #[e.env,e.cN,e.frame,e.write], .pointer b1, .pointer b2] w λr w'=>r= .returned (.bool (mJ a p e))/\aD w w w':=by
 have h1:=bG (aX w (aI #[e.env,e.cN,e.frame,e.write] 396)) c1;have d:=bG (aX w (aI #[e.env,e.cN,e.frame,e.write] 396)) c2;clear c1 c2;cases c:(e.env==a)
 .have b:aH (mJ a p e=false):=by unfold aH mJ;rw[c];rfl
  go_enter func275,ntmps275
  go_wp2
  go_ret
  exact⟨jL b.o.symm,aX _ _⟩
 .have b:aH (mJ a p e=(e.cN==p)):=by unfold aH mJ;rw[c];rfl
  go_enter func275,ntmps275
  go_wp2
  go_ret
  exact⟨jL b.o.symm,aX _ _⟩
theorem CN:∀args w,(callFunc 275 args).run prog w= .ok (.enter 275 args) w:=enters_of func275 aV rfl
variable{p:Int}
theorem BX{a:Int}{k:Nat}(hk:k<L.length)(h:mJ a p L[k]=true)(c:∀j,(b:j<k)->mJ a p L[j]=false):wR L a p=k:=by
 unfold wR fi;rw[aaT.2 ⟨hk,h,λj b=>by rw[c j b];simp⟩]
theorem yL{a:Int}(h:∀j,(b:j<L.length)->mJ a p L[j]=false):wR L a p= -1:=by
 unfold wR fi;rw[abH.2 (λx c=>by obtain⟨j,b,rfl⟩:=aa1 c;exact h j b)]
theorem tU(A:Option aJ)(L:List En)(c:Nat)(a p:Int)(b1 b2:Nat)(w:aA)(hs:Sl eE 4 w A L)(hl:L.length<=1000)(c1:w.cell? (b1,0)=some (.int .i64 a))(c2:w.cell? (b2,0)=some (.int .i64 p)):
 aG prog 274 #[(A,L.length,c), .func (.func 275) #[] #[.pointer b1, .pointer b2]] w λe w'=>e= .returned (.int .i64 (wR L a p))/\aD w w w':=by
 have t:=CN;go_enter func274,ntmps274
 go_wp2
 go_loopw [5,8] (λ_ q wr=>∃k:Nat,k<=L.length/\q= .int .i64 k/\aD w w wr/\aH (∀j,(d:j<L.length)->j<k->mJ a p L[j]=false)) (λ_ i _=>L.length - (intOf i).toNat)
 case atStart=>exact⟨0,aaH _,rfl,Below.refl _ w,λj d h=>absurd h (acH _)⟩
 case round=>
  obtain⟨k,hk,rfl,f,l⟩:=hrel;by_cases g:k<L.length
  .obtain⟨b,off,rfl,u,v,x,z⟩:=(hs.keep f).XG g;have B:(0:Int)<=k:=aQ;have C:(k:Int)<(L.length:Int):=aQ;have hc:=tH a p L[k] b1 b2 wr (bG f c1) (bG f c2);have HQ:aH (mJ a p L[k]=true->wR L a p=k):=λh=>BX g h (λj d=>l.o j aQ d)
   have r:aH (mJ a p L[k]=false->∀j,(d:j<L.length)->j<k+1->mJ a p L[j]=false):=λh j d s=>by
    by_cases he:j=k
    .subst he;exact h
    .exact l.o j d aQ
   clear l;generalize L[k]=y at *;cases hq:mJ a p y with
   |true=>
    rw[hq] at hc;have m:=aP (HQ.o hq);go_wp2_with(go_at_fn 275;(with_reducible refine hc.mono ?_);rintro e w' ⟨rfl,hb⟩)
    go_ret
    exact⟨lT m.o.symm,fK f (Zw _) hb⟩
   |false=>
    rw[hq] at hc;have n:=aP (r.o hq);go_wp2_with(go_at_fn 275;(with_reducible refine hc.mono ?_);rintro e w' ⟨rfl,hb⟩)
    go_roundw
    case rel=>exact⟨k+1,aQ,by go_num,fK f (Zw _) hb,n.o⟩
    case measure=>simp[intOf];omega
  .obtain rfl:k=L.length:=aQ;go_wp2
   go_ret
   exact⟨lT (yL (λj d=>l.o j d d)).symm,f⟩
end dF
end
section
namespace dF
theorem rA(g:Nat)(A:Option aJ)(c:Nat)(L:List En)(h m a p:Int)(w:aA)(d:Tb w g A c L h m)(hl:L.length<=1000):
 aG prog 245 #[.pointer g,a,p] w λe w'=>e= .returned (.int .i64 (wR L a p))/\aD w w w':=by
 have b:aD w w ((w.alloc (aI #[a] 3)).alloc (aI #[p] 3)):=(aX _ _).alloc aT _;have t2:=d.keep b;have c0:=t2.1.cell 0 (.slice A L.length c) rfl;have hc:=tU A L c a p w (w.heap.size+1) _ (t2.2.sl rM) hl (bG (aX _ _) ((bF.new w 3 #[a]).cell 0 _ rfl)) ((bF.fI (w.alloc (aI #[a] 3)) 3 #[p] (g:=w.heap.size+1) aT).cell 0 _ rfl);go_enter func245,ntmps245
 go_wp2_with(go_at_call 274;(with_reducible refine hc.mono ?_);rintro e w' ⟨rfl,hb⟩)
 go_ret
 exact⟨rfl,fK b (Zw _) hb⟩
theorem SY:∀w,(zeroValue 396).run prog w= .ok (.agg #[aU,aU,aU,false]) w:=λw=>by kernel_rfl
variable{A:Option aJ}{n m:Nat}
theorem fH{c:Nat}(h:n=m):Ending.returned (.slice A n c)= .returned (.slice A m c):=by rw[h]
theorem lX(g c i k base:Nat)(L:List En)(w:aA)(own:bI eE 4 w base 396 g c L)(r:L.length=i+1+k)(hl:L.length<=1000):
 aG prog 276 #[.slice g L.length c,i, .int .i64 ((i:Int)+1)] w λe w'=>e= .returned (.slice g (L.eraseIdx i).length c)/\bI eE 4 w' base 396 g c (L.eraseIdx i)/\w.grownBy w' (some g):=by
 obtain⟨i0,n,G,p,H⟩:=info_parts TB;have s:(L.eraseIdx i).length=i+k:=by rw[ab2,Zz aQ];omega
 obtain⟨_,_,_,v,x,_,_⟩:=eV own;simp only[maxLen] at x;obtain⟨news,b⟩:∃news,news=(L.drop (i+1)).flatMap eE:=⟨_,rfl⟩
 have s1:aH (news.length=k *4):=by unfold aH;rw[b,eZ rM.len,acM];omega
 have s2:aH (∀u∈news,u.oneCell'=true):=λu hu=>qX rM _ u (by rw[<-b];exact hu)
 have D:aH (∀t,t<news.length->(w.drew.cell? ⟨g,0+i *4+t,none⟩).isSome=true/\w.drew.frozen? ⟨g,0+i *4+t,none⟩=false):=λt E=>by
  rw[s1.o] at E;exact cZ own _ aQ
 have I:aH (∀t u,news[t]?=some u->w.drew.cell? ((⟨g,(i+1) *4,none⟩:aJ).add t)=some u):=λt u hu=>by
  have E:t<k *4:=by rw[<-s1.o];exact(aaN.1 hu).1
  have hF:=oE rM.len L (i+1);rw[b,hF,abY] at hu;rw[Addr.add_lit];obtain⟨cur,_,J,_,_,_,K⟩:=eV own;show w.cell? _=_;rw[cell_of_row w g _ cur _ (0,0) J,<-hu,<-K,aa7,Zz aQ,aaX]
 obtain⟨m,h⟩:∃m,m=w.drew.setCells g (0+i *4) news:=⟨_,rfl⟩
 have F:=aP h;have y:=tG (w:=w.drew) rM.len own.drew i k r [.int .i64 0, .int .i64 0, .int .i64 0, .bool false] rfl;rw[<-b,show i *4=0+i *4 by omega,<-h] at y;have a:=aP y;have d:∀j,j<c *4->(m.cell? ⟨g,j,none⟩).isSome=true/\m.frozen? ⟨g,j,none⟩=false:=λj z=>by
  rw[h];have:=cZ own j z;exact⟨Go.World.isSome_setCells g _ _ _ _ this.1,by rw[World.frozen?_setCells];exact this.2⟩
 have l:∀ty q A,q=1->(Builtin.clear_ #[312] ty #[.slice (some ⟨g,(i+k) *4,none⟩) q A]).run prog m= .ok (.tuple #[]) (m.setCells g ((i+k) *4) [.int .i64 0, .int .i64 0, .int .i64 0, .bool false]):=λty q A B=>
  lE m _ 396 ty _ underlying312 SY [.int .i64 0, .int .i64 0, .int .i64 0, .bool false] aV cC g ((i+k) *4) q A B (λj z=>d _ (by simp at z;omega))
 clear h y d b;rw[r];rw[r] at v;have M:i<=c:=aQ;have N:i+1<=c:=aQ;have O:(0:Int)<=i+1:=aQ;have P:(i:Int)+1<=(i:Int)+1+(k:Int):=aQ;by_cases hce:c=i+1
 .obtain rfl:k=0:=aQ;obtain rfl:news= []:=aa5 (by rw[s1.o]);have C:aH (∀t u,([]:List aC)[t]?=some u->w.drew.cell? ((⟨g,0,none⟩:aJ).add t)=some u):=λt u hu=>by simp at hu
  subst hce;have f:=λty=>l ty (i+1 - i) (i+1 - i) aQ
  simp only[aaU] at f s⊢;have Q:(i:Int)<=(i:Int)+1:=aQ;have R:i+1 - i=1:=aQ;rw[R] at f;clear l;go_enter func276,ntmps276
  go_wp2_with fail
  go_region_law (refine step_append_room rfl (.tmp 22) (.tmp 25) 312 rfl 396 i0 4 underlying312 n p g 0 i (i+1) (by simp[Act.eval,Act.put]) ⟨g,0,none⟩ 0 0 [] (by simp[Act.eval,Act.put]) s1.o C.o s2.o aQ D.o ?_;rw[<-F.o])
  go_wp2
  go_ret
  exact⟨fH aQ,a.o.1,⟨a.o.2.os,a.o.2.tape,a.o.2.output,a.o.2.size,a.o.2.block⟩⟩
 .have f:=λty=>l ty (i+1+k - (i+k)) (c - (i+k)) aQ
  clear l;go_enter func276,ntmps276
  go_wp2_with fail
  go_region_law (refine step_append_room rfl (.tmp 22) (.tmp 25) 312 rfl 396 i0 4 underlying312 n p g 0 i c (by simp[Act.eval,Act.put]) ⟨g,(i+1) *4,none⟩ k (c - (i+1)) news (by simp[Act.eval,Act.put]) s1.o I.o s2.o aQ D.o ?_;rw[<-F.o])
  go_wp2
  go_ret
  exact⟨fH aQ,a.o.1,⟨a.o.2.os,a.o.2.tape,a.o.2.output,a.o.2.size,a.o.2.block⟩⟩
end dF
end
section
namespace dF
structure Tw(a w:aA)(g:Nat)(r:Option Nat):Prop where
 os:w.os=a.os
 tape:w.tape=a.tape
 output:w.output=a.output
 size:a.heap.size<=w.heap.size
 block:∀i,i<a.heap.size->i≠g->some i≠r->w.heap[i]?=a.heap[i]?
theorem Tw.refl(w:aA)(g:Nat)(r:Option Nat):Tw w w g r:=⟨rfl,rfl,rfl,Zw _,λ_ _ _ _=>rfl⟩
variable{w:aA}{g:Nat}{r:Option Nat}
theorem Tw.cB{a:aA}(h:aD a a w):Tw a w g r:=⟨h.os,h.tape,h.output,h.size,λi hi _ _=>h.block i hi⟩
variable{w':aA}
theorem Tw.trans{a:aA}(h:Tw a w g r)(k:Tw w w' g r):Tw a w' g r:=
 ⟨k.os.trans h.os,k.tape.trans h.tape,k.output.trans h.output,aaC h.size k.size,λi hi h1 b=>(k.block i (Zy hi h.size) h1 b).trans (h.block i hi h1 b)⟩
theorem Tw.grown{a:aA}(h:a.grownBy w r):Tw a w g r:=⟨h.os,h.tape,h.output,h.size,λi hi _ b=>h.block i hi b⟩
theorem Tw.bX{a:aA}(h:Tw a w g r)(i:Nat)(u:aC):Tw a (w.setCell (g,i) u) g r:=
 h.trans ⟨rfl,rfl,rfl,by simp[World.setCell],λk _ h1 _=>Below.heap_setCell w ⟨g,i,none⟩ u k h1⟩
variable{q:Nat}{cs:Array aC}
theorem Tw.aY{a:aA}(h:Tw a w g r){t:aN}(hc:bF a q t cs)(h1:q≠g)(b:some q≠r):bF w q t cs:=(h.block q hc.lt h1 b).trans hc
variable{A:Option aJ}{L:List En}{h:Int}
theorem Tb.JE{c:Nat}{m:Int}(t:Tb w g A c L h m):∀q,aY A=some q->g<q/\q<w.heap.size:=λq hq=>by
 have:=t.2.lt q hq;omega
variable{A':Option aJ}{c':Nat}{L':List En}
theorem Tb.slot{c:Nat}{m:Int}(t:Tb w g A c L h m)(hb:bF w' g 314 #[(A,L.length,c),h,m])
 (ho:bI eE 4 w' (g+1) 396 A' c' L'):Tb (w'.setCell (g,0) (.slice A' L'.length c')) g A' c' L' h m:=by
 refine⟨hb.bX 0 _,ho.kept (aZ (bK w' g) 0 _) ?_⟩;cases e:Go.Proofs.YtacgiflhgdaeaaaGreat.aY A' with
 |none=>exact .inl rfl
 |some q=>exact .inr (λa=>by injection a with a;have:=(ho.lt q e).1;omega)
variable{b:Nat}
theorem Tb.only{c:Nat}{m:Int}(t:Tb w g A c L h m)(a:w.grownBy w' (some b))(h1:g≠b)(d:aY A≠some b):Tb w' g A c L h m:=
 ⟨t.1.grown a (by simpa using h1),t.2.kept a (.inr d)⟩
def AV(w:aA)(b:Nat)(x:En):aA:=(((w.setCell (b,0) x.env).setCell (b,1) x.cN).setCell (b,2) x.frame).setCell (b,3) (.bool x.write)
theorem mU(w:aA)(b:Nat)(x:En):w.grownBy (AV w b x) (some b):=aZ (aZ (aZ (aZ (bK w b) 0 _) 1 _) 2 _) 3 _
variable{v0 v1 v2 v3:aC}
theorem kP(x:En){t:aN}(h:bF w b t #[v0,v1,v2,v3]):bF (AV w b x) b t #[x.env,x.cN,x.frame,x.write]:=
 (((h.bX 0 _).bX 1 _).bX 2 _).bX 3 _
theorem Tw.only{a:aA}(h:Tw a w g r)(k:w.grownBy w' (some b))(hb:a.heap.size<=b):Tw a w' g r:=
 ⟨k.os.trans h.os,k.tape.trans h.tape,k.output.trans h.output,aaC h.size k.size,λi hi h1 c=>(k.block i (Zy hi h.size) bT).trans (h.block i hi h1 c)⟩
def Ji(g:Nat)(A:Option aJ)(c:Nat)(L:List En)(h m:Int)(x:En)(w:aA)(e:Ending)(w':aA):Prop:=e= .returned (.agg #[x.env,x.cN,x.frame,x.write])/\Tb w' g A c L h m/\Tw w w' g (aY A)
variable{i:Nat}
theorem DK{base:Nat}{e:aN}{c:Nat}(h:bI eE 4 w base e b c L)(hi:i<L.length):
 w.cell? (b,i *4)=some (.int .i64 L[i].env)/\w.cell? (b,i *4+1)=some (.int .i64 L[i].cN)/\w.cell? (b,i *4+1+1)=some (.int .i64 L[i].frame)/\w.cell? (b,i *4+1+1+1)=some (.bool L[i].write):=by
 obtain⟨l,off,a,d,f,g,j⟩:=(h.sl rM).XG hi;injection a with a;injection a with h1 k;subst h1 k;simp only[aa8] at d f g j;exact⟨d,f,g,j⟩
theorem RN(g:Nat)(A:Option aJ)(c:Nat)(L:List En)(h m:Int)(i:Nat)(w:aA)(s:Tb w g A c L h m)(hl:L.length<=1000)(hi:i<L.length):
 aG prog 246 #[.pointer g,i] w (Ji g A c (L.eraseIdx i) h m L[i] w):=by
 have l:=s.JE;rcases s.2.shape with⟨rfl,rfl,rfl⟩|⟨q,rfl⟩
 .exact absurd hi aT
 .obtain⟨F,G⟩:=l q rfl;clear l;have j:=aX w (aI #[aU,aU,aU,false] 396);have t2:=s.keep j;have c0:=t2.1.cell 0 (.slice q L.length c) rfl;obtain⟨H,I,J,K⟩:=DK t2.2 hi;have r1:=bF.new w 396 #[aU,aU,aU,false];have M:(0:Int)<=i:=aQ;have N:(i:Int)<(L.length:Int):=aQ;generalize L[i]=x at *;obtain⟨k,hk⟩:∃k,L.length=i+1+k:=⟨L.length - i - 1,aQ⟩
  have d:=aX (w.alloc (aI #[aU,aU,aU,false] 396)) (aI #[x.env,x.cN,x.frame,x.write] 396);have HD:=aP (λW O=>lX q c i k (g+1) L W O hk hl);have t3:=aP (t2.keep d);have y:=t3.o.1.cell 0 (.slice q L.length c) rfl;have z:=bF.fI (w.alloc (aI #[aU,aU,aU,false] 396)) 396 #[x.env,x.cN,x.frame,x.write] (g:=w.heap.size+1) aT;have B:=r1.keep d;have n:aD w w _:=fK j (Zw _) d;clear hk t2 r1 j s hi;go_enter func246,ntmps246
  go_wp2_with fail
  (refine(HD.o _ t3.o.2).mono ?_)
  rintro e C ⟨rfl,f,a⟩;have t:=t3.o.1.grown a bT;have D:=B.grown a bT;have E:=z.grown a bT;have f4:=t.frozen 0;have z4:=t.cell 0 (.slice q L.length c) rfl;have P:=aP (t3.o.slot t f);have b:=D.rU (p:=⟨g,0,none⟩) bT (.slice q (L.eraseIdx i).length c);have r:=E.rU (p:=⟨g,0,none⟩) bT (.slice q (L.eraseIdx i).length c);have Q:aH (Tw w (C.setCell (g,0) (.slice q (L.eraseIdx i).length c)) g (aY q)):=((Tw.cB n).trans (Tw.grown a)).bX 0 _;have U:=r.cell 0 x.env rfl;have V:=r.cell 1 x.cN rfl;have X:=r.cell 2 x.frame rfl;have Y:=r.cell 3 (.bool x.write) rfl;have u:=aP b;have v0:=b.cell 0 (.int .i64 0) rfl;have v1:=b.cell 1 (.int .i64 0) rfl;have v2:=b.cell 2 (.int .i64 0) rfl;have v3:=b.cell 3 (.bool false) rfl;have g0:=b.frozen 0;have g1:=b.frozen 1;have g2:=b.frozen 2;have g3:=b.frozen 3;clear b r D E t f a t3 y c0 H I J K B z HD n d;generalize (L.eraseIdx i)=R at *;generalize S:C.setCell (g,0) (.slice q R.length c)=T at *;go_wp2_with fail
  obtain⟨d0,d1,d2,d3⟩:_/\_/\_/\_:=⟨(kP x u.o).cell 0 x.env rfl,(kP x u.o).cell 1 x.cN rfl,(kP x u.o).cell 2 x.frame rfl,(kP x u.o).cell 3 (.bool x.write) rfl⟩
  change bodyPost _ _ _ _ _ (AV T w x)
  exact bodyPost_ret (v:= .agg #[x.env,x.cN,x.frame,x.write]) (by simp[results,results246,go_sem,d0,d1,d2,d3]) rfl ⟨rfl,P.o.only (mU _ _ _) aQ (by simp[aY];omega),Q.o.only (mU _ _ _) (Zw _)⟩
end dF
end
namespace dF
def Vi(g:Nat)(A0:Option aJ)(L:List En)(h m:Int)(w:aA)(e:Ending)(w':aA):Prop:=∃(y:En) (b:Bool) (A:Option aJ) (c:Nat),e= .returned (.tuple #[.agg #[y.env,y.cN,y.frame,y.write],b,aU])/\Tb w' g A c L h m/\Tw w w' g (aY A0)/\(aY A=aY A0\/∀q,aY A=some q->w.heap.size<=q)
theorem Hg(L:List En)(X:En):(mD L X).length<=L.length:=by
 unfold mD;cases fi L X.env X.cN with
 |none=>simp only;split <;> simp[ac3]
 |some i=>exact ac3 _ _
def FR:En:=⟨0,0,0,false⟩
theorem Nj(X:En)(g:Nat)(w:aA)(d:lG X=false):
 aG prog 210 #[.pointer g, .agg #[X.env,X.cN,X.frame,X.write]] w λe w'=>e= .returned (.tuple #[.agg #[aU,aU,aU,false],false, .int .i64 1])/\aD w w w':=by
 have c:=aP (λW=>tK X W);rw[d] at c;have b:aD w w ((w.alloc (aI #[X.env,X.cN,X.frame,X.write] 396)).alloc (aI #[aU,aU,aU,false] 396)):=(aX _ _).alloc aT _;have r1:=bF.fI (w.alloc (aI #[X.env,X.cN,X.frame,X.write] 396)) 396 #[aU,aU,aU,false] (g:=w.heap.size+1) aT;go_enter func210,ntmps210
 go_wp2_with fail
 refine(c.o _).mono ?_;rintro e f ⟨rfl,hb⟩;replace b:=fK b (Zw _) hb;replace r1:=r1.keep hb;have a:=aP r1;have v0:=r1.cell 0 (.int .i64 0) rfl;have v1:=r1.cell 1 (.int .i64 0) rfl;have v2:=r1.cell 2 (.int .i64 0) rfl;have v3:=r1.cell 3 (.bool false) rfl;have g0:=r1.frozen 0;have g1:=r1.frozen 1;have g2:=r1.frozen 2;have g3:=r1.frozen 3;clear r1 hb;go_wp2_with fail
 obtain⟨d0,d1,d2,d3⟩:_/\_/\_/\_:=⟨(kP FR a.o).cell 0 (.int .i64 0) rfl,(kP FR a.o).cell 1 (.int .i64 0) rfl,(kP FR a.o).cell 2 (.int .i64 0) rfl,(kP FR a.o).cell 3 (.bool false) rfl⟩
 change bodyPost _ _ _ _ _ (AV f (w.heap.size+1) FR)
 exact bodyPost_ret (v:= .tuple #[.agg #[aU,aU,aU,false],false, .int .i64 1]) (by simp[results,results210,go_sem,d0,d1,d2,d3]) rfl ⟨rfl,KK b (mU _ _ _) aQ⟩
theorem Ec(X:En)(g:Nat)(A:Option aJ)(c:Nat)(L:List En)(h m:Int)(w:aA)(hX:lG X=true)(r:Tb w g A c L h m)(hl:L.length<=100):
 aG prog 210 #[.pointer g, .agg #[X.env,X.cN,X.frame,X.write]] w (Vi g A (ld L X) h m w):=by
 have Y:=aP (λW=>tK X W);rw[hX] at Y;have M:aD w w ((w.alloc (aI #[X.env,X.cN,X.frame,X.write] 396)).alloc (aI #[aU,aU,aU,false] 396)):=(aX _ _).alloc aT _;have d:=bF.fI (w.alloc (aI #[X.env,X.cN,X.frame,X.write] 396)) 396 #[aU,aU,aU,false] (g:=w.heap.size+1) aT;have f:=(bF.new w 396 #[X.env,X.cN,X.frame,X.write]).alloc (aI #[aU,aU,aU,false] 396);have D:=r.JE;have hgw:g<w.heap.size:=r.1.lt;go_enter func210,ntmps210
 go_wp2_with fail
 refine(Y.o _).mono ?_;rintro e Z ⟨rfl,hb⟩;replace M:=fK M (Zw _) hb;replace d:=d.keep hb;replace f:=f.keep hb;have hz2:w.heap.size+1<Z.heap.size:=d.lt;have k:=M.alloc M.size (aI #[aU,aU,aU,false] 396);replace d:=d.alloc (aI #[aU,aU,aU,false] 396);replace f:=f.alloc (aI #[aU,aU,aU,false] 396);have a:=bF.new Z 396 #[aU,aU,aU,false];have x0:=f.cell 0 X.env rfl;have x1:=f.cell 1 X.cN rfl;have HP:=aP (λW hW=>rA g A c L h m X.env X.cN W hW aQ);clear hb Y;go_wp2_with fail
 refine(HP.o _ (r.keep k)).mono ?_;rintro e w3 ⟨rfl,hb⟩;replace k:=fK k (Zw _) hb;replace d:=d.keep hb;replace f:=f.keep hb;replace a:=a.keep hb;have t3:=r.keep k;clear hb x0 x1 r M;generalize Z.heap.size=E at *;go_upto_if 25 with(fail)
 go_cut [8,9] (λs8 s9 N=>∃(b:Bool) (y:En),s8= .bool b/\Tb N g A c (mD L X) h m/\Tw w N g (aY A)/\bF N w.heap.size 396 #[X.env,X.cN,X.frame,X.write]/\bF N (w.heap.size+1) 396 #[aU,aU,aU,false]/\bF N E 396 #[y.env,y.cN,y.frame,y.write])
 case first=>
  have F:=aP D;have O:∀q,w.heap.size<=q->some q≠aY A:=λq hq e=>by have:=F.o q e.symm;omega
  have j:=aP O;clear O D;have rest:=λ(i:Nat) (hi:i<L.length) (W:aA) (hR:Ji g A c (L.eraseIdx i) h m L[i] w3 (.returned (.agg #[.int .i64 L[i].env, .int .i64 L[i].cN, .int .i64 L[i].frame, .bool L[i].write])) W)=>(show Tb (AV W E L[i]) g A c (L.eraseIdx i) h m/\Tw w (AV W E L[i]) g (aY A)/\bF (AV W E L[i]) w.heap.size 396 #[X.env,X.cN,X.frame,X.write]/\bF (AV W E L[i]) (w.heap.size+1) 396 #[aU,aU,aU,false]/\bF (AV W E L[i]) E 396 #[.int .i64 L[i].env, .int .i64 L[i].cN, .int .i64 L[i].frame, .bool L[i].write] from by
   obtain⟨_,r,hw⟩:=hR;refine⟨r.only (mU _ _ _) aQ (acT (j.o E aQ)),((Tw.cB k).trans hw).only (mU _ _ _) aQ,?_,?_,?_⟩
   .exact(hw.aY f aQ (j.o _ aQ)).grown (mU _ _ _) bT
   .exact(hw.aY d aQ (j.o _ aQ)).grown (mU _ _ _) bT
   .exact kP _ (hw.aY a aQ (j.o _ aQ)))
  have I:=aP rest;have u:=λ(i:Nat) (W:aA) (hw:Tw w3 W g (aY A))=>(hw.aY a aQ (j.o _ aQ))
  have P:=aP u;clear rest u;have c0:=t3.1.cell 0 (.slice A L.length c) rfl;have K:=dA t3 f (And.intro d a);clear t3 f d a;cases hf:fi L X.env X.cN with
  |none=>
   have hp:wR L X.env X.cN= -1:=by unfold wR;rw[hf]
   rw[hp];by_cases Q:16<=L.length
   .have R:aH (mD L X=L.eraseIdx 0):=by unfold aH mD;rw[hf];simp only;rw[Zz Q]
    have hi:0<L.length:=aQ;have S:(16:Int)<=(L.length:Int):=aQ;go_wp2_with fail
    refine(RN g A c L h m 0 _ K.o.1 aQ hi).mono ?_;intro e W l;have z:=l;obtain⟨rfl,_,hw⟩:=z;have HQ:=aP (I.o 0 hi W l);have a:=P.o 0 W hw;generalize L[0]=x at *;have v0:=a.cell 0 (.int .i64 0) rfl;have v1:=a.cell 1 (.int .i64 0) rfl;have v2:=a.cell 2 (.int .i64 0) rfl;have v3:=a.cell 3 (.bool false) rfl;have g0:=a.frozen 0;have g1:=a.frozen 1;have g2:=a.frozen 2;have g3:=a.frozen 3;clear a hw l c0;go_wp2_with fail
    go_meet
    rw[R.o];exact⟨true,x,rfl,HQ.o⟩
   .have R:aH (mD L X=L):=by unfold aH mD;rw[hf];simp only;rw[aaA Q]
    have S:¬(16:Int)<=(L.length:Int):=aQ;go_wp2_with fail
    go_meet
    rw[R.o];exact⟨false,FR,rfl,K.o.1,Tw.cB k,K.o.2.1,K.o.2.2.1,K.o.2.2.2⟩
  |some i=>
   have hp:wR L X.env X.cN=i:=by unfold wR;rw[hf]
   rw[hp];obtain⟨hi,hxx⟩:=pP hf;clear hxx;have R:aH (mD L X=L.eraseIdx i):=by unfold aH mD;rw[hf]
   clear hf;have hi0:(0:Int)<=i:=aQ;go_wp2_with fail
   refine(RN g A c L h m i _ K.o.1 aQ hi).mono ?_;intro e W l;have z:=l;obtain⟨rfl,_,hw⟩:=z;have HQ:=aP (I.o i hi W l);have a:=P.o i W hw;generalize L[i]=x at *;have v0:=a.cell 0 (.int .i64 0) rfl;have v1:=a.cell 1 (.int .i64 0) rfl;have v2:=a.cell 2 (.int .i64 0) rfl;have v3:=a.cell 3 (.bool false) rfl;have g0:=a.frozen 0;have g1:=a.frozen 1;have g2:=a.frozen 2;have g3:=a.frozen 3;clear a hw l c0;go_wp2_with fail
   go_meet
   rw[R.o];exact⟨true,x,rfl,HQ.o⟩
 case rest=>
  clear t3 f d a HP k;obtain⟨b,y,rfl,r,hw,f,d,a⟩:=hcut;have hl2:=Hg L X;have HLD:aH (ld L X=mD L X++ [X]):=rfl;generalize ld L X=L2 at *;generalize mD L X=s at *;have hl1:s.length<=100:=aQ;clear hl2 hl;have F:=aP D;have j:aH (∀q,w.heap.size<=q->some q≠aY A):=λq hq e=>by have:=F.o q e.symm;omega
  clear D;have hb3:w.heap.size<wc.heap.size:=f.lt;have hgc:g<wc.heap.size:=r.1.lt;have c0:=r.1.cell 0 (.slice A s.length c) rfl;have x0:=f.cell 0 X.env rfl;have x1:=f.cell 1 X.cN rfl;have x2:=f.cell 2 X.frame rfl;have x3:=f.cell 3 (.bool X.write) rfl;have B:=aX wc.drew (aI #[X.env,X.cN,X.frame,X.write] 396);have ta:=Tb.keep (w:=wc.drew) r B;have G:=aP ta;have T:=aP B;have H7:=aP (bF.keep (w:=wc.drew) a B);have H4:=aP (bF.keep (w:=wc.drew) d B);have U:=aP hw;clear B ta a d f hw r;go_wp2_with fail
  go_region_law (refine kS _ rfl (.tmp 41) (.tmp 43) rfl Wl rM (base:=g+1) (xs:=s) G.o.2 (n:=s.length) rfl rfl (m:=1) rfl (ys:= [X]) rfl (Sl.fI rM wc.drew X _ rfl _ rfl) dI aQ (by simp[World.drew];omega) _ rfl (s.length+1) rfl ?_;intro t c5 w5 H C J;(have V:=G.o.1.grown C (λe=>by have:=F.o g e.symm;omega));(have f5:=V.frozen 0);(have z5:=V.cell 0 (.slice A s.length c) rfl))
  all_goals
   have HT:aH (Tb (w5.setCell (g,0) (.slice t (s.length+1) c5)) g t c5 (s++ [X]) h m):=by
    have:=G.o.slot V H;rw[aaM] at this;exact this
   have HTW:aH (Tw w (w5.setCell (g,0) (.slice t (s.length+1) c5)) g (aY A)):=((U.o.trans (Tw.cB (Below.drew (Below.refl _ _)))).trans (Tw.cB T.o)).trans (Tw.grown C) |>.bX 0 _;have a:=(H7.o.grown C (j.o E aQ)).rU (p:=⟨g,0,none⟩) bT (.slice t (s.length+1) c5);have d:=(H4.o.grown C (j.o _ aQ)).rU (p:=⟨g,0,none⟩) bT (.slice t (s.length+1) c5);have HA5:aH (aY t≠some (w.heap.size+1)):=by
    rcases J with e|e
    .show aY t≠_;rw[e];exact acT (j.o _ aQ)
    .show aY t≠_;rw[e];intro e2;injection e2 with e2;simp[World.drew] at e2;omega
   have HAT:aH (aY t=aY A\/∀q,aY t=some q->w.heap.size<=q):=by
    rcases J with e|e
    .exact .inl e
    .exact .inr (λq hq=>by rw[e] at hq;injection hq with hq;simp[World.drew] at hq;omega)
   have I:=aP d;have v0:=d.cell 0 (.int .i64 0) rfl;have v1:=d.cell 1 (.int .i64 0) rfl;have v2:=d.cell 2 (.int .i64 0) rfl;have v3:=d.cell 3 (.bool false) rfl;have g0:=d.frozen 0;have g1:=d.frozen 1;have g2:=d.frozen 2;have g3:=d.frozen 3;have y0:=a.cell 0 y.env rfl;have y1:=a.cell 1 y.cN rfl;have y2:=a.cell 2 y.frame rfl;have y3:=a.cell 3 (.bool y.write) rfl;clear d a c0 x0 x1 x2 x3 H C J V f5 z5 G T U H7 H4;generalize w5.setCell (g,0) (.slice t (s.length+1) c5)=w6 at *;go_wp2_with fail
   obtain⟨d0,d1,d2,d3⟩:_/\_/\_/\_:=⟨(kP y I.o).cell 0 y.env rfl,(kP y I.o).cell 1 y.cN rfl,(kP y I.o).cell 2 y.frame rfl,(kP y I.o).cell 3 (.bool y.write) rfl⟩
   change bodyPost _ _ _ _ _ (AV w6 (w.heap.size+1) y)
   exact bodyPost_ret (v:= .tuple #[.agg #[y.env,y.cN,y.frame,y.write],b,aU]) (by simp[results,results210,go_sem,d0,d1,d2,d3]) rfl ⟨y,b,t,c5,rfl,by rw[HLD.o];exact HT.o.only (mU _ _ _) aQ HA5.o,HTW.o.only (mU _ _ _) aQ,HAT.o⟩
end dF
end
end Go.Proofs.YtacgiflhgdaeaaaGreat
