/- Texts laid as one. -/
import Derived.KernelRfl
import Derived.Shelf.Abstract
import Derived.Deep.DeepCutAuto
import Derived.Deep.CutBlock
import Derived.Defers
import Derived.Recover
import Derived.Test.YtacgiflhgdaeaaaGreatZ1
import Derived.Test.YtacgiflhgdaeaaaGreatZ2
import Derived.Test.YtacgiflhgdaeaaaGreatZ3
set_option linter.unusedVariables false
set_option linter.unusedSimpArgs false
set_option maxRecDepth 100000
set_option maxHeartbeats 20000000
namespace Go.Proofs.YtacgiflhgdaeaaaGreat
open Go.Proofs.Tryz
open Go renaming World->aA,Value->aC,Addr->aJ,TypeId->aN,Calls->aG
open Go.RowKit renaming Below->aD,Hid->aH
open Go.Obj renaming cells->aI
section
open Go.RowKit Go.Lib
variable{i g:Nat}{w w' W:aA}{P:Program}{Q:Exit->Act->aA->Prop}
section
def lS(N:Nat)(t:aN)(c0:Array aC)(v:aC)(w:aA):Prop:=∃g,v= .pointer (some ⟨g,0,none⟩)/\N<=g/\bC w g t c0
theorem lS.keep{t:aN}{c0:Array aC}{v:aC}(h:lS i t c0 v w)(a:bV w w'):lS i t c0 v w':=by
 obtain⟨g,h1,b,c⟩:=h;exact⟨g,h1,b,c.keep a⟩
abbrev lF {w:aA} {p:aJ} {v:aC} (_:w.cell? p=some v):Nat:=w.heap.size
theorem aaC{f:FuncId}{args:Array aC}{v:aC}(h:aG P f args w λe w'=>e= .returned v/\aD w w w'):aG P f args w λe w'=>e= .returned v/\bV w w':=h
theorem aaF(n:CW (bV W)):aD W W n.w:=n.ok
theorem aaB{ops:Array Oper}{rest:List Oper}{op:Oper}{a:Act}{t:aN}{c0:Array aC}(hm:W.heap.size<=g)(c:aD W W w)(hk:bC w g t c0)(b:op.guard=none)(ty:aN)(x y:Operand)(ho:op.op= .store ty x y)(c1:Array aC)(d:a.eval x= .pointer g)(e:a.eval y= .agg c1)(f:c0.size=c1.size)(hi:(P.info? ty).map (·.size)=some c1.size)(h1:c1.all (·.oneCell')=true)(h:∀w',aD W W w'->W.heap.size<=g/\bC w' g t c1->wpList P ops Q rest (a.put op.dst undef) w'):wpList P ops Q (op::rest) a w:=by
 refine wpList_store_mid b ty x y ho g 0 c1 d e (hk.there aQ) hi h1 ?_;refine h _ (V4 c (iR g _ 0 _ _ (bE w g)) hm) ⟨hm,?_⟩;have:=hk.fill c1.toList (by simpa using f);simpa using this
end
end
section
namespace SL
def Q7(a s x:Nat):Nat:=x /2 ^ a%2 ^ s
theorem Kg(a s x:Nat):(x /2 ^ a) &&& (2 ^ s - 1)=Q7 a s x:=by
 rw[Nat.and_two_pow_sub_one_eq_mod];rfl
theorem Oz(s:Nat)(h1:1<=s)(a:s<=64):18446744073709551615 /2 ^ (64 - s)=2 ^ s - 1:=by
 obtain⟨k,rfl⟩:∃k,s=64 - k:=⟨64 - s,aQ⟩
 have hk:k<64:=aQ;have e:64 - (64 - k)=k:=aQ;rw[e];have:∀k:Fin 64,18446744073709551615 /2 ^ k.val=2 ^ (64 - k.val) - 1:=cD;exact this ⟨k,hk⟩
end SL
end
section
open Go.RowKit
namespace Pa
def BZ(a s:Int):Bool:=decide (1<=s/\s<=64/\0<=a/\a+s<=64)
theorem RE{a s:Int}(h:1<=s/\s<=64/\0<=a/\a+s<=64):BZ a s=true:=abD h
theorem mP(a s:Int)(w:aA):
 aG prog 241 #[.agg #[a,s]] w λe w'=>e= .returned (.bool (BZ a s))/\aD w w w':=by
 go_enter func241,ntmps241
 go_wp2
 all_goals go_ret
 all_goals refine⟨iO ?_,aX _ _⟩
 all_goals unfold BZ
 all_goals first|(simp;done)|(simp;omega)|(rw[ad4];omega)
def qO(s:Int):Int:=2 ^ s.toNat - 1
theorem Hf(s:Int)(h1:1<=s)(b:s<=64):(18446744073709551615:Int) /2 ^ (64 - s).toNat=qO s:=by
 unfold qO;obtain⟨n,rfl⟩:=aaO (show 0<=s by omega);have h:=SL.Oz n aQ aQ;have e:(64 - (n:Int)).toNat=64 - n:=aQ;rw[e,aaW];have c:=Nat.two_pow_pos n;have a:((18446744073709551615 /2 ^ (64 - n):Nat):Int)=((2 ^ n - 1:Nat):Int):=by rw[h]
 rw[Int.natCast_ediv,Int.natCast_sub aQ] at a;simpa using a
theorem VF(s:Int)(h1:1<=s)(a:s<=64):0<=qO s/\qO s<=18446744073709551615:=by
 unfold qO;have h:∀k:Fin 65,(0:Int)<=2 ^ k.val - 1/\(2:Int) ^ k.val - 1<=18446744073709551615:=cD;exact h ⟨s.toNat,aQ⟩
theorem JE(a s:Int)(w:aA)(h1:1<=s)(b:s<=64)(d:0<=a)(f:a+s<=64):
 aG prog 242 #[.agg #[a,s]] w λe w'=>e= .returned (.int .u64 (qO s))/\aD w w w':=by
 have g:=RE ⟨h1,b,d,f⟩;go_enter func242,ntmps242
 go_wp2_with(go_at_call 241;refine(mP _ _ _).mono ?_;rintro e w' ⟨rfl,c⟩;obtain⟨hc,h⟩:=VG c)
 go_ret
 exact⟨gY (Hf s h1 b),(aX _ _).trans (c.mono aT)⟩
theorem Bx(a:Int)(b:0<=a)(c:a<=64):min (IntKind.u64.wrap a).toNat 64=a.toNat:=by
 rw[IntKind.wrap_u64,Int.emod_eq_of_lt b aQ];omega
theorem Td(a s x:Int)(w:aA)(h:BZ a s=false):
 aG prog 203 #[.agg #[a,s], .int .u64 x] w λe w'=>e= .returned (.int .u64 0)/\aD w w w':=by
 go_enter func203,ntmps203
 go_wp2_with(go_at_call 241;refine(mP _ _ _).mono ?_;rintro e w' ⟨rfl,b⟩;obtain⟨hc,c⟩:=VG b)
 go_ret
 exact⟨rfl,dQ (aX _ _) (aaH _) b⟩
theorem Jw(a s x:Int)(h1:1<=s)(b:s<=64)(c:0<=a)(h:a+s<=64)(d:0<=x)(i:x<18446744073709551616):
 bits BinOp.and IntKind.u64 (x /2 ^ min (IntKind.u64.wrap a).toNat 64) (qO s)=(SL.Q7 a.toNat s.toNat x.toNat:Nat):=by
 rw[Bx a c aQ];obtain⟨n,rfl⟩:=aaO d;have e:=VF s h1 b;unfold qO at e⊢;have f:(n:Int) /2 ^ a.toNat=((n /2 ^ a.toNat:Nat):Int):=by rw[Int.natCast_ediv];simp
 have g:((2:Int) ^ s.toNat - 1)=((2 ^ s.toNat - 1:Nat):Int):=by
  have:=Nat.two_pow_pos s.toNat;rw[Int.natCast_sub aQ];simp
 have hd:n /2 ^ a.toNat<=n:=Nat.div_le_self _ _;rw[f,g,u64_and_nat _ _ aQ aQ,SL.Kg,aaW]
theorem Nx(a s x:Int)(w:aA)(h1:1<=s)(d:s<=64)(f:0<=a)(g:a+s<=64)(h:0<=x)(i:x<18446744073709551616):
 aG prog 203 #[.agg #[a,s], .int .u64 x] w λe w'=>e= .returned (.int .u64 (SL.Q7 a.toNat s.toNat x.toNat))/\aD w w w':=by
 have k:=RE ⟨h1,d,f,g⟩;go_enter func203,ntmps203
 go_wp2_with(go_at_call 241;refine(mP _ _ _).mono ?_;rintro e c ⟨rfl,b⟩)
 have j:=dQ (aX _ _) (aaH _) b;have c0:c.cell? (w.heap.size,0)=some (.int .i64 a):=bD b aT;have c1:c.cell? (w.heap.size,1)=some (.int .i64 s):=bD b aT;clear b;go_region_held3 (λw'=>aD c c w'/\w'.cell? (w.heap.size,0)=some (.int .i64 a)/\w'.cell? (w.heap.size,1)=some (.int .i64 s))
  (first|exact⟨(Below.refl _ _).drew,c0,c1⟩|exact WD ‹_› b)
  (first|(go_at_call 242;refine(JE _ _ _ h1 d f g).mono ?_;rintro e w' ⟨rfl,b⟩))
 go_wp2
 go_ret
 exact⟨gY (Jw a s x h1 d f g h i),dQ j.drew (aaH _) b⟩
end Pa
end
section
namespace Pa
structure Fl where
 at_:Int
 size:Int
def KF(f:Fl):Bool:=BZ f.at_ f.size
theorem Ic{f:Fl}(h:KF f=true):1<=f.size/\f.size<=64/\0<=f.at_/\f.at_+f.size<=64:=acC h
def xL(f:Fl)(x:Int):Int:=if KF f then(SL.Q7 f.at_.toNat f.size.toNat x.toNat:Nat) else 0
end Pa
end
section
open Go.RowKit
section
namespace Pa
def eF(f:Fl):List aC:= [.int .i64 f.at_, .int .i64 f.size]
theorem Vs:eY eF 2:=⟨λ_=>rfl,λx u hu=>by simp[eF] at hu;rcases hu with rfl|rfl <;> rfl⟩
variable{w:aA}{A:Option aJ}{i:Nat}
theorem _root_.Go.Proofs.YtacgiflhgdaeaaaGreat.Sl.Va{xs:List Fl}(h:Sl eF 2 w A xs)(hi:i<xs.length):
 ∃b off,A=some ⟨b,off,none⟩/\w.cell? ⟨b,off+i *2,none⟩=some (.int .i64 xs[i].at_)/\w.cell? ⟨b,off+i *2+1,none⟩=some (.int .i64 xs[i].size):=by
 obtain⟨b,off,a,hc⟩:=h.at_ hi;exact⟨b,off,a,by simpa using hc 0 _ (show(eF xs[i])[0]?=some (.int .i64 xs[i].at_) from rfl),by simpa[abV] using hc 1 _ (show(eF xs[i])[1]?=some (.int .i64 xs[i].size) from rfl)⟩
end Pa
end
namespace Pa
end Pa
section
namespace Pa
theorem get_at(f:Fl)(x:Int)(w:aA)(b:0<=x)(c:x<18446744073709551616):
 aG prog 203 #[.agg #[f.at_,f.size], .int .u64 x] w λe w'=>e= .returned (.int .u64 (xL f x))/\aD w w w':=by
 unfold xL;cases a:KF f
 .exact Td _ _ _ _ a
 .have:=Ic a;exact Nx _ _ _ _ this.1 this.2.1 this.2.2.1 this.2.2.2 b c
theorem P0:(prog.info? 75).map (λi=>(i.zero,i.size,i.bytes))=some (some (.int .u64 0),1,8):=aV
theorem Wx:jM prog 34 75 1 8:=gA underlying34 P0 rfl aQ
theorem Ec(A:Option aJ)(l:List Fl)(x:Int)(c:Nat)(w:aA)(hs:Sl eF 2 w A l)(h1:l.length<=40)(C:0<=x)(D:x<18446744073709551616):
 aG prog 160 #[(A,l.length,c), .int .u64 x] w (Ml eU 1 75 (l.map (xL · x)) w):=by
 obtain⟨i0,r,s,t,u⟩:=info_parts P0;go_enter func160,ntmps160
 go_wp2_with(at_make;refine wpList_make_own _ rfl _ _ 34 rfl w.heap.size 75 i0 _ 1 underlying34 r s t _ _ _ l.length rfl rfl rfl (by rw[u];omega) dT (aaH _) ?_;intro E a g)
 have h:aD w w E:=(Below.refl _ _).grown g (aaH _) (λk hk=>by cases hk);clear g;go_loopw [5,13] (λv i wr=>∃(k:Nat) (O:Option aJ) (d:Nat),k<=l.length/\i= .int .i64 k/\v= .slice O k d/\bB eU 1 wr w.heap.size 75 O d ((l.take k).map (xL · x))/\aD w w wr) (λ_ i _=>l.length - (intOf i).toNat)
 case atStart=>exact⟨0,_,_,aaQ _,rfl,rfl,a,h⟩
 case round=>
  clear a h;obtain⟨k,O,d,hk,rfl,rfl,own,f⟩:=hrel;by_cases j:k<l.length
  .obtain⟨b,off,rfl,c0,c1⟩:=(hs.keep f).Va j;have F:aH (((l.take k).map (xL · x)).length=k):=by simp[aH];omega
   have G:=aP (λW=>get_at l[k] x W C D);have H:aH ((l.take (k+1)).map (xL · x)=(l.take k).map (xL · x)++ [xL l[k] x]):=by unfold aH;rw[List.take_succ_eq_append_getElem j,aeJ];rfl
   generalize xL l[k] x=y at *;go_wp2_with(first|(go_at_call 203;(refine aS (G.o _) ?_);rintro e I ⟨rfl,z⟩;replace own:=(own.alloc _).keep z;replace f:=dQ (f.alloc f.size _) (aaH _) z;clear z;have J:=f.size)|(at_builtin;refine bN _ rfl _ _ rfl Wx LG (own.alloc _) (n:=k) F.o rfl (m:=1) rfl (ys:= [y]) rfl (Sl.new LG I _ _ rfl _) dT aQ bL _ rfl (k+1) rfl ?_;intro K L N p B M))
   go_roundw
   case rel=>exact⟨k+1,K,L,aQ,by go_num,rfl,by rw[H.o];exact p,(f.alloc f.size _).grown B bL (λq hq=>(own.lt q hq).1)⟩
   case measure=>simp[intOf];omega
  .obtain rfl:k=l.length:=aQ;go_wp2
   go_ret
   exact⟨O,d,aT,by simpa using own,f⟩
variable{w:aA}{i:Nat}
theorem _root_.Go.Proofs.YtacgiflhgdaeaaaGreat.Sl.Ab{b off:Nat}{xs:List Int}(h:Sl eU 1 w (some ⟨b,off,none⟩) xs)(hi:i<xs.length):w.cell? (b,off+i)=some (.int .u64 xs[i]):=by
 obtain⟨d,a,heq,h1⟩:=h.Bz hi;injection heq with heq;injection heq with q1 c;subst q1 c;exact h1
end Pa
end
namespace Pa.Cp
end Pa.Cp
namespace Pa.Cp
end Pa.Cp
namespace Pa.Cp
end Pa.Cp
namespace Pa.Cp
end Pa.Cp
end
section
open Go.RowKit
open dH (En qC C3 fi mZ ld lE DS U5 BS D6 QO PQ)
open Fr (fO gX tG mV)
namespace Pa.Cp
def Qe(L:List En)(a p:Int):Option (Int×Bool):=(L.find? (qC a p)).map λx=>(x.frame,x.write)
def Ww(R:List Int):Prop:=R.length=8/\∀v∈R,0<=v/\v<18446744073709551616
end Pa.Cp
end
section
open Go.RowKit Go.Lib
section
namespace dH
def eE(e:En):List aC:= [.int .i64 e.env, .int .i64 e.cY, .int .i64 e.frame, .bool e.write]
theorem qJ:eY eE 4:=⟨λ_=>rfl,λx u hu=>by simp[eE] at hu;rcases hu with rfl|rfl|rfl|rfl <;> rfl⟩
theorem TD:(prog.info? 396).map (λi=>(i.zero,i.size,i.bytes))=some (some (.agg #[aU,aU,aU,false]),4,32):=aV
theorem Zz:jM prog 312 396 4 32:=gA underlying312 TD rfl aQ
variable{w:aA}{A:Option aJ}{i:Nat}
theorem _root_.Go.Proofs.YtacgiflhgdaeaaaGreat.Sl.PG{xs:List En}(h:Sl eE 4 w A xs)(hi:i<xs.length):
 ∃b off,A=some ⟨b,off,none⟩/\w.cell? ⟨b,off+i *4,none⟩=some (.int .i64 xs[i].env)/\w.cell? ⟨b,off+i *4+1,none⟩=some (.int .i64 xs[i].cY)/\w.cell? ⟨b,off+i *4+1+1,none⟩=some (.int .i64 xs[i].frame)/\w.cell? ⟨b,off+i *4+1+1+1,none⟩=some (.bool xs[i].write):=by
 obtain⟨b,off,a,hc⟩:=h.at_ hi;refine⟨b,off,a,?_,?_,?_,?_⟩
 .simpa using hc 0 _ (show(eE xs[i])[0]?=some (.int .i64 xs[i].env) from rfl)
 .simpa[abV] using hc 1 _ (show(eE xs[i])[1]?=some (.int .i64 xs[i].cY) from rfl)
 .simpa[abV] using hc 2 _ (show(eE xs[i])[2]?=some (.int .i64 xs[i].frame) from rfl)
 .simpa[abV] using hc 3 _ (show(eE xs[i])[3]?=some (.bool xs[i].write) from rfl)
def Tb(w:aA)(g:Nat)(A:Option aJ)(c:Nat)(L:List En)(h m:Int):Prop:=
 bC w g 314 #[(A,L.length,c),h,m]/\bB eE 4 w (g+1) 396 A c L
variable{w':aA}{g:Nat}{L:List En}{h:Int}
theorem Tb.keep{c:Nat}{m:Int}(t:Tb w g A c L h m)(a:aD w w w'):Tb w' g A c L h m:=⟨t.1.keep a,t.2.keep a⟩
theorem pP(a p:Int)(e:En)(b1 b2:Nat)(w:aA)(c1:w.cell? (b1,0)=some (.int .i64 a))(c2:w.cell? (b2,0)=some (.int .i64 p)):
 aG prog 275 #[.agg #[e.env,e.cY,e.frame,e.write], .pointer b1, .pointer b2] w λr w'=>r= .returned (.bool (qC a p e))/\aD w w w':=by
 have h1:=bD (aX w (aI #[e.env,e.cY,e.frame,e.write] 396)) c1;have d:=bD (aX w (aI #[e.env,e.cY,e.frame,e.write] 396)) c2;clear c1 c2;cases c:(e.env==a)
 .have b:aH (qC a p e=false):=by unfold aH qC;rw[c];rfl
  go_enter func275,ntmps275
  go_wp2
  go_ret
  exact⟨iO b.o.symm,aX _ _⟩
 .have b:aH (qC a p e=(e.cY==p)):=by unfold aH qC;rw[c];rfl
  go_enter func275,ntmps275
  go_wp2
  go_ret
  exact⟨iO b.o.symm,aX _ _⟩
theorem lH:∀args w,(callFunc 275 args).run prog w= .ok (.enter 275 args) w:=enters_of func275 aV rfl
variable{p:Int}
theorem vP{a:Int}{k:Nat}(hk:k<L.length)(h:qC a p L[k]=true)(c:∀j,(b:j<k)->qC a p L[j]=false):FH L a p=k:=by
 unfold FH fi;rw[aa5.2 ⟨hk,h,λj b=>by rw[c j b];simp⟩]
theorem tT{a:Int}(h:∀j,(b:j<L.length)->qC a p L[j]=false):FH L a p= -1:=by
 unfold FH fi;rw[abP.2 (λx c=>by obtain⟨j,b,rfl⟩:=aa2 c;exact h j b)]
theorem nD(A:Option aJ)(L:List En)(c:Nat)(a p:Int)(b1 b2:Nat)(w:aA)(hs:Sl eE 4 w A L)(u:L.length<=1000)(c1:w.cell? (b1,0)=some (.int .i64 a))(c2:w.cell? (b2,0)=some (.int .i64 p)):
 aG prog 274 #[(A,L.length,c), .func (.func 275) #[] #[.pointer b1, .pointer b2]] w λe w'=>e= .returned (.int .i64 (FH L a p))/\aD w w w':=by
 have v:=lH;go_enter func274,ntmps274
 go_wp2
 go_loopw [5,8] (λ_ r wr=>∃k:Nat,k<=L.length/\r= .int .i64 k/\aD w w wr/\aH (∀j,(d:j<L.length)->j<k->qC a p L[j]=false)) (λ_ i _=>L.length - (intOf i).toNat)
 case atStart=>exact⟨0,aaQ _,rfl,Below.refl _ w,λj d h=>absurd h (acK _)⟩
 case round=>
  obtain⟨k,hk,rfl,f,l⟩:=hrel;by_cases g:k<L.length
  .obtain⟨b,off,rfl,x,z,B,C⟩:=(hs.keep f).PG g;have D:(0:Int)<=k:=aQ;have E:(k:Int)<(L.length:Int):=aQ;have hc:=pP a p L[k] b1 b2 wr (bD f c1) (bD f c2);have HQ:aH (qC a p L[k]=true->FH L a p=k):=λh=>vP g h (λj d=>l.o j aQ d)
   have s:aH (qC a p L[k]=false->∀j,(d:j<L.length)->j<k+1->qC a p L[j]=false):=λh j d t=>by
    by_cases he:j=k
    .subst he;exact h
    .exact l.o j d aQ
   clear l;generalize L[k]=y at *;cases hq:qC a p y with
   |true=>
    rw[hq] at hc;have m:=aP (HQ.o hq);go_wp2_with(go_at_fn 275;(with_reducible refine hc.mono ?_);rintro e w' ⟨rfl,n⟩)
    go_ret
    exact⟨gY m.o.symm,dQ f (aaH _) n⟩
   |false=>
    rw[hq] at hc;have q:=aP (s.o hq);go_wp2_with(go_at_fn 275;(with_reducible refine hc.mono ?_);rintro e w' ⟨rfl,n⟩)
    go_roundw
    case rel=>exact⟨k+1,aQ,by go_num,dQ f (aaH _) n,q.o⟩
    case measure=>simp[intOf];omega
  .obtain rfl:k=L.length:=aQ;go_wp2
   go_ret
   exact⟨gY (tT (λj d=>l.o j d d)).symm,f⟩
end dH
end
section
namespace dH
theorem zO(g:Nat)(A:Option aJ)(c:Nat)(L:List En)(h m a p:Int)(w:aA)(d:Tb w g A c L h m)(f:L.length<=1000):
 aG prog 245 #[.pointer g,a,p] w λe w'=>e= .returned (.int .i64 (FH L a p))/\aD w w w':=by
 have b:aD w w ((w.alloc (aI #[a] 3)).alloc (aI #[p] 3)):=(aX _ _).alloc aT _;have t2:=d.keep b;have c0:=t2.1.cell 0 (.slice A L.length c) rfl;have hc:=nD A L c a p w (w.heap.size+1) _ (t2.2.sl qJ) f (bD (aX _ _) ((bC.new w 3 #[a]).cell 0 _ rfl)) ((bC.gK (w.alloc (aI #[a] 3)) 3 #[p] (g:=w.heap.size+1) aT).cell 0 _ rfl);go_enter func245,ntmps245
 go_wp2_with(go_at_call 274;(with_reducible refine hc.mono ?_);rintro e w' ⟨rfl,i⟩)
 go_ret
 exact⟨rfl,dQ b (aaH _) i⟩
theorem MM:∀w,(zeroValue 396).run prog w= .ok (.agg #[aU,aU,aU,false]) w:=λw=>by kernel_rfl
variable{A:Option aJ}{n m:Nat}
theorem fJ{c:Nat}(h:n=m):Ending.returned (.slice A n c)= .returned (.slice A m c):=by rw[h]
theorem lP(g c i k base:Nat)(L:List En)(w:aA)(own:bB eE 4 w base 396 g c L)(r:L.length=i+1+k)(S:L.length<=1000):
 aG prog 276 #[.slice g L.length c,i, .int .i64 ((i:Int)+1)] w λe w'=>e= .returned (.slice g (L.eraseIdx i).length c)/\bB eE 4 w' base 396 g c (L.eraseIdx i)/\w.grownBy w' (some g):=by
 obtain⟨i0,n,G,p,H⟩:=info_parts TD;have s:(L.eraseIdx i).length=i+k:=by rw[acO,aaK aQ];omega
 obtain⟨_,_,_,v,x,_,_⟩:=eK own;simp only[maxLen] at x;obtain⟨news,b⟩:∃news,news=(L.drop (i+1)).flatMap eE:=⟨_,rfl⟩
 have s1:aH (news.length=k *4):=by unfold aH;rw[b,fH qJ.len,abY];omega
 have s2:aH (∀u∈news,u.oneCell'=true):=λu hu=>rL qJ _ u (by rw[<-b];exact hu)
 have D:aH (∀t,t<news.length->(w.drew.cell? ⟨g,0+i *4+t,none⟩).isSome=true/\w.drew.frozen? ⟨g,0+i *4+t,none⟩=false):=λt E=>by
  rw[s1.o] at E;exact cH own _ aQ
 have I:aH (∀t u,news[t]?=some u->w.drew.cell? ((⟨g,(i+1) *4,none⟩:aJ).add t)=some u):=λt u hu=>by
  have E:t<k *4:=by rw[<-s1.o];exact(aaX.1 hu).1
  have hF:=oT qJ.len L (i+1);rw[b,hF,acL] at hu;rw[Addr.add_lit];obtain⟨cur,_,J,_,_,_,K⟩:=eK own;show w.cell? _=_;rw[cell_of_row w g _ cur _ (0,0) J,<-hu,<-K,abU,aaK aQ,abG]
 obtain⟨m,h⟩:∃m,m=w.drew.setCells g (0+i *4) news:=⟨_,rfl⟩
 have F:=aP h;have y:=tX (w:=w.drew) qJ.len own.drew i k r [.int .i64 0, .int .i64 0, .int .i64 0, .bool false] rfl;rw[<-b,show i *4=0+i *4 by omega,<-h] at y;have a:=aP y;have d:∀j,j<c *4->(m.cell? ⟨g,j,none⟩).isSome=true/\m.frozen? ⟨g,j,none⟩=false:=λj z=>by
  rw[h];have:=cH own j z;exact⟨Go.World.isSome_setCells g _ _ _ _ this.1,by rw[World.frozen?_setCells];exact this.2⟩
 have l:∀ty q A,q=1->(Builtin.clear_ #[312] ty #[.slice (some ⟨g,(i+k) *4,none⟩) q A]).run prog m= .ok (.tuple #[]) (m.setCells g ((i+k) *4) [.int .i64 0, .int .i64 0, .int .i64 0, .bool false]):=λty q A B=>
  kZ m _ 396 ty _ underlying312 MM [.int .i64 0, .int .i64 0, .int .i64 0, .bool false] aV cD g ((i+k) *4) q A B (λj z=>d _ (by simp at z;omega))
 clear h y d b;rw[r];rw[r] at v;have M:i<=c:=aQ;have N:i+1<=c:=aQ;have O:(0:Int)<=i+1:=aQ;have P:(i:Int)+1<=(i:Int)+1+(k:Int):=aQ;by_cases hce:c=i+1
 .obtain rfl:k=0:=aQ;obtain rfl:news= []:=abO (by rw[s1.o]);have C:aH (∀t u,([]:List aC)[t]?=some u->w.drew.cell? ((⟨g,0,none⟩:aJ).add t)=some u):=λt u hu=>by simp at hu
  subst hce;have f:=λty=>l ty (i+1 - i) (i+1 - i) aQ
  simp only[aa3] at f s⊢;have Q:(i:Int)<=(i:Int)+1:=aQ;have R:i+1 - i=1:=aQ;rw[R] at f;clear l;go_enter func276,ntmps276
  go_wp2_with fail
  go_region_law (refine step_append_room rfl (.tmp 22) (.tmp 25) 312 rfl 396 i0 4 underlying312 n p g 0 i (i+1) (by simp[Act.eval,Act.put]) ⟨g,0,none⟩ 0 0 [] (by simp[Act.eval,Act.put]) s1.o C.o s2.o aQ D.o ?_;rw[<-F.o])
  go_wp2
  go_ret
  exact⟨fJ aQ,a.o.1,⟨a.o.2.os,a.o.2.tape,a.o.2.output,a.o.2.size,a.o.2.block⟩⟩
 .have f:=λty=>l ty (i+1+k - (i+k)) (c - (i+k)) aQ
  clear l;go_enter func276,ntmps276
  go_wp2_with fail
  go_region_law (refine step_append_room rfl (.tmp 22) (.tmp 25) 312 rfl 396 i0 4 underlying312 n p g 0 i c (by simp[Act.eval,Act.put]) ⟨g,(i+1) *4,none⟩ k (c - (i+1)) news (by simp[Act.eval,Act.put]) s1.o I.o s2.o aQ D.o ?_;rw[<-F.o])
  go_wp2
  go_ret
  exact⟨fJ aQ,a.o.1,⟨a.o.2.os,a.o.2.tape,a.o.2.output,a.o.2.size,a.o.2.block⟩⟩
end dH
end
section
namespace dH
structure Tw(a w:aA)(g:Nat)(r:Option Nat):Prop where
 os:w.os=a.os
 tape:w.tape=a.tape
 output:w.output=a.output
 size:a.heap.size<=w.heap.size
 block:∀i,i<a.heap.size->i≠g->some i≠r->w.heap[i]?=a.heap[i]?
variable{w:aA}{g:Nat}{r:Option Nat}
theorem Tw.dD{a:aA}(h:aD a a w):Tw a w g r:=⟨h.os,h.tape,h.output,h.size,λi hi _ _=>h.block i hi⟩
variable{w':aA}
theorem Tw.trans{a:aA}(h:Tw a w g r)(k:Tw w w' g r):Tw a w' g r:=
 ⟨k.os.trans h.os,k.tape.trans h.tape,k.output.trans h.output,aaR h.size k.size,λi hi h1 b=>(k.block i (aaJ hi h.size) h1 b).trans (h.block i hi h1 b)⟩
theorem Tw.grown{a:aA}(h:a.grownBy w r):Tw a w g r:=⟨h.os,h.tape,h.output,h.size,λi hi _ b=>h.block i hi b⟩
theorem Tw.bQ{a:aA}(h:Tw a w g r)(i:Nat)(u:aC):Tw a (w.setCell (g,i) u) g r:=
 h.trans ⟨rfl,rfl,rfl,by simp[World.setCell],λk _ h1 _=>Below.heap_setCell w ⟨g,i,none⟩ u k h1⟩
variable{q:Nat}{cs:Array aC}
theorem Tw.aZ{a:aA}(h:Tw a w g r){t:aN}(hc:bC a q t cs)(h1:q≠g)(b:some q≠r):bC w q t cs:=(h.block q hc.lt h1 b).trans hc
variable{A:Option aJ}{L:List En}{h:Int}
theorem Tb.Al{c:Nat}{m:Int}(t:Tb w g A c L h m):∀q,aZ A=some q->g<q/\q<w.heap.size:=λq hq=>by
 have:=t.2.lt q hq;omega
variable{A':Option aJ}{c':Nat}{L':List En}
theorem Tb.slot{c:Nat}{m:Int}(t:Tb w g A c L h m)(b:bC w' g 314 #[(A,L.length,c),h,m])
 (ho:bB eE 4 w' (g+1) 396 A' c' L'):Tb (w'.setCell (g,0) (.slice A' L'.length c')) g A' c' L' h m:=by
 refine⟨b.bQ 0 _,ho.kept (aY (bE w' g) 0 _) ?_⟩;cases e:Go.Proofs.YtacgiflhgdaeaaaGreat.aZ A' with
 |none=>exact .inl rfl
 |some q=>exact .inr (λa=>by injection a with a;have:=(ho.lt q e).1;omega)
theorem Tb.only{b:Nat}{c:Nat}{m:Int}(t:Tb w g A c L h m)(a:w.grownBy w' (some b))(h1:g≠b)(d:aZ A≠some b):Tb w' g A c L h m:=
 ⟨t.1.grown a (by simpa using h1),t.2.kept a (.inr d)⟩
def AV(w:aA)(b:Nat)(x:En):aA:=(((w.setCell (b,0) x.env).setCell (b,1) x.cY).setCell (b,2) x.frame).setCell (b,3) (.bool x.write)
theorem mW(w:aA)(b:Nat)(x:En):w.grownBy (AV w b x) (some b):=aY (aY (aY (aY (bE w b) 0 _) 1 _) 2 _) 3 _
variable{v0 v1 v2 v3:aC}
theorem jX{b:Nat}(x:En){t:aN}(h:bC w b t #[v0,v1,v2,v3]):bC (AV w b x) b t #[x.env,x.cY,x.frame,x.write]:=
 (((h.bQ 0 _).bQ 1 _).bQ 2 _).bQ 3 _
theorem Tw.only{a:aA}{b:Nat}(h:Tw a w g r)(k:w.grownBy w' (some b))(d:a.heap.size<=b):Tw a w' g r:=
 ⟨k.os.trans h.os,k.tape.trans h.tape,k.output.trans h.output,aaR h.size k.size,λi hi h1 c=>(k.block i (aaJ hi h.size) bL).trans (h.block i hi h1 c)⟩
def Lq(g:Nat)(A:Option aJ)(c:Nat)(L:List En)(h m:Int)(x:En)(w:aA)(e:Ending)(w':aA):Prop:=e= .returned (.agg #[x.env,x.cY,x.frame,x.write])/\Tb w' g A c L h m/\Tw w w' g (aZ A)
variable{i:Nat}
theorem FW{base:Nat}{e:aN}{b c:Nat}(h:bB eE 4 w base e b c L)(hi:i<L.length):
 w.cell? (b,i *4)=some (.int .i64 L[i].env)/\w.cell? (b,i *4+1)=some (.int .i64 L[i].cY)/\w.cell? (b,i *4+1+1)=some (.int .i64 L[i].frame)/\w.cell? (b,i *4+1+1+1)=some (.bool L[i].write):=by
 obtain⟨l,off,a,d,f,g,j⟩:=(h.sl qJ).PG hi;injection a with a;injection a with h1 k;subst h1 k;simp only[abQ] at d f g j;exact⟨d,f,g,j⟩
theorem Y3(g:Nat)(A:Option aJ)(c:Nat)(L:List En)(h m:Int)(i:Nat)(w:aA)(s:Tb w g A c L h m)(F:L.length<=1000)(hi:i<L.length):
 aG prog 246 #[.pointer g,i] w (Lq g A c (L.eraseIdx i) h m L[i] w):=by
 have l:=s.Al;rcases s.2.shape with⟨rfl,rfl,rfl⟩|⟨q,rfl⟩
 .exact absurd hi aT
 .obtain⟨G,H⟩:=l q rfl;clear l;have j:=aX w (aI #[aU,aU,aU,false] 396);have t2:=s.keep j;have c0:=t2.1.cell 0 (.slice q L.length c) rfl;obtain⟨I,J,K,M⟩:=FW t2.2 hi;have r1:=bC.new w 396 #[aU,aU,aU,false];have N:(0:Int)<=i:=aQ;have O:(i:Int)<(L.length:Int):=aQ;generalize L[i]=x at *;obtain⟨k,hk⟩:∃k,L.length=i+1+k:=⟨L.length - i - 1,aQ⟩
  have d:=aX (w.alloc (aI #[aU,aU,aU,false] 396)) (aI #[x.env,x.cY,x.frame,x.write] 396);have HD:=aP (λW P=>lP q c i k (g+1) L W P hk F);have t3:=aP (t2.keep d);have y:=t3.o.1.cell 0 (.slice q L.length c) rfl;have z:=bC.gK (w.alloc (aI #[aU,aU,aU,false] 396)) 396 #[x.env,x.cY,x.frame,x.write] (g:=w.heap.size+1) aT;have B:=r1.keep d;have n:aD w w _:=dQ j (aaH _) d;clear hk t2 r1 j s hi;go_enter func246,ntmps246
  go_wp2_with fail
  (refine(HD.o _ t3.o.2).mono ?_)
  rintro e C ⟨rfl,f,a⟩;have t:=t3.o.1.grown a bL;have D:=B.grown a bL;have E:=z.grown a bL;have f4:=t.frozen 0;have z4:=t.cell 0 (.slice q L.length c) rfl;have Q:=aP (t3.o.slot t f);have b:=D.mG (p:=⟨g,0,none⟩) bL (.slice q (L.eraseIdx i).length c);have r:=E.mG (p:=⟨g,0,none⟩) bL (.slice q (L.eraseIdx i).length c);have R:aH (Tw w (C.setCell (g,0) (.slice q (L.eraseIdx i).length c)) g (aZ q)):=((Tw.dD n).trans (Tw.grown a)).bQ 0 _;have V:=r.cell 0 x.env rfl;have X:=r.cell 1 x.cY rfl;have Y:=r.cell 2 x.frame rfl;have Z:=r.cell 3 (.bool x.write) rfl;have u:=aP b;have v0:=b.cell 0 (.int .i64 0) rfl;have v1:=b.cell 1 (.int .i64 0) rfl;have v2:=b.cell 2 (.int .i64 0) rfl;have v3:=b.cell 3 (.bool false) rfl;have g0:=b.frozen 0;have g1:=b.frozen 1;have g2:=b.frozen 2;have g3:=b.frozen 3;clear b r D E t f a t3 y c0 I J K M B z HD n d;generalize (L.eraseIdx i)=S at *;generalize T:C.setCell (g,0) (.slice q S.length c)=U at *;go_wp2_with fail
  obtain⟨d0,d1,d2,d3⟩:_/\_/\_/\_:=⟨(jX x u.o).cell 0 x.env rfl,(jX x u.o).cell 1 x.cY rfl,(jX x u.o).cell 2 x.frame rfl,(jX x u.o).cell 3 (.bool x.write) rfl⟩
  change bodyPost _ _ _ _ _ (AV U w x)
  exact bodyPost_ret (v:= .agg #[x.env,x.cY,x.frame,x.write]) (by simp[results,results246,go_sem,d0,d1,d2,d3]) rfl ⟨rfl,Q.o.only (mW _ _ _) aQ (by simp[aZ];omega),R.o.only (mW _ _ _) (aaH _)⟩
end dH
end
namespace dH
def Uu(g:Nat)(A0:Option aJ)(L:List En)(h m:Int)(w:aA)(e:Ending)(w':aA):Prop:=∃(y:En) (b:Bool) (A:Option aJ) (c:Nat),e= .returned (.tuple #[.agg #[y.env,y.cY,y.frame,y.write],b,aU])/\Tb w' g A c L h m/\Tw w w' g (aZ A0)/\(aZ A=aZ A0\/∀q,aZ A=some q->w.heap.size<=q)
theorem Ip(L:List En)(X:En):(mZ L X).length<=L.length:=by
 unfold mZ;cases fi L X.env X.cY with
 |none=>simp only;split <;> simp[adO]
 |some i=>exact adO _ _
def GA:En:=⟨0,0,0,false⟩
theorem Nh(X:En)(g:Nat)(w:aA)(f:lE X=false):
 aG prog 210 #[.pointer g, .agg #[X.env,X.cY,X.frame,X.write]] w λe w'=>e= .returned (.tuple #[.agg #[aU,aU,aU,false],false, .int .i64 1])/\aD w w w':=by
 have d:=aP (λW=>mP X W);rw[f] at d;have b:aD w w ((w.alloc (aI #[X.env,X.cY,X.frame,X.write] 396)).alloc (aI #[aU,aU,aU,false] 396)):=(aX _ _).alloc aT _;have r1:=bC.gK (w.alloc (aI #[X.env,X.cY,X.frame,X.write] 396)) 396 #[aU,aU,aU,false] (g:=w.heap.size+1) aT;go_enter func210,ntmps210
 go_wp2_with fail
 refine(d.o _).mono ?_;rintro e h ⟨rfl,c⟩;replace b:=dQ b (aaH _) c;replace r1:=r1.keep c;have a:=aP r1;have v0:=r1.cell 0 (.int .i64 0) rfl;have v1:=r1.cell 1 (.int .i64 0) rfl;have v2:=r1.cell 2 (.int .i64 0) rfl;have v3:=r1.cell 3 (.bool false) rfl;have g0:=r1.frozen 0;have g1:=r1.frozen 1;have g2:=r1.frozen 2;have g3:=r1.frozen 3;clear r1 c;go_wp2_with fail
 obtain⟨d0,d1,d2,d3⟩:_/\_/\_/\_:=⟨(jX GA a.o).cell 0 (.int .i64 0) rfl,(jX GA a.o).cell 1 (.int .i64 0) rfl,(jX GA a.o).cell 2 (.int .i64 0) rfl,(jX GA a.o).cell 3 (.bool false) rfl⟩
 change bodyPost _ _ _ _ _ (AV h (w.heap.size+1) GA)
 exact bodyPost_ret (v:= .tuple #[.agg #[aU,aU,aU,false],false, .int .i64 1]) (by simp[results,results210,go_sem,d0,d1,d2,d3]) rfl ⟨rfl,V4 b (mW _ _ _) aQ⟩
theorem Kl(X:En)(g:Nat)(A:Option aJ)(c:Nat)(L:List En)(h m:Int)(w:aA)(hX:lE X=true)(r:Tb w g A c L h m)(hl:L.length<=100):
 aG prog 210 #[.pointer g, .agg #[X.env,X.cY,X.frame,X.write]] w (Uu g A (ld L X) h m w):=by
 have hr:=aP (λW=>mP X W);rw[hX] at hr;have O:aD w w ((w.alloc (aI #[X.env,X.cY,X.frame,X.write] 396)).alloc (aI #[aU,aU,aU,false] 396)):=(aX _ _).alloc aT _;have d:=bC.gK (w.alloc (aI #[X.env,X.cY,X.frame,X.write] 396)) 396 #[aU,aU,aU,false] (g:=w.heap.size+1) aT;have f:=(bC.new w 396 #[X.env,X.cY,X.frame,X.write]).alloc (aI #[aU,aU,aU,false] 396);have E:=r.Al;have hgw:g<w.heap.size:=r.1.lt;go_enter func210,ntmps210
 go_wp2_with fail
 refine(hr.o _).mono ?_;rintro e w2 ⟨rfl,D⟩;replace O:=dQ O (aaH _) D;replace d:=d.keep D;replace f:=f.keep D;have hz2:w.heap.size+1<w2.heap.size:=d.lt;have k:=O.alloc O.size (aI #[aU,aU,aU,false] 396);replace d:=d.alloc (aI #[aU,aU,aU,false] 396);replace f:=f.alloc (aI #[aU,aU,aU,false] 396);have a:=bC.new w2 396 #[aU,aU,aU,false];have x0:=f.cell 0 X.env rfl;have x1:=f.cell 1 X.cY rfl;have HP:=aP (λW hW=>zO g A c L h m X.env X.cY W hW aQ);clear D hr;go_wp2_with fail
 refine(HP.o _ (r.keep k)).mono ?_;rintro e w3 ⟨rfl,D⟩;replace k:=dQ k (aaH _) D;replace d:=d.keep D;replace f:=f.keep D;replace a:=a.keep D;have t3:=r.keep k;clear D x0 x1 r O;generalize w2.heap.size=F at *;go_upto_if 25 with(fail)
 go_cut [8,9] (λs8 s9 P=>∃(b:Bool) (y:En),s8= .bool b/\Tb P g A c (mZ L X) h m/\Tw w P g (aZ A)/\bC P w.heap.size 396 #[X.env,X.cY,X.frame,X.write]/\bC P (w.heap.size+1) 396 #[aU,aU,aU,false]/\bC P F 396 #[y.env,y.cY,y.frame,y.write])
 case first=>
  have G:=aP E;have Q:∀q,w.heap.size<=q->some q≠aZ A:=λq hq e=>by have:=G.o q e.symm;omega
  have j:=aP Q;clear Q E;have rest:=λ(i:Nat) (hi:i<L.length) (W:aA) (hR:Lq g A c (L.eraseIdx i) h m L[i] w3 (.returned (.agg #[.int .i64 L[i].env, .int .i64 L[i].cY, .int .i64 L[i].frame, .bool L[i].write])) W)=>(show Tb (AV W F L[i]) g A c (L.eraseIdx i) h m/\Tw w (AV W F L[i]) g (aZ A)/\bC (AV W F L[i]) w.heap.size 396 #[X.env,X.cY,X.frame,X.write]/\bC (AV W F L[i]) (w.heap.size+1) 396 #[aU,aU,aU,false]/\bC (AV W F L[i]) F 396 #[.int .i64 L[i].env, .int .i64 L[i].cY, .int .i64 L[i].frame, .bool L[i].write] from by
   obtain⟨_,r,hw⟩:=hR;refine⟨r.only (mW _ _ _) aQ (ae5 (j.o F aQ)),((Tw.dD k).trans hw).only (mW _ _ _) aQ,?_,?_,?_⟩
   .exact(hw.aZ f aQ (j.o _ aQ)).grown (mW _ _ _) bL
   .exact(hw.aZ d aQ (j.o _ aQ)).grown (mW _ _ _) bL
   .exact jX _ (hw.aZ a aQ (j.o _ aQ)))
  have J:=aP rest;have u:=λ(i:Nat) (W:aA) (hw:Tw w3 W g (aZ A))=>(hw.aZ a aQ (j.o _ aQ))
  have R:=aP u;clear rest u;have c0:=t3.1.cell 0 (.slice A L.length c) rfl;have N:=cZ t3 f (And.intro d a);clear t3 f d a;cases K:fi L X.env X.cY with
  |none=>
   have hp:FH L X.env X.cY= -1:=by unfold FH;rw[K]
   rw[hp];by_cases S:16<=L.length
   .have T:aH (mZ L X=L.eraseIdx 0):=by unfold aH mZ;rw[K];simp only;rw[aaK S]
    have hi:0<L.length:=aQ;have U:(16:Int)<=(L.length:Int):=aQ;go_wp2_with fail
    refine(Y3 g A c L h m 0 _ N.o.1 aQ hi).mono ?_;intro e W l;have z:=l;obtain⟨rfl,_,hw⟩:=z;have HQ:=aP (J.o 0 hi W l);have a:=R.o 0 W hw;generalize L[0]=x at *;have v0:=a.cell 0 (.int .i64 0) rfl;have v1:=a.cell 1 (.int .i64 0) rfl;have v2:=a.cell 2 (.int .i64 0) rfl;have v3:=a.cell 3 (.bool false) rfl;have g0:=a.frozen 0;have g1:=a.frozen 1;have g2:=a.frozen 2;have g3:=a.frozen 3;clear a hw l c0;go_wp2_with fail
    go_meet
    rw[T.o];exact⟨true,x,rfl,HQ.o⟩
   .have T:aH (mZ L X=L):=by unfold aH mZ;rw[K];simp only;rw[aaL S]
    have U:¬(16:Int)<=(L.length:Int):=aQ;go_wp2_with fail
    go_meet
    rw[T.o];exact⟨false,GA,rfl,N.o.1,Tw.dD k,N.o.2.1,N.o.2.2.1,N.o.2.2.2⟩
  |some i=>
   have hp:FH L X.env X.cY=i:=by unfold FH;rw[K]
   rw[hp];obtain⟨hi,hxx⟩:=BS K;clear hxx;have T:aH (mZ L X=L.eraseIdx i):=by unfold aH mZ;rw[K]
   clear K;have hi0:(0:Int)<=i:=aQ;go_wp2_with fail
   refine(Y3 g A c L h m i _ N.o.1 aQ hi).mono ?_;intro e W l;have z:=l;obtain⟨rfl,_,hw⟩:=z;have HQ:=aP (J.o i hi W l);have a:=R.o i W hw;generalize L[i]=x at *;have v0:=a.cell 0 (.int .i64 0) rfl;have v1:=a.cell 1 (.int .i64 0) rfl;have v2:=a.cell 2 (.int .i64 0) rfl;have v3:=a.cell 3 (.bool false) rfl;have g0:=a.frozen 0;have g1:=a.frozen 1;have g2:=a.frozen 2;have g3:=a.frozen 3;clear a hw l c0;go_wp2_with fail
   go_meet
   rw[T.o];exact⟨true,x,rfl,HQ.o⟩
 case rest=>
  clear t3 f d a HP k;obtain⟨b,y,rfl,r,hw,f,d,a⟩:=hcut;have hl2:=Ip L X;have HLD:aH (ld L X=mZ L X++ [X]):=rfl;generalize ld L X=L2 at *;generalize mZ L X=s at *;have hl1:s.length<=100:=aQ;clear hl2 hl;have G:=aP E;have j:aH (∀q,w.heap.size<=q->some q≠aZ A):=λq hq e=>by have:=G.o q e.symm;omega
  clear E;have hb3:w.heap.size<wc.heap.size:=f.lt;have hgc:g<wc.heap.size:=r.1.lt;have c0:=r.1.cell 0 (.slice A s.length c) rfl;have x0:=f.cell 0 X.env rfl;have x1:=f.cell 1 X.cY rfl;have x2:=f.cell 2 X.frame rfl;have x3:=f.cell 3 (.bool X.write) rfl;have B:=aX wc.drew (aI #[X.env,X.cY,X.frame,X.write] 396);have ta:=Tb.keep (w:=wc.drew) r B;have H:=aP ta;have V:=aP B;have H7:=aP (bC.keep (w:=wc.drew) a B);have H4:=aP (bC.keep (w:=wc.drew) d B);have Y:=aP hw;clear B ta a d f hw r;go_wp2_with fail
  go_region_law (refine lO _ rfl (.tmp 41) (.tmp 43) rfl Zz qJ (base:=g+1) (xs:=s) H.o.2 (n:=s.length) rfl rfl (m:=1) rfl (ys:= [X]) rfl (Sl.gK qJ wc.drew X _ rfl _ rfl) dT aQ (by simp[World.drew];omega) _ rfl (s.length+1) rfl ?_;intro t c5 w5 I C M;(have Z:=H.o.1.grown C (λe=>by have:=G.o g e.symm;omega));(have f5:=Z.frozen 0);(have z5:=Z.cell 0 (.slice A s.length c) rfl))
  all_goals
   have HT:aH (Tb (w5.setCell (g,0) (.slice t (s.length+1) c5)) g t c5 (s++ [X]) h m):=by
    have:=H.o.slot Z I;rw[aaT] at this;exact this
   have HTW:aH (Tw w (w5.setCell (g,0) (.slice t (s.length+1) c5)) g (aZ A)):=((Y.o.trans (Tw.dD (Below.drew (Below.refl _ _)))).trans (Tw.dD V.o)).trans (Tw.grown C) |>.bQ 0 _;have a:=(H7.o.grown C (j.o F aQ)).mG (p:=⟨g,0,none⟩) bL (.slice t (s.length+1) c5);have d:=(H4.o.grown C (j.o _ aQ)).mG (p:=⟨g,0,none⟩) bL (.slice t (s.length+1) c5);have HA5:aH (aZ t≠some (w.heap.size+1)):=by
    rcases M with e|e
    .show aZ t≠_;rw[e];exact ae5 (j.o _ aQ)
    .show aZ t≠_;rw[e];intro e2;injection e2 with e2;simp[World.drew] at e2;omega
   have HAT:aH (aZ t=aZ A\/∀q,aZ t=some q->w.heap.size<=q):=by
    rcases M with e|e
    .exact .inl e
    .exact .inr (λq hq=>by rw[e] at hq;injection hq with hq;simp[World.drew] at hq;omega)
   have J:=aP d;have v0:=d.cell 0 (.int .i64 0) rfl;have v1:=d.cell 1 (.int .i64 0) rfl;have v2:=d.cell 2 (.int .i64 0) rfl;have v3:=d.cell 3 (.bool false) rfl;have g0:=d.frozen 0;have g1:=d.frozen 1;have g2:=d.frozen 2;have g3:=d.frozen 3;have y0:=a.cell 0 y.env rfl;have y1:=a.cell 1 y.cY rfl;have y2:=a.cell 2 y.frame rfl;have y3:=a.cell 3 (.bool y.write) rfl;clear d a c0 x0 x1 x2 x3 I C M Z f5 z5 H V Y H7 H4;generalize w5.setCell (g,0) (.slice t (s.length+1) c5)=w6 at *;go_wp2_with fail
   obtain⟨d0,d1,d2,d3⟩:_/\_/\_/\_:=⟨(jX y J.o).cell 0 y.env rfl,(jX y J.o).cell 1 y.cY rfl,(jX y J.o).cell 2 y.frame rfl,(jX y J.o).cell 3 (.bool y.write) rfl⟩
   change bodyPost _ _ _ _ _ (AV w6 (w.heap.size+1) y)
   exact bodyPost_ret (v:= .tuple #[.agg #[y.env,y.cY,y.frame,y.write],b,aU]) (by simp[results,results210,go_sem,d0,d1,d2,d3]) rfl ⟨y,b,t,c5,rfl,by rw[HLD.o];exact HT.o.only (mW _ _ _) aQ HA5.o,HTW.o.only (mW _ _ _) aQ,HAT.o⟩
end dH
namespace dH
end dH
end
section
open Go.RowKit
variable{r:Option Nat}{q:Nat}{cs:Array aC}{G:Nat->Prop}{W:aA}
section
structure Kp(F:Nat->Prop)(a w:aA):Prop where
 os:w.os=a.os
 tape:w.tape=a.tape
 output:w.output=a.output
 size:a.heap.size<=w.heap.size
 block:∀i,F i->w.heap[i]?=a.heap[i]?
section
variable{F:Nat->Prop}{a w w':aA}{g:Nat}
theorem Kp.refl(F:Nat->Prop)(w:aA):Kp F w w:=⟨rfl,rfl,rfl,aaH _,λ_ _=>rfl⟩
theorem Kp.trans(h:Kp F a w)(k:Kp F w w'):Kp F a w':=
 ⟨k.os.trans h.os,k.tape.trans h.tape,k.output.trans h.output,aaR h.size k.size,λi hi=>(k.block i hi).trans (h.block i hi)⟩
theorem Kp.dD(h:aD a a w)(hF:∀b,F b->b<a.heap.size):Kp F a w:=⟨h.os,h.tape,h.output,h.size,λi hi=>h.block i (hF i hi)⟩
theorem Kp.grown(h:a.grownBy w r)(hF:∀b,F b->b<a.heap.size/\some b≠r):Kp F a w:=⟨h.os,h.tape,h.output,h.size,λi hi=>h.block i (hF i hi).1 (hF i hi).2⟩
theorem Kp.drew(h:Kp F a w):Kp F a w.drew:=⟨h.os,h.tape,h.output,h.size,h.block⟩
theorem Kp.drewN(h:Kp F a w)(n:Nat):Kp F a (w.drewN n):=⟨h.os,h.tape,h.output,h.size,h.block⟩
theorem Kp.cell(h:Kp F a w){p:aJ}{v:aC}(hc:a.cell? p=some v)(hp:F p.block):w.cell? p=some v:=by
 rw[World.cell?_of_block (w:=a) (h.block p.block hp)];exact hc
theorem Kp.aZ(h:Kp F a w){t:aN}(hc:bC a q t cs)(hq:F q):bC w q t cs:=(h.block q hq).trans hc
theorem Kp.mono(h:Kp F a w)(c:∀b,G b->F b):Kp G a w:=⟨h.os,h.tape,h.output,h.size,λi hi=>h.block i (c i hi)⟩
theorem Kp.low{B:Nat}(h:Kp F a w)(hF:∀b,b<B->F b):aD B a w:=⟨h.os,h.tape,h.output,h.size,λi hi=>h.block i (hF i hi)⟩
end
theorem rC{F:aA->Prop}(Φ:aA->Prop)(h:Φ W)(k:∀b,Φ b->F b):F W:=k W h
end
namespace Pa.Cp
end Pa.Cp
namespace Pa.Cp
end Pa.Cp
end
end Go.Proofs.YtacgiflhgdaeaaaGreat
