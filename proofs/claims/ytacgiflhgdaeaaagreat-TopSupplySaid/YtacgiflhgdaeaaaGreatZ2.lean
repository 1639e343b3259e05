/- Texts laid as one. -/
import Derived.Lib.SlicesDelete
import Derived.Lib.SliceRun
import Derived.Laws.IdiomCopy
import Derived.Deep.RegionLaw
import Derived.Deep.MidRow
import Derived.StillTail
import Derived.Test.YtacgiflhgdaeaaaGreatZ1
set_option linter.unusedVariables false
set_option linter.unusedSimpArgs false
set_option maxRecDepth 100000
set_option maxHeartbeats 20000000
namespace Go.Proofs.YtacgiflhgdaeaaaGreat
open Go.Proofs.Tryz
open Go renaming World->aA,Value->aC,Oper->aK,TypeId->aN,Program->aO,Calls->aG
open Go.RowKit renaming Below->aD,Hid->aH
section
open Go.RowKit
section
namespace Fr
structure fO where
 n:Nat
 T:List Bool
 B:List Int
def fc(s:fO):List aC:= .int .i64 s.n::(s.T.map Value.bool++s.B.map (Value.int .u8))
structure Fm(w:aA)(g:Nat)(s:fO):Prop where
 n0:s.n<=32
 t:s.T.length=32
 b:s.B.length=512
 at_:bC w g 150 (fc s).toArray
variable{i:Nat}
theorem Xp(s:fO)(a:s.T.length=32)(hi:i<32):(fc s)[1+i]?=some (.bool (s.T[i]'(by omega))):=by
 unfold fc;rw[Nat.add_comm,ae8,abC bL,ab7,aaG aQ];rfl
variable{m:Nat}
theorem Xm(s:fO)(a:s.T.length=32)(b:s.B.length=512)(hm:m<512):(fc s)[33+m]?=some (.int .u8 (s.B[m]'(by omega))):=by
 unfold fc;rw[show 33+m=(32+m)+1 by omega,ae8,aaS bL,ab7,abT,a,show 32+m - 32=m by omega,aaG aQ];rfl
theorem Mo(s:fO)(a:s.T.length=32)(hi:i<32)(v:Bool):(fc s).set (1+i) (.bool v)=fc {s with T:=s.T.set i v}:=by
 unfold fc;rw[Nat.add_comm,aaN,ac9 _ _ bL,ab1]
theorem Nr(s:fO)(a:s.T.length=32)(v:Int):(fc s).set (33+m) (.int .u8 v)=fc {s with B:=s.B.set m v}:=by
 unfold fc;rw[show 33+m=(32+m)+1 by omega,aaN,aa6 _ _ bL,abT,a,show 32+m - 32=m by omega,ab1]
section
variable{w w':aA}{g:Nat}{s:fO}
theorem Fm.cn(h:Fm w g s):w.cell? (g,0)=some (.int .i64 s.n):=h.at_.cell 0 _ (by rw[aaY];rfl)
theorem Fm.ct(h:Fm w g s)(hi:i<32):w.cell? (g,1+i)=some (.bool (s.T[i]'(by rw[h.t];exact hi))):=h.at_.cell _ _ (by rw[aaY];exact Xp s h.t hi)
theorem Fm.cb(h:Fm w g s)(hm:m<512):w.cell? (g,33+m)=some (.int .u8 (s.B[m]'(by rw[h.b];exact hm))):=h.at_.cell _ _ (by rw[aaY];exact Xm s h.t h.b hm)
theorem Fm.keep(h:Fm w g s)(a:aD w w w'):Fm w' g s:=⟨h.n0,h.t,h.b,h.at_.keep a⟩
theorem Fm.Ug(h:Fm w g s)(hi:i<32)(v:Bool):Fm (w.setCell (g,1+i) (.bool v)) g {s with T:=s.T.set i v}:=by
 refine⟨h.n0,by simpa using h.t,h.b,?_⟩;have:=h.at_.bQ (1+i) (.bool v);rw[aaI,Mo s h.t hi] at this;exact this
theorem Fm.Un(h:Fm w g s)(m:Nat)(v:Int):Fm (w.setCell (g,33+m) (.int .u8 v)) g {s with B:=s.B.set m v}:=by
 refine⟨h.n0,h.t,by simpa using h.b,?_⟩;have:=h.at_.bQ (33+m) (.int .u8 v);rw[aaI,Nr s h.t] at this;exact this
end
def FR(s:fO)(i:Int):Bool:=decide (0<=i/\i<s.n)
def gI(s:fO)(i:Int):Bool:=FR s i&&(s.T[i.toNat]?).getD false
theorem oK(s:fO)(g:Nat)(i:Int)(w:aA)(h:Fm w g s):aG prog 39 #[.pointer g,i] w λe w'=>e= .returned (.bool (FR s i))/\w=w':=by
 have c0:=h.cn;clear h;by_cases b:0<=i
 .have a:aH (FR s i=decide (i<(s.n:Int))):=by unfold aH FR;rw[ad4];omega
  go_enter func39,ntmps39
  go_wp2
  go_ret
  exact⟨iO a.o.symm,rfl⟩
 .have a:aH (FR s i=false):=by unfold aH FR;exact aa0 aQ
  go_enter func39,ntmps39
  go_wp2
  go_ret
  exact⟨iO a.o.symm,rfl⟩
theorem Z4{s:fO}{i:Int}(h:FR s i=true):∃k:Nat,i=k/\k<s.n:=by
 have a:0<=i/\i<s.n:=acC h;obtain⟨k,rfl⟩:=aaO a.1;exact⟨k,rfl,aQ⟩
theorem F2(s:fO)(g:Nat)(i:Int)(w:aA)(h:Fm w g s):aG prog 14 #[.pointer g,i] w λe w'=>e= .returned (.bool (gI s i))/\w=w':=by
 have H:=aP (λW j=>oK s g i W j);cases c:FR s i
 .rw[c] at H;have d:aH (gI s i=false):=by unfold aH gI;rw[c];rfl
  go_enter func14,ntmps14
  go_wp2_with fail
  refine(H.o _ h).mono ?_;rintro e l ⟨rfl,rfl⟩;go_wp2_with fail
  go_ret
  exact⟨iO d.o.symm,rfl⟩
 .rw[c] at H;obtain⟨k,rfl,hk⟩:=Z4 c;have m:=h.n0;have a:k<32:=aQ;have c1:=h.ct a;have f:k<s.T.length:=by rw[h.t];exact a
  have d:aH (gI s k=s.T[k]):=by unfold aH gI;rw[c,aaW,aaG f];rfl
  have n:(0:Int)<=k:=aQ;have p:(k:Int)<32:=aQ;generalize s.T[k]=b at *;go_enter func14,ntmps14
  go_wp2_with fail
  refine(H.o _ h).mono ?_;rintro e l ⟨rfl,rfl⟩;go_wp2_with fail
  go_ret
  exact⟨iO d.o.symm,rfl⟩
end Fr
end
namespace Fr
def gX(s:fO)(i a:Int):Int:=if gI s i=false then 6 else if a<0\/15<a then 1 else 0
theorem LK(s:fO)(g:Nat)(i a:Int)(w:aA)(h:Fm w g s):aG prog 243 #[.pointer g,i,a] w λe w'=>e= .returned (.int .i64 (gX s i a))/\w=w':=by
 have H:=aP (F2 s g i w h);unfold gX;cases c:gI s i
 .rw[c] at H;simp only[acY];go_enter func243,ntmps243
  go_wp2_with fail
  refine H.o.mono ?_;rintro e b ⟨rfl,rfl⟩;go_wp2_with fail
  go_ret
  exact⟨rfl,rfl⟩
 .rw[c] at H;simp only[ae6,ab4];by_cases d:a<0
  .rw[aaK (.inl d)];go_enter func243,ntmps243
   go_wp2_with fail
   refine H.o.mono ?_;rintro e b ⟨rfl,rfl⟩;go_wp2_with fail
   go_ret
   exact⟨rfl,rfl⟩
  .by_cases h1:15<a
   .rw[aaK (.inr h1)];have f:(16:Int)<=a:=aQ;go_enter func243,ntmps243
    go_wp2_with fail
    refine H.o.mono ?_;rintro e b ⟨rfl,rfl⟩;go_wp2_with fail
    go_ret
    exact⟨rfl,rfl⟩
   .rw[aaL aQ];have f:¬(16:Int)<=a:=aQ;go_enter func243,ntmps243
    go_wp2_with fail
    refine H.o.mono ?_;rintro e b ⟨rfl,rfl⟩;go_wp2_with fail
    go_ret
    exact⟨rfl,rfl⟩
theorem PV{s:fO}{i:Int}(h:gI s i=true):∃k:Nat,i=k/\k<s.n:=by
 unfold gI at h;rw[abJ] at h;exact Z4 h.1
theorem M1{s:fO}{i a:Int}(h:gX s i a=0):∃k m:Nat,i=k/\a=m/\k<s.n/\m<16:=by
 unfold gX at h;cases b:gI s i
 .rw[b] at h;simp at h
 .rw[b] at h;simp only[ae6,ab4] at h;split at h
  .omega
  .obtain⟨k,rfl,hk⟩:=PV b;obtain⟨m,rfl⟩:=aaO (show 0<=a by omega);exact⟨k,m,rfl,rfl,hk,aQ⟩
def tG(s:fO)(i a:Int):Int:=if gX s i a=0 then(s.B[i.toNat *16+a.toNat]?).getD 0 else 0
theorem JU(s:fO)(g:Nat)(i a:Int)(w:aA)(h:Fm w g s):aG prog 208 #[.pointer g,i,a] w λe w'=>e= .returned (.tuple #[.int .u8 (tG s i a), .int .i64 (gX s i a)])/\w=w':=by
 have H:=aP (LK s g i a w h);by_cases he:gX s i a=0
 .obtain⟨k,m,rfl,rfl,hk,hm⟩:=M1 he;have n:=h.n0;have d:=h.cb (m:=k *16+m) aQ;have f:k *16+m<s.B.length:=by rw[h.b];omega
  have c:aH (tG s k m=s.B[k *16+m]):=by unfold aH tG;rw[aaK he,aaW,aaW,aaG f];rfl
  rw[he] at H;rw[he];rw[<-abV] at d;have p:(0:Int)<=k:=aQ;have q:(k:Int)<32:=aQ;have m0:(0:Int)<=m:=aQ;have m1:(m:Int)<16:=aQ;clear he;generalize s.B[k *16+m]=v at *;go_enter func208,ntmps208
  go_wp2_with fail
  refine H.o.mono ?_;rintro e j ⟨rfl,rfl⟩;go_wp2_with fail
  go_ret2
  exact⟨QN c.o.symm,rfl⟩
 .have c:aH (tG s i a=0):=by unfold aH tG;rw[aaL he]
  have l:(gX s i a !=0)=true:=by simp[he]
  clear he;generalize gX s i a=v at *;go_enter func208,ntmps208
  go_wp2_with fail
  refine H.o.mono ?_;rintro e j ⟨rfl,rfl⟩;go_wp2_with fail
  go_ret2
  exact⟨QN c.o.symm,rfl⟩
def mV(s:fO)(i a:Int)(v:Int):fO:=if gX s i a=0 then {s with B:=s.B.set (i.toNat *16+a.toNat) v} else s
def VM(s:fO)(g:Nat)(v:aC)(w:aA)(e:Ending)(w':aA):Prop:=e= .returned v/\Fm w' g s/\w.grownBy w' (some g)
theorem EO(s:fO)(g:Nat)(i a v:Int)(w:aA)(h:Fm w g s):aG prog 209 #[.pointer g,i,a, .int .u8 v] w (VM (mV s i a v) g (.int .i64 (gX s i a)) w):=by
 have H:=aP (LK s g i a w h);unfold mV;by_cases he:gX s i a=0
 .rw[aaK he];obtain⟨k,m,rfl,rfl,hk,hm⟩:=M1 he;have n:=h.n0;obtain⟨v0,d⟩:∃v0,w.cell? (g,33+(k *16+m))=some (.int .u8 v0):=⟨_,h.cb (m:=k *16+m) aQ⟩
  have f:=h.at_.frozen (33+(k *16+m));have b:=aP (h.Un (k *16+m) v);have c:=aP (aY (bE w g) (33+(k *16+m)) (.int .u8 v));simp only[aaW];rw[he] at H;rw[he];rw[<-abV] at d f b c;have p:(0:Int)<=k:=aQ;have q:(k:Int)<32:=aQ;have m0:(0:Int)<=m:=aQ;have m1:(m:Int)<16:=aQ;clear he h;go_enter func209,ntmps209
  go_wp2_with fail
  refine H.o.mono ?_;rintro e j ⟨rfl,rfl⟩;go_wp2_with fail
  go_ret
  exact⟨rfl,b.o,c.o⟩
 .rw[aaL he];have l:(gX s i a !=0)=true:=by simp[he]
  clear he;generalize gX s i a=e0 at *;go_enter func209,ntmps209
  go_wp2_with fail
  refine H.o.mono ?_;rintro e j ⟨rfl,rfl⟩;go_wp2_with fail
  go_ret
  exact⟨rfl,h,bE w g⟩
def C7(s:fO)(i:Int):fO:=if gI s i then {s with T:=s.T.set i.toNat false} else s
theorem Ge(s:fO)(g:Nat)(i:Int)(w:aA)(h:Fm w g s):aG prog 199 #[.pointer g,i] w (VM (C7 s i) g (.int .i64 (if gI s i then 0 else 6)) w):=by
 have H:=aP (F2 s g i w h);unfold C7;have b:=aP h;cases a:gI s i
 .rw[a] at H;simp only[abB,ab4];clear h;go_enter func199,ntmps199
  go_wp2_with fail
  refine H.o.mono ?_;rintro e c ⟨rfl,rfl⟩;go_wp2_with fail
  go_ret
  exact⟨rfl,b.o,bE w g⟩
 .rw[a] at H;simp only[acY];obtain⟨k,rfl,hk⟩:=PV a;have j:=h.n0;obtain⟨v0,l⟩:∃v0,w.cell? (g,1+k)=some (.bool v0):=⟨_,h.ct (i:=k) aQ⟩
  have m:=h.at_.frozen (1+k);have d:=aP (h.Ug (i:=k) aQ false);have f:=aP (aY (bE w g) (1+k) (.bool false));have n:(0:Int)<=k:=aQ;have p:(k:Int)<32:=aQ;simp only[aaW];clear h a;go_enter func199,ntmps199
  go_wp2_with fail
  refine H.o.mono ?_;rintro e c ⟨rfl,rfl⟩;go_wp2_with fail
  go_ret
  exact⟨rfl,d.o,f.o⟩
end Fr
end
section
open Go.RowKit Go.Lib
variable{w:aA}{g:Nat}{P:aO}
section
theorem jJ(g:Nat)(t:aN):∀(a:List aC) (o:Nat) (w:aA) (cur:Array aC),w.heap[g]?=some (.cells cur t (0,0))->(w.setCells g o a).heap[g]?=some (.cells (lay cur o a) t (0,0))
 | [],_,_,_,h=>h
 |v::r,o,w,cur,h=>by
  rw[World.setCells,lay];exact jJ g t r (o+1) _ _ (by simp[World.setCell,adX,h])
theorem iR(g:Nat):∀(b:List aC) (o:Nat) (a w:aA),a.grownBy w (some g)->a.grownBy (w.setCells g o b) (some g)
 | [],_,_,_,h=>h
 |v::r,o,a,w,h=>iR g r (o+1) a _ (aY h o v)
section
variable{α:Type}{enc:α->List aC}{sz:Nat}
theorem NK(he:∀x,(enc x).length=sz)(xs:List α)(i:Nat):(xs.take i).flatMap enc=(xs.flatMap enc).take (i *sz):=by
 induction xs generalizing i with
 |nil=>simp
 |cons x xs a=>
  cases i with
  |zero=>simp
  |succ i=>
   rw[adQ,abK,abK,List.take_append,a,he,show(i+1) *sz - sz=i *sz by rw[acN];omega,aa7 (l:=enc x) (by rw[he,acN];omega)]
theorem oT(he:∀x,(enc x).length=sz)(xs:List α)(i:Nat):(xs.drop i).flatMap enc=(xs.flatMap enc).drop (i *sz):=by
 induction xs generalizing i with
 |nil=>simp
 |cons x xs a=>
  cases i with
  |zero=>simp
  |succ i=>
   rw[adR,abK,List.drop_append,a,he,show(i+1) *sz - sz=i *sz by rw[acN];omega,show(enc x).drop ((i+1) *sz)= [] from afA (by rw[he,acN];omega),aeK]
theorem Im(cur:Array aC)(F zs:List aC)(i k sz c:Nat)(hF:F.length=(i+1+k) *sz)(hc:i+1+k<=c)(hs:cur.size=c *sz)(a:cur.toList.take ((i+1+k) *sz)=F)(b:zs.length=sz):
 (lay (lay cur (i *sz) (F.drop ((i+1) *sz))) ((i+k) *sz) zs).toList.take ((i+k) *sz)=F.take (i *sz)++F.drop ((i+1) *sz):=by
 have e:(i+1+k) *sz=i *sz+sz+k *sz:=by rw[acN,acN,ad0]
 have f:(i+k) *sz=i *sz+k *sz:=acN _ _ _;have g:(i+1) *sz=i *sz+sz:=by rw[acN,ad0]
 have h:(i+1+k) *sz<=c *sz:=acB _ hc;have hd:(F.drop ((i+1) *sz)).length=k *sz:=by rw[abY,hF];omega
 apply aeM;intro j;rw[abU];by_cases h1:j<(i+k) *sz
 .rw[aaK h1,abG,lay_get? _ _ _ _ (by rw[lay_size,b];omega),aaL aQ,lay_get? _ _ _ _ (by rw[hd];omega),hd];by_cases d:j<i *sz
  .rw[aaL aQ,abC (by rw[aa9,hF];omega),abU,aaK d,<-a,abU,aaK aQ,abG]
  .rw[aaK aQ,aaS (by rw[aa9,hF];omega),aa9,hF,Nat.min_eq_left aQ]
 .rw[aaL h1,abZ];rw[aaT,aa9,hd,hF];omega
theorem eK{base:Nat}{e:aN}{c:Nat}{xs:List α}(h:bB enc sz w base e g c xs):
 ∃cur,base<=g/\w.heap[g]?=some (.cells cur e (0,0))/\xs.length<=c/\c<=maxLen/\cur.size=c *sz/\cur.toList.take (xs.length *sz)=xs.flatMap enc:=by
 rcases h.2 with⟨a,_⟩|⟨i,b,cur,a,d,a2,a3,a4,a5,f⟩
 .simp at a
 .simp only[Value.slice.injEq,adN,Addr.mk.injEq,and_true,afT] at a;obtain⟨rfl,rfl⟩:=a;exact⟨cur,d,a2,a3,a4,a5,f⟩
theorem cH{base:Nat}{e:aN}{c:Nat}{xs:List α}(h:bB enc sz w base e g c xs)(j:Nat)(b:j<c *sz):(w.cell? (g,j)).isSome=true/\w.frozen? (g,j)=false:=by
 obtain⟨cur,_,a,_,_,d,_⟩:=eK h;refine⟨?_,by simp[World.frozen?,a]⟩;rw[cell_of_row w g j cur e (0,0) a,abE aQ];rfl
theorem tX{base:Nat}{e:aN}{c:Nat}{xs:List α}(he:∀x,(enc x).length=sz)(h:bB enc sz w base e g c xs)(i k:Nat)(b:xs.length=i+1+k)(zs:List aC)(d:zs.length=sz):
 bB enc sz ((w.setCells g (i *sz) ((xs.drop (i+1)).flatMap enc)).setCells g ((i+k) *sz) zs) base e g c (xs.eraseIdx i)/\w.grownBy ((w.setCells g (i *sz) ((xs.drop (i+1)).flatMap enc)).setCells g ((i+k) *sz) zs) (some g):=by
 obtain⟨cur,f,a2,a3,a4,a5,j⟩:=eK h;refine⟨?_,iR g _ _ _ _ (iR g _ _ _ _ (bE w g))⟩;have l:(xs.eraseIdx i).length=i+k:=by rw[acO,aaK aQ];omega
 have a:=fH he xs;refine⟨fH he _, .inr ⟨g,c,_,rfl,f,jJ g e _ _ _ _ (jJ g e _ _ _ _ a2),aQ,a4,by rw[lay_size,lay_size,a5],?_⟩⟩;rw[l,List.eraseIdx_eq_take_drop_succ,aeW,NK he,oT he];exact Im cur _ zs i k sz c (by rw[a,b]) aQ a5 (by rw[<-b];exact j) d
end
theorem kZ(w:aA)(t e ty:aN)(z:aC)(f:P.underlying t=some (.slice e))(g:∀w,(zeroValue e).run P w= .ok z w)(zs:List aC)(h:(Builtin.zeroCells z.cells 1).toList=zs)(h1:∀u∈zs,u.oneCell'=true)(b o n c:Nat)(i:n=1)
 (hc:∀j,j<zs.length->(w.cell? ⟨b,o+j,none⟩).isSome=true/\w.frozen? ⟨b,o+j,none⟩=false):
 (Builtin.clear_ #[t] ty #[.slice (some ⟨b,o,none⟩) n c]).run P w= .ok (.tuple #[]) (w.setCells b o zs):=by
 subst i;have a:=run_storeCells_cells (P:=P) b o zs 0 w (λj d=>(hc j d).1) (λj d=>(hc j d).2) h1;simp only[aa3] at a;simp[Builtin.clear_,run_underlying f,g,h,a]
end
variable{n i:Nat}{Q:Exit->Act->aA->Prop}{cs:Array aC}
section
theorem afW(cur:Array aC)(L:List aC)(h:cur.size=L.length):lay cur 0 L=L.toArray:=by
 apply aeD;intro j;rw[lay_get? _ _ _ _ aQ];by_cases a:j<L.length
 .rw[aaK aQ,Nat.sub_zero,aaY]
 .rw[aaL aQ,adT aQ,aaY,abZ aQ]
section
variable{w:aA}{g:Nat}{t:aN}{cur:Array aC}
theorem bC.fill(h:bC w g t cur)(L:List aC)(a:cur.size=L.length):bC (w.setCells g 0 L) g t L.toArray:=by
 have:=jJ g t L 0 w cur h;rw[afW cur L a] at this;exact this
theorem bC.there(h:bC w g t cur)(a:n<=cur.size):w.there g 0 n:=λj b=>by
 rw[abQ];refine⟨?_,h.frozen j⟩;rw[h.cell j _ (abE aQ)];rfl
theorem bC.range{L:List aC}(h:bC w g t L.toArray):w.rangeAt g 0 L:=λj v a=>by
 rw[abQ];exact h.cell j v (by rw[aaY];exact a)
end
theorem G6(w:aA)(g i:Nat)(ty:aN)(v:aC)(hi:(P.info? ty).map (·.size)=some 1)(h1:v.oneCell'=true)(hc:w.there g i 1):(storeVar ty ⟨g,i,none⟩ v).run P w= .ok () (w.setCell (g,i) v):=by
 have:=run_storeCells_cells (P:=P) g i [v] 0 w (λj a=>by simpa using (hc j (by simpa using a)).1) (λj a=>by simpa using (hc j (by simpa using a)).2) (λx c=>by simp at c;subst c;exact h1);have b:v.cells=#[v]:=by cases v <;> first|rfl|cases h1
 cases hq:P.info? ty with
 |none=>simp[hq] at hi
 |some u=>
  have hs:u.size=1:=by simpa[hq] using hi
  simp only[aa3] at this;simp[storeVar,sizeOf,typeInfo,hq,b,hs,this];rfl
theorem dU{ops:Array aK}{rest:List aK}{op:aK}{a:Act}(w:aA)(b:op.guard=none)(ty:aN)(x y:Operand)(ho:op.op= .store ty x y)(g i:Nat)(v:aC)
 (c:a.eval x= .pointer (some ⟨g,i,none⟩)) (d:a.eval y=v) (hi:(P.info? ty).map (·.size)=some 1) (h1:v.oneCell'=true) (hc:w.there g i 1)
 (h:wpList P ops Q rest (a.put op.dst undef) (w.setCell (g,i) v)):wpList P ops Q (op::rest) a w:=
 wpList_plain b λ_ hK=>by
  unfold Oper.wp execOp;simp only[ho,c,d,Instr.storeAt,Instr.sureAddr,Sem.run_bind,Sem.run_pure,Result.andThen_ok,G6 w g i ty v hi h1 hc];exact hK _ _ h
theorem bC.one{t:aN}(h:bC w g t cs)(hi:i<cs.size):w.there g i 1:=λj a=>by
 obtain rfl:j=0:=aQ;rw[aa3];refine⟨?_,h.frozen i⟩;rw[h.cell i _ (abE hi)];rfl
end
end
section
open Go.RowKit
variable{W w:aA}{P:aO}{id:Nat}{Q:Exit->Act->aA->Prop}
section
structure bR(W:aA) where
 w:aA
 ok:aD W W w
instance Uo (W:aA):Nonempty (bR W):=⟨⟨W,Below.refl _ _⟩⟩
theorem bR.cell{p:Addr}{v:aC}(c:W.cell? p=some v):∀n:bR W,n.w.cell? p=some v:=λn=>bD n.ok c
theorem bR.below(h:∃n:bR W,w=n.w):aD W W w:=by
 obtain⟨n,rfl⟩:=h;exact n.ok
theorem gR{f:FuncId}{args:Array aC}{n:bR W}{v:aC}(h:aG P f args n.w λe w'=>e= .returned v/\aD n.w.heap.size n.w w'):
 aG P f args n.w λe a=>e= .returned v/\∃m:bR W,a=m.w:=
 h.mono λ_ w' ⟨he,b⟩=>⟨he,⟨w',dQ n.ok (aaH _) b⟩,rfl⟩
theorem pR{f:FuncId}{args:Array aC}{n:bR W}{v:aC}(h:aG P f args n.w λe w'=>e= .returned v/\n.w=w'):
 aG P f args n.w λe a=>e= .returned v/\∃m:bR W,a=m.w:=
 h.mono λ_ _ ⟨he,b⟩=>⟨he,n,b.symm⟩
theorem dA{a:Act}{l:List aK}(hm:P.follows .mixedOrders=true)(b:Region.lexB .any l.toArray=true)
 (h:wpQuiet P l.toArray (λw'=>∃n:bR W,w'=n.w) (λa'=>∀w',(∃n:bR W,w'=n.w)->Q .normal a' w') l a):(Code.region id l.toArray true).wp P Q a W:=
 wp_region_quiet (C:=λw'=>∃n:bR W,w'=n.w) hm b ⟨⟨_,(Below.refl _ _).drew⟩,rfl⟩ (by simpa using h)
end
structure Mk where
 t:aN
 val:Nat->aC
 c0:Array aC
 c1:Array aC
inductive Kd where
 |q
 |m (d:Nat)
 |s (d:Nat)
def kd(made:List Nat)(o:aK):Kd:=
 match o.op with
 | .alloc _=>match o.dst with
  |some d=>if made.contains d then .m d else .q
  |none=> .q
 | .store _ (.tmp d) _=>if made.contains d then .s d else .q
 |_=> .q
def oD(o:aK):Bool:=match o.op with
 | .call _=>true
 |_=>false
def plain(o:aK):Bool:=match o.op with
 | .move _| .assign _| .pick _ _ _| .build _ _| .load _ _| .binOp _ _ _ _ _| .unOp _ _ _| .convert _ _ _| .slice _ _ _ _ _| .fieldAddr _ _ _| .field _ _ _| .indexAddr _ _ _| .index _ _ _| .extract _ _| .nilCheck _=>true
 |_=>false
section
variable{P:aO}{W:aA}
def fD(a:Act)(l:List aK)(vals:Nat->aC):Nat->Act
 |0=>a
 |j+1=>match l[j]? with
  |some o=>(fD a l vals j).put o.dst (vals j)
  |none=>fD a l vals j
theorem tZ(a:Act)(o:aK)(l:List aK)(vals:Nat->aC):∀j,fD a (o::l) vals (j+1)=fD (a.put o.dst (vals 0)) l (λi=>vals (i+1)) j
 |0=>rfl
 |j+1=>by
  rw[fD];have:(o::l)[j+1]?=l[j]?:=rfl;rw[this,tZ a o l vals j];rfl
theorem X3{a b:Act}{k:Nat}(h:a.tmps[k]?=b.tmps[k]?):a.eval (.tmp k)=b.eval (.tmp k):=by
 simp[Act.eval,aeL,h]
theorem pF{a b:Act}{ops:Array aK}(o:aK)(hs:∀cs b,o.op≠ .select cs b)(h:∀k∈o.looksAt ops,a.tmps[k]?=b.tmps[k]?):execOp a.eval o=execOp b.eval o:=by
 refine execOp_congr o hs λx c=>?_
 cases x with
 |tmp k=>exact X3 (h k (by unfold Oper.looksAt;exact adZ _ (adV.2 ⟨.tmp k,by simpa using c,rfl⟩)))
 |_=>rfl
theorem KZ{a b:Act}{ops:Array aK}(o:aK)(h:∀k∈o.looksAt ops,a.tmps[k]?=b.tmps[k]?):Region.wanted o (yielded ops a.tmps)=Region.wanted o (yielded ops b.tmps):=by
 unfold Region.wanted;cases c:o.guard with
 |none=>rfl
 |some gb=>
  obtain⟨g,bb⟩:=gb;have:yielded ops a.tmps g=yielded ops b.tmps g:=by
   unfold yielded;cases hd:(ops[g]?).bind (·.dst) with
   |none=>rfl
   |some k=>
    have hk:k∈o.looksAt ops:=by unfold Oper.looksAt;simp[c,hd]
    simp only[aeU,h k hk]
  simp only[this]
theorem gB(a:Act)(dst:Option Nat)(v:aC)(k:Nat)(h:dst≠some k):(a.put dst v).tmps[k]?=a.tmps[k]?:=by
 cases dst with
 |none=>rfl
 |some d=>
  have:d≠k:=λe=>h (by rw[e])
  simp[Act.put,Array.getElem?_setIfInBounds_ne this]
theorem kW(a:Act)(dst:Option Nat)(v:aC):(a.put dst v).tmps.size=a.tmps.size:=by cases dst <;> simp[Act.put]
theorem mA(a:Act)(dst:Option Nat)(v:aC):(a.put dst v).defers=a.defers:=by cases dst <;> rfl
theorem qZ(a:Act)(k:Nat)(v:aC)(h:k<a.tmps.size):(a.put (some k) v).tmps[k]?=some v:=by simp[Act.put,h]
theorem jE(a:Act)(l:List aK)(vals:Nat->aC):∀n,(fD a l vals n).tmps.size=a.tmps.size/\(fD a l vals n).defers=a.defers
 |0=>⟨rfl,rfl⟩
 |n+1=>by
  unfold fD;split
  .exact⟨by rw[kW];exact(jE a l vals n).1,by rw[mA];exact(jE a l vals n).2⟩
  .exact jE a l vals n
theorem oH(a:Act)(l:List aK)(vals:Nat->aC)(k:Nat):∀n,(∀j o,j<n->l[j]?=some o->o.dst≠some k)->(fD a l vals n).tmps[k]?=a.tmps[k]?
 |0,_=>rfl
 |n+1,h=>by
  unfold fD;split
  .rename_i o ho;rw[gB _ _ _ _ (h n o aQ ho)];exact oH a l vals k n λj c d b=>h j c aQ b
  .exact oH a l vals k n λj c d b=>h j c aQ b
theorem uM(a:Act)(l:List aK)(vals:Nat->aC)(k i:Nat)(c:aK)(hi:l[i]?=some c)(hd:c.dst=some k)(hk:k<a.tmps.size)
 (b:∀j o,l[j]?=some o->j≠i->o.dst≠some k):∀n,i<n->(fD a l vals n).tmps[k]?=some (vals i)
 |0,h=>by omega
 |n+1,h=>by
  unfold fD;by_cases d:n=i
  .subst d;simp only[hi,hd];exact qZ _ _ _ (by rw[(jE a l vals n).1];exact hk)
  .split
   .rename_i o ho;rw[gB _ _ _ _ (b n o ho d)];exact uM a l vals k i c hi hd hk b n aQ
   .exact uM a l vals k i c hi hd hk b n aQ
end
variable{i:Nat}{ia:Array Bool}
section
def eW(ops:Array aK)(j:Nat):Option Nat:=(ops[j]?).bind (·.dst)
def RY(made:List Nat)(ops:Array aK)(i:Nat):Option Nat:=match ops[i]? with
 |some o=>match kd made o with
  | .s d=>some d
  |_=>none
 |none=>none
def GF(ops:Array aK)(i:Nat):Bool:=match ops[i]? with
 |some o=>(o.looksAt ops).all λk=>(List.range ops.size).all λj=>eW ops j !=some k || (decide (j<i)&&Region.waitsFor .any ops i j) || (decide (i<j)&&Region.waitsFor .any ops j i)
 |none=>true
def GG(ops:Array aK)(i:Nat):Bool:=match ops[i]? with
 |some o=>o.after.all λe=>!Region.binds .any e || decide (e.on<i)
 |none=>true
structure K9(made:List Nat)(N:Nat)(ops:Array aK):Prop where
 KL:∀(j:Nat) (o:aK) cs b,ops[j]?=some o->o.op≠ .select cs b
 lB:∀(i j:Nat) (oi oj:aK) (k:Nat),ops[i]?=some oi->ops[j]?=some oj->oi.dst=some k->oj.dst=some k->i=j
 back:∀(i:Nat) (o:aK),ops[i]?=some o->∀e∈o.after,Region.binds .any e=true->e.on<i
 look:∀(i j:Nat) (oi oj:aK) (k:Nat),ops[i]?=some oi->ops[j]?=some oj->k∈oi.looksAt ops->oj.dst=some k->(j<i/\Region.waitsFor .any ops i j=true)\/(i<j/\Region.waitsFor .any ops j i=true)
 kq:∀(i:Nat) (o:aK),ops[i]?=some o->kd made o= .q->(∀k∈o.looksAt ops,k∉made)/\(∀d,o.dst=some d->d∉made)/\(plain o=true\/oD o=true)
 km:∀(i:Nat) (o:aK) (d:Nat),ops[i]?=some o->kd made o= .m d->o.dst=some d/\d∈made/\o.guard=none/\(∀k∈o.looksAt ops,k∉made)
 ks:∀(i:Nat) (o:aK) (d:Nat),ops[i]?=some o->kd made o= .s d->d∈made/\d∈o.looksAt ops/\o.guard=none/\o.dst=none/\(∀k∈o.looksAt ops,k=d\/k∉made)/\∃(j:Nat) (oj:aK),ops[j]?=some oj/\kd made oj= .m d/\Region.waitsFor .any ops i j=true
 Eu:∀(i j:Nat) (oi oj:aK) (d:Nat),ops[i]?=some oi->ops[j]?=some oj->kd made oi= .s d->kd made oj= .s d->i=j
 Tq:∀d∈made,∃(j:Nat) (oj:aK),ops[j]?=some oj/\kd made oj= .m d
 X4:∀d∈made,∃(j:Nat) (oj:aK),ops[j]?=some oj/\kd made oj= .s d
 size:∀(j:Nat) (o:aK) (s:Nat),ops[j]?=some o->o.dst=some s->s<N
 KE:∀d∈made,d<N
theorem bU{ops:Array aK}{o:aK}(h:ops[i]?=some o):i<ops.size:=(aeN.1 h).1
def nP(listed:Array Bool):Nat:=(listed.toList.filter (! ·)).length
theorem JO(h:nP ia=0)(i:Nat)(hi:i<ia.size):ia.getD i false=true:=by
 unfold nP at h;have:=abO h;rw[aeC] at this;have h1:=this ia[i] (by simp[Array.getElem_mem_toList]);simp[hi];simpa using h1
theorem U7:∀(l:List Bool) (i:Nat),l[i]?=some false->((l.set i true).filter (! ·)).length+1=(l.filter (! ·)).length
 | [],i,h=>by simp at h
 |b::l,0,h=>by simp at h;subst h;simp
 |b::l,i+1,h=>by
  have:=U7 l i (by simpa using h);cases b <;> simp <;> omega
theorem JG(h:ia.getD i true=false):nP (ia.setIfInBounds i true)+1=nP ia:=by
 unfold nP;rw[Array.toList_setIfInBounds];refine U7 _ _ ?_;rcases ac0 i ia.size with a|a
 .simp[a] at h⊢;exact h
 .simp[adT a] at h
end
variable{md:Region.Mode}{j:Nat}
section
variable{P:aO}{W:aA}{made:List Nat}{D:Nat->Mk}{ops:Array aK}{l:List aK}{a0:Act}{vals:Nat->aC}{N:Nat}
def rv(made:List Nat)(D:Nat->Mk)(vals:Nat->aC)(γ:Nat->Nat)(j:Nat)(o:aK):aC:=match kd made o with
 | .m d=>(D d).val (γ d)
 |_=>vals j
def mL(made:List Nat)(ops:Array aK)(listed:Array Bool)(d:Nat):Prop:=∃(j:Nat) (o:aK),ops[j]?=some o/\kd made o= .m d/\listed.getD j false=true
structure M0(W:aA)(made:List Nat)(D:Nat->Mk)(ops:Array aK)(a0:Act)(vals:Nat->aC)(listed:Array Bool)(a:Act)(w:aA)(γ:Nat->Nat)(σ:Nat->Bool):Prop where
 size:listed.size=ops.size
 closed:∀(j:Nat) (oj:aK),ops[j]?=some oj->listed.getD j false=true->∀e∈oj.after,Region.binds .any e=true->listed.getD e.on false=true
 tK:a.tmps.size=a0.tmps.size
 defs:a.defers=a0.defers
 new:∀(j:Nat) (o:aK) (s:Nat),ops[j]?=some o->o.dst=some s->listed.getD j false=true->a.tmps[s]?=some (rv made D vals γ j o)
 oX:∀s:Nat,(∀(j:Nat) (o:aK),ops[j]?=some o->listed.getD j false=true->o.dst≠some s)->a.tmps[s]?=a0.tmps[s]?
 below:aD W W w
 mem:∀d∈made,mL made ops listed d->W.heap.size<=γ d/\bC w (γ d) (D d).t (if σ d then(D d).c1 else(D d).c0)
 inj:∀d∈made,∀d'∈made,mL made ops listed d->mL made ops listed d'->γ d=γ d'->d=d'
 sig:∀d,σ d=true->∃(j:Nat) (o:aK),ops[j]?=some o/\kd made o= .s d/\listed.getD j false=true
 XW:∀(d j:Nat) (o:aK),ops[j]?=some o->kd made o= .s d->listed.getD j false=true->σ d=true
theorem o4{o:aK}(hi:ops[i]?=some o)(h:Region.waitsFor md ops i j=true):∃e∈o.after,Region.binds md e=true/\e.on=j:=by
 obtain⟨a,ho,he⟩:=Region.waitsFor_spec h;rw[hi] at ho;injection ho with ho;subst ho;exact he
theorem nH{o:aK}(h:plain o=true)(ρ:Operand->aC)(w w':aA)(f:FuncId)(args:Array aC):(execOp ρ o).run P w≠ .ok (.enter f args) w':=by
 have key:∀s:Sem aC,(do let x<-s;pure (Next.value x):Sem Next).run P w≠ .ok (.enter f args) w':=by
  intro s he;simp only[Sem.run_bind] at he;cases hs:s.run P w <;> simp[hs,Sem.run_pure] at he
 obtain⟨dst,op,ty,pos,after,guard⟩:=o;cases op <;> simp only[plain] at h <;> (try cases h) <;> simp only[execOp]
 case nilCheck x=>
  have d:∀{α:Type} (s:Sem α) (k:α->Sem Next),(∀a w,(k a).run P w≠ .ok (.enter f args) w')->∀w,(s >>= k).run P w≠ .ok (.enter f args) w':=by
   intro α s k hk w he;simp only[Sem.run_bind] at he;cases hs:s.run P w with
   |ok a i=>rw[hs] at he;exact hk a i he
   |halt x i=>rw[hs] at he;cases he
  have e:∀v w,(pure (Next.value v):Sem Next).run P w≠ .ok (.enter f args) w':=λv w he=>by simp[Sem.run_pure] at he
  have g:∀{α:Type} (s:Sem α) (v:aC) w,(Functor.map (λ_=>Next.value v) s).run P w≠ .ok (.enter f args) w':=λ{α} s v w he=>by
   have j:=d s (λ_=>pure (Next.value v)) (λ_ w=>e v w) w;rw[map_eq_pure_bind] at he;exact j he
  generalize ρ x=v;split
  all_goals first
   |exact e _ _
   |(intro he;simp[runtimePanic] at he;done)
   |skip
  split
  all_goals first
   |exact e _ _
   |(intro he;simp[runtimePanic] at he;done)
   |skip
  refine d _ _ (λa i=>d _ _ (λb n=>?_) i) w;split
  all_goals first
   |exact e _ _
   |exact d _ _ (λ_ m=>e _ m) _
   |exact g _ _ _
 case pick c x y=>
  intro he;simp only[Sem.run_bind] at he;cases hs:(asBool (ρ c)).run P w <;> simp[hs,Sem.run_pure] at he
 all_goals first|exact key _|(intro he;simp[Sem.run_pure] at he;done)
end
def pN(made:List Nat)(o:aK):Option Nat:=match o.dst with
 |some d=>if made.contains d then some d else none
 |none=>none
def l7(made:List Nat)(ops:Array aK)(o:aK):List Nat:=made.filter λk=>(o.looksAt ops).contains k
def dG(γ:Nat->aC):List Nat->Act->Act
 | [],a=>a
 |k::ks,a=>dG γ ks (a.put (some k) (γ k))
section
variable{P:aO}{R:aA->aA->Prop}{W:aA}{made:List Nat}{S:Nat->aC->aA->Prop}{ops:Array aK}
def vV(P:aO)(R:aA->aA->Prop)(T:aC->aA->Prop)(w:aA):Result Next->Prop
 | .ok (.value v) w'=>R w w'/\T v w'
 | .ok .skip w'=>R w w'/\T undef w'
 | .ok (.enter f args) w'=>R w w'/\aG P f args w' λe w''=>∃v,e= .returned v/\R w' w''/\T v w''
 |_=>False
def SH(P:aO)(R:aA->aA->Prop)(w:aA)(v:aC):Result Next->Prop
 | .ok (.enter f args) w'=>w'=w/\aG P f args w λe w''=>e= .returned v/\R w w''
 | .ok (.value u) w'=>w'=w/\u=v
 |_=>False
theorem xH(γ:Nat->aC):∀(b:List Nat) (a:Act),(dG γ b a).tmps.size=a.tmps.size/\(dG γ b a).defers=a.defers
 | [],a=>⟨rfl,rfl⟩
 |d::b,a=>by
  unfold dG;exact⟨by rw[(xH γ b _).1,kW],by rw[(xH γ b _).2,mA]⟩
theorem zB(γ:Nat->aC)(k:Nat):∀(b:List Nat) (a:Act),k∉b->(dG γ b a).tmps[k]?=a.tmps[k]?
 | [],a,_=>rfl
 |d::b,a,h=>by
  unfold dG;rw[zB γ k b _ (λc=>h (by simp[c])),gB _ _ _ _ (λe=>h (by injection e with e;simp[e]))]
theorem JI(γ:Nat->aC)(k:Nat):∀(c:List Nat) (a:Act),k∈c->k<a.tmps.size->(dG γ c a).tmps[k]?=some (γ k)
 |d::c,a,h,hk=>by
  unfold dG;by_cases b:k∈c
  .exact JI γ k c _ b (by rw[kW];exact hk)
  .have:k=d:=by simpa[b] using h
   subst this;rw[zB γ k c _ b,qZ _ _ _ hk]
theorem PZ{k:Nat}(h:(eW ops i==some k)=true):∃o,ops[i]?=some o/\o.dst=some k:=by
 unfold eW at h;cases ho:ops[i]? with
 |none=>simp[ho] at h
 |some o=>simp[ho] at h;exact⟨o,rfl,h⟩
theorem Mp{o:aK}{d:Nat}(h:pN made o=some d):o.dst=some d/\d∈made:=by
 unfold pN at h;split at h
 .rename_i a hd;split at h
  .rename_i hm;injection h with h;subst h;exact⟨hd,by simpa using hm⟩
  .cases h
 .cases h
theorem Mr{o:aK}{d:Nat}(h:pN made o=none)(hd:o.dst=some d):d∉made:=by
 unfold pN at h;rw[hd] at h;simp only at h;split at h
 .cases h
 .rename_i hm;simpa using hm
theorem YE{o:aK}{d:Nat}(hd:o.dst=some d)(hm:d∈made):pN made o=some d:=by
 unfold pN;rw[hd];simp[hm]
variable{l:List aK}{a0:Act}{vals:Nat->aC}{N:Nat}
def wL(ops:Array aK)(listed:Array Bool)(d:Nat):Prop:=∃(j:Nat) (o:aK),ops[j]?=some o/\o.dst=some d/\listed.getD j false=true
theorem JW{o:aK}(hi:ops[i]?=some o){d:Nat}(hd:o.dst≠some d)(h:wL ops (ia.setIfInBounds i true) d):wL ops ia d:=by
 obtain⟨j,f,a,b,e⟩:=h;refine⟨j,f,a,b,?_⟩;by_cases c:i=j
 .subst c;rw[hi] at a;injection a with a;subst a;exact absurd b hd
 .rw[getD_set_ne false c] at e;exact e
end
def bV(w w':aA):Prop:=aD w w w'
def iE(Q:Exit->Act->aA->Prop):Exit->Act->aA->Prop
 | .normal,a,w=>Q .normal a w
 |_,_,_=>False
structure CQ where
 w:aA
instance Xz:Nonempty CQ:=⟨⟨default⟩⟩
def jS(o:aK):Bool:=
 match o.op with
 | .move _| .assign _| .pick _ _ _| .build _ _| .binOp _ _ _ _ _| .unOp _ _ _| .convert _ _ _| .slice _ _ _ _ _| .fieldAddr _ _ _| .field _ _ _| .indexAddr _ _ _| .index _ _ _| .extract _ _| .nilCheck _=>true
 |_=>false
theorem CX{o:aK}(h:jS o=true):plain o=true:=by
 obtain⟨dst,op,ty,pos,after,guard⟩:=o;cases op <;> simp_all[jS,plain]
variable{ga:Act->Prop}{g:Nat}
section
variable{P:aO}{ops:Array aK}{T:List Nat}{C:aA->Prop}
def Bf(P:aO)(C:aA->Prop)(o:aK)(a:Act)(v:aC):Prop:=
 if jS o then ∀w,(∃n:CQ,w=n.w)->o.quietAt P a (λw=>∃n:CQ,w=n.w) w v else ∀w,C w->o.quietAt P a C w v
def oC(P:aO)(ops:Array aK)(T:List Nat)(C:aA->Prop)(Q:Act->Prop):Nat->List aK->Act->Prop
 |_, [],a=>Q a
 |i,o::rest,a=>
  if T.contains i then oC P ops T C Q (i+1) rest (a.put o.dst undef)
  else if Region.wanted o (yielded ops a.tmps)=true then ∃v,Bf P C o a v/\oC P ops T C Q (i+1) rest (a.put o.dst v)
  else oC P ops T C Q (i+1) rest (a.put o.dst undef)
def Lw(P:aO)(ops:Array aK)(T:List Nat)(C:aA->Prop)(i:Nat)(o:aK)(a:Act)(v:aC):Prop:=
 (T.contains i=true)\/(Region.wanted o (yielded ops a.tmps)=true/\Bf P C o a v)\/(Region.wanted o (yielded ops a.tmps)=false/\v=undef)
theorem Ax:∀(l:List aK) (i:Nat) (a:Act),oC P ops T C ga i l a->
 ∃vals:Nat->aC,(∀j o,l[j]?=some o->Lw P ops T C (i+j) o (fD a l vals j) (vals j))/\ga (fD a l vals l.length)
 | [],i,a,h=>⟨λ_=>undef,λj o b=>by simp at b,h⟩
 |o::l,i,a,h=>by
  have key:∀v,Lw P ops T C i o a v->oC P ops T C ga (i+1) l (a.put o.dst v)->∃vals:Nat->aC,(∀j c,(o::l)[j]?=some c->Lw P ops T C (i+j) c (fD a (o::l) vals j) (vals j))/\ga (fD a (o::l) vals (o::l).length):=by
   intro v d e;obtain⟨g,h1,k⟩:=Ax l (i+1) _ e;refine⟨λi=>match i with|0=>v|i+1=>g i,λj c b=>?_,?_⟩
   .cases j with
    |zero=>
     simp at b;subst b;exact d
    |succ j=>
     rw[tZ,show i+(j+1)=i+1+j by omega];exact h1 j c b
   .rw[abM,tZ];exact k
  unfold oC at h;by_cases f:T.contains i=true
  .rw[aaK f] at h;exact key undef (.inl f) h
  .rw[aaL f] at h;by_cases hw:Region.wanted o (yielded ops a.tmps)=true
   .rw[aaK hw] at h;obtain⟨v,d,e⟩:=h;exact key v (.inr (.inl ⟨hw,d⟩)) e
   .rw[aaL hw] at h;exact key undef (.inr (.inr ⟨by simpa using hw,rfl⟩)) h
def chainB(T:List Nat)(N:Nat)(ops:Array aK):Bool:=
 Region.noSelect ops&&
 ((List.range ops.size).all λi=>(List.range ops.size).all λj=>i==j || (eW ops i).isNone || eW ops i !=eW ops j)&&
 ((List.range ops.size).all λi=>GG ops i)&&
 ((List.range ops.size).all λi=>GF ops i)&&
 ((List.range ops.size).all λi=>match ops[i]? with
  |some o=>if T.contains i then o.guard.isNone&&(o.looksAt ops).all λk=>(List.range ops.size).all λj=>eW ops j !=some k || (decide (j<i)&&Region.waitsFor .any ops i j)
   else((o.looksAt ops).all λk=>(List.range ops.size).all λj=>eW ops j !=some k || !T.contains j)&&(jS o || Region.waitsFor .any ops (T.headD 0) i)
  |none=>true)&&
 ((List.range (T.length - 1)).all λk=>Region.waitsFor .any ops (T.getD (k+1) 0) (T.getD k 0))&&
 (T.all λt=>decide (t<ops.size))&&!T.isEmpty&&
 ((List.range ops.size).all λj=>match eW ops j with|some s=>decide (s<N)|none=>true)
structure TN(T:List Nat)(N:Nat)(ops:Array aK):Prop where
 KL:∀(j:Nat) (o:aK) cs b,ops[j]?=some o->o.op≠ .select cs b
 lB:∀(i j:Nat) (oi oj:aK) (k:Nat),ops[i]?=some oi->ops[j]?=some oj->oi.dst=some k->oj.dst=some k->i=j
 back:∀(i:Nat) (o:aK),ops[i]?=some o->∀e∈o.after,Region.binds .any e=true->e.on<i
 look:∀(i j:Nat) (oi oj:aK) (k:Nat),ops[i]?=some oi->ops[j]?=some oj->k∈oi.looksAt ops->oj.dst=some k->(j<i/\Region.waitsFor .any ops i j=true)\/(i<j/\Region.waitsFor .any ops j i=true)
 tg:∀(i:Nat) (o:aK),ops[i]?=some o->i∈T->o.guard=none
 tl:∀(i j:Nat) (o oj:aK) (k:Nat),ops[i]?=some o->i∈T->k∈o.looksAt ops->ops[j]?=some oj->oj.dst=some k->Region.waitsFor .any ops i j=true
 nl:∀(i j:Nat) (o oj:aK) (k:Nat),ops[i]?=some o->i∉T->k∈o.looksAt ops->ops[j]?=some oj->oj.dst=some k->j∉T
 fr:∀(i:Nat) (o:aK),ops[i]?=some o->i∉T->jS o=true\/Region.waitsFor .any ops (T.headD 0) i=true
 row:∀k,k+1<T.length->Region.waitsFor .any ops (T.getD (k+1) 0) (T.getD k 0)=true
 SJ:∀t∈T,t<ops.size
 ne:T≠[]
 size:∀(j:Nat) (o:aK) (s:Nat),ops[j]?=some o->o.dst=some s->s<N
theorem WR(h:chainB T g ops=true):TN T g ops:=by
 simp only[chainB,abJ,abR,ab3] at h;obtain⟨⟨⟨⟨⟨⟨⟨⟨f,h1⟩,h2⟩,h3⟩,h4⟩,h5⟩,h6⟩,h7⟩,h8⟩:=h;refine⟨Region.noSelect_spec f,?_,?_,?_,?_,?_,?_,?_,?_,?_,?_,?_⟩
 .intro i j l d k hi a m c;have:=h1 i (bU hi) j (bU a);simp[eW,hi,a,m,c] at this;exact this
 .intro i o hi e he n;have:=h2 i (bU hi);unfold GG at this;rw[hi] at this;have:=Array.all_eq_true'.1 this e he;simp[n] at this;exact this
 .intro i j l d k hi a hk c;have:=h3 i (bU hi);unfold GF at this;rw[hi] at this;have:=abR.1 (abR.1 this k hk) j (ab3.2 (bU a));simp[eW,a,c] at this;exact this
 .intro i o hi b;have:=h4 i (bU hi);rw[hi] at this;simp only[acH,abD b,acY,abJ,adG] at this;exact this.1
 .intro i j o d k hi b hk a c;have:=h4 i (bU hi);rw[hi] at this;simp only[acH,abD b,acY,abJ] at this;have:=abR.1 (abR.1 this.2 k hk) j (ab3.2 (bU a));simp[eW,a,c] at this;exact this.2
 .intro i j o d k hi b hk a c;have:=h4 i (bU hi);rw[hi] at this;simp only[acH,aa0 b,abB,ab4,abJ] at this;have:=abR.1 (abR.1 this.1 k hk) j (ab3.2 (bU a));simp[eW,a,c] at this;exact this
 .intro i o hi b;have:=h4 i (bU hi);rw[hi] at this;simp only[acH,aa0 b,abB,ab4,abJ,ae4] at this;exact this.2
 .intro k hk;exact h5 k aQ
 .intro t b;simpa using h6 t b
 .intro e;rw[e] at h7;simp at h7
 .intro j o s a hd;have:=h8 j (bU a);simp[eW,a,hd] at this;exact this
end
variable{w0:aA}
section
variable{P:aO}{T:List Nat}{C:aA->Prop}{l:List aK}{a0:Act}{vals:Nat->aC}{N:Nat}{Q:Exit->Act->aA->Prop}
structure Sg(P:aO)(T:List Nat)(C:aA->Prop)(l:List aK)(a0:Act)(vals:Nat->aC)(N:Nat)(Q:Exit->Act->aA->Prop)(listed:Array Bool)(a:Act)(w:aA)(p:Nat)(b:Act):Prop where
 size:listed.size=l.toArray.size
 closed:∀(j:Nat) (oj:aK),l.toArray[j]?=some oj->listed.getD j false=true->∀e∈oj.after,Region.binds .any e=true->listed.getD e.on false=true
 tK:a.tmps.size=N
 bsize:b.tmps.size=N
 defs:a.defers=b.defers
 pl:p<=T.length
 KN:∀k,k<p->listed.getD (T.getD k 0) false=true
 off:∀k,p<=k->k<T.length->listed.getD (T.getD k 0) true=false
 bn:∀(j:Nat) (o:aK) (s:Nat),l.toArray[j]?=some o->j∉T->o.dst=some s->b.tmps[s]?=some (vals j)
 bo:∀s:Nat,(∀(j:Nat) (o:aK),l.toArray[j]?=some o->o.dst≠some s)->b.tmps[s]?=a0.tmps[s]?
 ag:∀(j:Nat) (o:aK) (s:Nat),l.toArray[j]?=some o->o.dst=some s->listed.getD j false=true->a.tmps[s]?=b.tmps[s]?
 oX:∀s:Nat,(∀(j:Nat) (o:aK),l.toArray[j]?=some o->listed.getD j false=true->o.dst≠some s)->a.tmps[s]?=a0.tmps[s]?
 st:if p=0 then C w/\(∀w',C w'->wpList P l.toArray (iE Q) (T.filterMap λt=>l[t]?) b w') else wpList P l.toArray (iE Q) ((T.drop p).filterMap λt=>l[t]?) b w
theorem p7{a:Array Bool}(h:a.getD i false=true):a.getD i true=true:=by
 rcases ac0 i a.size with b|b
 .simp[b] at h⊢;exact h
 .simp[adT b] at h
theorem zQ:¬LetsOut (iE Q):=λ⟨_,_,h⟩=>h
theorem kQ{l:List Nat}{k:Nat}(h:k<l.length):l.getD k 0=l[k]:=by simp[List.getD,h]
theorem YY(ok:TN T N l.toArray)(hN:a0.tmps.size=N)(hok:∀(j:Nat) (o:aK),l[j]?=some o->Lw P l.toArray T C j o (fD a0 l vals j) (vals j)):
 ∀(fuel:Nat) (d:Array Bool) (a:Act) (w:aA) (p:Nat) (b:Act),Sg P T C l a0 vals N Q d a w p b->nP d=fuel->wpAny P .any l.toArray Q fuel d a w:=by
 have X:∀j:Nat,l.toArray[j]?=l[j]?:=λj=>aaY
 have fin:∀(d:Array Bool) (a:Act) (w:aA) (p:Nat) (b:Act),Sg P T C l a0 vals N Q d a w p b->(∀i,i<d.size->d.getD i false=true)->Q .normal a w:=by
  intro d a w p b inv z;have all:∀(j:Nat) (o:aK),l.toArray[j]?=some o->d.getD j false=true:=λj o q=>z j (by rw[inv.size];exact bU q)
  have hp:p=T.length:=by
   rcases ac0 p T.length with h|h
   .exfalso
    have h1:=inv.off p (aaH _) h;have Y:T.getD p 0<d.size:=by
     rw[inv.size];refine ok.SJ _ ?_;rw[kQ h];exact aaM h
    have F:=p7 (z _ Y);rw[h1] at F;cases F
   .exact afO inv.pl h
  have hab:a=b:=by
   have L:a.tmps=b.tmps:=by
    apply aeD;intro k;by_cases hex:∃(j:Nat) (g:aK),l.toArray[j]?=some g/\g.dst=some k
    .obtain⟨j,g,q,J⟩:=hex;exact inv.ag j g k q J (all j g q)
    .have G:∀(j:Nat) (g:aK),l.toArray[j]?=some g->g.dst≠some k:=λj g q hd=>hex ⟨j,g,q,hd⟩
     rw[inv.oX k (λj g q _=>G j g q),inv.bo k G]
   have M:=inv.defs;obtain⟨t1,d1⟩:=a;obtain⟨t2,d2⟩:=b;simp only at L M;subst L M;rfl
  have B:=inv.st;rw[aaL (by rw[hp];intro e;exact ok.ne (abO e)),hp,afA (aaH _)] at B;rw[hab];exact B
 intro fuel;induction fuel with
 |zero=>
  intro d a w p b inv hc;have z:∀i,i<d.size->d.getD i false=true:=λi hi=>JO hc i hi
  refine⟨?_,fin d a w p b inv z⟩;rw[List.eq_nil_iff_forall_not_mem];intro i hi;obtain⟨h1,o,ho,_⟩:=mem_ready.1 hi;have Y:=z i (by rw[inv.size];exact bU ho);rw[getD_both h1] at Y;cases Y
 |succ fuel ih=>
  intro d a w p b inv hc;constructor
  .intro hr;exfalso
   have hex:∃i,i<d.size/\d.getD i false=false:=by
    refine aa4 λA=>?_
    have z:∀i,i<d.size->d.getD i false=true:=λi hi=>by
     cases h:d.getD i false with
     |true=>rfl
     |false=>exact absurd ⟨i,hi,h⟩ A
    have:nP d=0:=by
     unfold nP;rw[ad6,aeC];intro b O;obtain⟨i,hi,he⟩:=aeP.1 O;have h1:=z i (by simpa using hi);have hi':i<d.size:=by simpa using hi
     simp[hi'] at h1;simp at he;rw[<-he,h1];simp
    omega
   obtain⟨i0,hi0,hu0⟩:=hex;have af:∃i,i<d.size/\d.getD i false=false/\∀j,j<i->d.getD j false=true:=by
    induction i0 using Nat.strongRecOn with
    |_ i0 ihm=>
     by_cases h:∃j,j<i0/\d.getD j false=false
     .obtain⟨j,q,hju⟩:=h;exact ihm j q aQ hju
     .refine⟨i0,hi0,hu0,λj q=>?_⟩;cases hjv:d.getD j false with
      |true=>rfl
      |false=>exact absurd ⟨j,q,hjv⟩ h
   obtain⟨i,hi,hu,R⟩:=af;have ah:i<l.toArray.size:=by rw[<-inv.size];exact hi
   have:i∈Region.ready .any l.toArray d:=mem_ready.2 ⟨getD_in hi hu,l.toArray[i],by simp[abE ah],λe he O=>R _ (ok.back i _ (abE ah) e he O)⟩;rw[hr] at this;cases this
  .intro i hi;obtain⟨a6,o,ho,z⟩:=mem_ready.1 hi;have ai:l[i]?=some o:=by rw[<-aaY];exact ho
   have aj:nP (d.setIfInBounds i true)=fuel:=by have:=JG a6;omega
   have lF:i<d.size:=by rw[inv.size];exact bU ho
   have y:∀j,Region.waitsFor .any l.toArray i j=true->d.getD j false=true:=λj hw=>by
    obtain⟨e,he,O,a7⟩:=o4 ho hw;have:=z e he O;rw[a7] at this;exact this
   have D:∀(j:Nat) (g:aK),l.toArray[j]?=some g->Region.waitsFor .any l.toArray j i=true->d.getD j false=true->False:=λj g q hw K=>by
    obtain⟨e,he,O,a7⟩:=o4 q hw;have:=inv.closed j g q K e he O;rw[a7,getD_both a6] at this;cases this
   have H:∀(j:Nat) (g:aK),l.toArray[j]?=some g->(d.setIfInBounds i true).getD j false=true->∀e∈g.after,Region.binds .any e=true->(d.setIfInBounds i true).getD e.on false=true:=λj g q K e he O=>by
    by_cases E:i=j
    .subst E;rw[ho] at q;injection q with q;subst q;exact getD_set_true (z e he O)
    .rw[getD_set_ne false E] at K;exact getD_set_true (inv.closed j g q K e he O)
   by_cases Z:i∈T
   ·
    obtain⟨k,a8,ak⟩:=aa2 Z;have aa:T.getD k 0=i:=by rw[kQ a8,ak]
    have hpk:p<=k:=by
     rcases ac0 k p with h|h
     .have:=p7 (inv.KN k h);rw[aa,a6] at this;cases this
     .exact h
    have hkp:k=p:=by
     refine afO ?_ hpk;refine aa4 λR=>?_
     have hk1:k - 1+1=k:=aQ;have h1:=ok.row (k - 1) aQ;rw[hk1,aa] at h1;have Y:=p7 (y _ h1);rw[inv.off (k - 1) aQ aQ] at Y;cases Y
    subst hkp;have hag:∀s∈o.looksAt l.toArray,a.tmps[s]?=b.tmps[s]?:=λs hs=>by
     by_cases hex:∃(j:Nat) (g:aK),l.toArray[j]?=some g/\g.dst=some s
     .obtain⟨j,g,q,J⟩:=hex;exact inv.ag j g s q J (y j (ok.tl i j o g s ho Z hs q J))
     .have G:∀(j:Nat) (g:aK),l.toArray[j]?=some g->g.dst≠some s:=λj g q hd=>hex ⟨j,g,q,hd⟩
      rw[inv.oX s (λj g q _=>G j g q),inv.bo s G]
    have hx:=pF o (λcs b=>ok.KL i o cs b ho) hag;have al:=ok.tg i o ho Z;have B:wpList P l.toArray (iE Q) ((T.drop k).filterMap λt=>l[t]?) b w:=by
     have:=inv.st;by_cases h0:k=0
     .subst h0;rw[aaK rfl] at this;exact this.2 w this.1
     .rw[aaL h0] at this;exact this
    have ab:(T.drop k).filterMap (λt=>l[t]?)=o::(T.drop (k+1)).filterMap (λt=>l[t]?):=by
     rw[acG a8,aeV,ak,ai]
    rw[ab] at B;unfold wpList at B;rw[aaK (by unfold Region.wanted;rw[al])] at B;have I:o.wp P b w (wpList P l.toArray (iE Q) ((T.drop (k+1)).filterMap λt=>l[t]?)) (iE Q):=B.resolve_right (λh=>zQ h.2);have next:∀(ds:List _) (v:aC) (w':aA),wpList P l.toArray (iE Q) ((T.drop (k+1)).filterMap λt=>l[t]?) ({b with defers:=ds}.put o.dst v) w'->wpAny P .any l.toArray Q fuel (d.setIfInBounds i true) ({a with defers:=ds}.put o.dst v) w':=by
     intro ds v w' h;refine ih _ _ _ (k+1) ({b with defers:=ds}.put o.dst v) ⟨by simp[inv.size],H,by rw[kW];exact inv.tK,by rw[kW];exact inv.bsize,by rw[mA,mA],a8,λk' S=>?_,λk' S U=>?_,λj g s q a1 hd=>?_,λs hs=>?_,λj g s q hd K=>?_,λs hs=>?_,?_⟩ aj
     .by_cases e:k'=k
      .subst e;rw[aa];simp[lF]
      .exact getD_set_true (inv.KN k' aQ)
     .have A:i≠T.getD k' 0:=λe=>by
       have h1:=y;have Y:∀m,k<m->m<T.length->T.getD m 0≠i:=by
        intro m hm hml M;have F:=ok.row (m - 1) aQ;rw[show m - 1+1=m by omega,M] at F;have h4:=p7 (y _ F);rw[inv.off (m - 1) aQ aQ] at h4;cases h4
       exact Y k' aQ U e.symm
      rw[getD_set_ne true A];exact inv.off k' aQ U
     .have A:o.dst≠some s:=λe=>a1 (by rw[ok.lB j i g o s q ho hd e];exact Z)
      rw[gB _ _ _ _ A];exact inv.bn j g s q a1 hd
     .rw[gB _ _ _ _ (hs i o ho)];exact inv.bo s hs
     .by_cases E:i=j
      .subst E;rw[ho] at q;injection q with q;subst q;rw[hd,qZ _ _ _ (by show s<a.tmps.size;rw[inv.tK];exact ok.size i o s ho hd),qZ _ _ _ (by show s<b.tmps.size;rw[inv.bsize];exact ok.size i o s ho hd)]
      .rw[getD_set_ne false E] at K;have A:o.dst≠some s:=λe=>E (ok.lB i j o g s ho q e hd)
       rw[gB _ _ _ _ A,gB _ _ _ _ A];exact inv.ag j g s q hd K
     .have h1:o.dst≠some s:=hs i o ho (by simp[lF]);rw[gB _ _ _ _ h1];exact inv.oX s λj g q K=>hs j g q (getD_set_true K)
     .rw[aaL aQ];exact h
    unfold wpOp;simp only[ho];rw[aaK (by unfold Region.wanted;rw[al])];left
    unfold Oper.wp at I⊢;rw[hx];have ea:∀v,a.put o.dst v=({a with defers:=a.defers}:Act).put o.dst v:=λv=>rfl
    have eb:∀v,b.put o.dst v=({b with defers:=a.defers}:Act).put o.dst v:=λv=>by rw[inv.defs]
    generalize (execOp b.eval o).run P w=r at *;cases r with
    |ok n w'=>
     cases n <;> simp only[Oper.upon] at I⊢
     case value u=>rw[ea];exact next _ _ _ (by rw[<-eb];exact I)
     case skip=>rw[ea];exact next _ _ _ (by rw[<-eb];exact I)
     case row r args=>exact I.mono λv ad h=>by rw[ea];exact next _ _ _ (by rw[<-eb];exact h)
     case enter f args=>
      refine I.mono λe ad h=>?_
      cases e with
      |returned v=>simp only at h⊢;rw[ea];exact next _ _ _ (by rw[<-eb];exact h)
      |panicked c=>simp only[iE] at h
      |outgrown=>exact absurd h zQ
     rw[inv.defs];exact next _ _ _ I
    |halt x w'=>
     cases x <;> simp only[Oper.upon,iE] at I
   ·
    have hO:=hok i o ai;have agree:∀s∈o.looksAt l.toArray,a.tmps[s]?=(fD a0 l vals i).tmps[s]?:=λs hs=>by
     by_cases hex:∃(j:Nat) (g:aK),l.toArray[j]?=some g/\g.dst=some s
     .obtain⟨j,g,q,J⟩:=hex;have a1:=ok.nl i j o g s ho Z hs q J;rcases ok.look i j o g s ho q hs J with⟨R,hw⟩|⟨R,hw⟩
      .rw[inv.ag j g s q J (y j hw),inv.bn j g s q a1 J];have hs0:s<a0.tmps.size:=by
        rw[hN];exact ok.size j g s q J
       rw[uM a0 l vals s j g (by rw[<-X];exact q) J hs0 (λj' o' V A W=>A (ok.lB j' j o' g s (by rw[X];exact V) q W J)) i R]
      .have hnl:d.getD j false=true->False:=D j g q hw;rw[inv.oX s (λj' o' V hl' W=>by have:=ok.lB j' j o' g s V q W J;subst this;exact hnl hl'),
        oH a0 l vals s i (λj' o' hlt' V W=>by have:=ok.lB j' j o' g s (by rw[X];exact V) q W J;omega)]
     .have G:∀(j:Nat) (g:aK),l.toArray[j]?=some g->g.dst≠some s:=λj g q hd=>hex ⟨j,g,q,hd⟩
      rw[inv.oX s (λj g q _=>G j g q),oH a0 l vals s i (λj g _ q=>G j g (by rw[X];exact q))]
    have hx:=pF o (λcs b=>ok.KL i o cs b ho) agree;have hw:=KZ o agree;have hnT:∀k,k<T.length->T.getD k 0≠i:=λk hk e=>Z (by rw[<-e,kQ hk];exact aaM hk)
    have next:∀w',(if p=0 then C w'/\(∀w',C w'->wpList P l.toArray (iE Q) (T.filterMap λt=>l[t]?) b w') else wpList P l.toArray (iE Q) ((T.drop p).filterMap λt=>l[t]?) b w')->
     wpAny P .any l.toArray Q fuel (d.setIfInBounds i true) (a.put o.dst (vals i)) w':=by
     intro w' h;refine ih _ _ _ p b ⟨by simp[inv.size],H,by rw[kW];exact inv.tK,inv.bsize,by rw[mA];exact inv.defs,inv.pl,λk' S=>getD_set_true (inv.KN k' S),λk' S U=>?_,inv.bn,inv.bo,λj g s q hd K=>?_,λs hs=>?_,h⟩ aj
     .rw[getD_set_ne true (λe=>hnT k' U e.symm)];exact inv.off k' S U
     .by_cases E:i=j
      .subst E;rw[ho] at q;injection q with q;subst q;rw[hd,qZ _ _ _ (by rw[inv.tK];exact ok.size i o s ho hd),inv.bn i o s ho Z hd]
      .rw[getD_set_ne false E] at K;have A:o.dst≠some s:=λe=>E (ok.lB i j o g s ho q e hd)
       rw[gB _ _ _ _ A];exact inv.ag j g s q hd K
     .have h1:o.dst≠some s:=hs i o ho (by simp[lF]);rw[gB _ _ _ _ h1];exact inv.oX s λj g q K=>hs j g q (getD_set_true K)
    have same:wpAny P .any l.toArray Q fuel (d.setIfInBounds i true) (a.put o.dst (vals i)) w:=next w inv.st;unfold wpOp;simp only[ho];rcases hO with hO|⟨ae,hq⟩|⟨ae,hv⟩
    .exact absurd (by simpa using hO) Z
    .rw[aaK (hw.trans ae)];left
     unfold Oper.wp;rw[hx];unfold Bf at hq;by_cases hf:jS o=true
     .rw[aaK hf] at hq;have F:=hq w ⟨⟨w⟩,rfl⟩;have hpl:=CX hf;unfold Oper.quietAt at F;have A:=λw' f args=>nH (P:=P) hpl (fD a0 l vals i).eval w w' f args
      generalize (execOp (fD a0 l vals i).eval o).run P w=r at *;cases r with
      |ok n w'=>
       cases n <;> simp only[Oper.quietUpon] at F <;> simp only[Oper.upon]
       case value u=>obtain⟨L,M⟩:=F;rw[L,M];exact same
       case skip=>obtain⟨L,M⟩:=F;rw[L,<-M];exact same
       case enter f args=>exact absurd rfl (A w' f args)
      |halt x w'=>simp only[Oper.quietUpon] at F
     .rw[aaL hf] at hq;have hwt:=(ok.fr i o ho Z).resolve_left hf;have hT0:0<T.length:=ad3.2 ok.ne;have hh:T.headD 0=T.getD 0 0:=by cases T <;> rfl
      have hp0:p=0:=by
       refine aa4 λA=>?_
       have h1:=inv.KN 0 aQ;rw[<-hh] at h1;have hin:T.headD 0∈T:=by rw[hh,kQ hT0];exact aaM hT0
       exact D (T.headD 0) _ (abE (ok.SJ _ hin)) hwt h1
      have B:=inv.st;rw[aaK hp0] at B;have F:=hq w B.1;have nx:∀w',C w'->wpAny P .any l.toArray Q fuel (d.setIfInBounds i true) (a.put o.dst (vals i)) w':=λw' hC=>next w' (by rw[aaK hp0];exact⟨hC,B.2⟩)
      unfold Oper.quietAt at F;generalize (execOp (fD a0 l vals i).eval o).run P w=r at *;cases r with
      |ok n w'=>
       cases n <;> simp only[Oper.quietUpon] at F <;> simp only[Oper.upon]
       case value u=>obtain⟨L,M⟩:=F;rw[L,M];exact same
       case skip=>obtain⟨L,M⟩:=F;rw[L,<-M];exact same
       case enter f args=>obtain⟨L,hc1⟩:=F;rw[L];exact hc1.mono λe ad ⟨he,O⟩=>by subst he;exact nx ad O
      |halt x w'=>simp only[Oper.quietUpon] at F
    .rw[aaL (by rw[hw,ae];simp),<-hv];exact same
theorem jC{a:Act}(T:List Nat)(N:Nat)(hm:P.follows .mixedOrders=true)(v:chainB T N l.toArray=true)(f:a.tmps.size=N)
 (h:oC P l.toArray T (λw=>∃n,w=w0.drewN n) (λx=>∀n,wpList P l.toArray (iE Q) (T.filterMap λt=>l[t]?) x (w0.drewN n)) 0 l a):(Code.region id l.toArray true).wp P Q a w0:=by
 have ok:=WR v;obtain⟨vals,g,d⟩:=Ax l 0 a h;have c:∀j:Nat,l.toArray[j]?=l[j]?:=λj=>aaY
 refine wp_region_any hm ?_;have u:∀j,(Array.replicate l.toArray.size false).getD j false=true->False:=λj b=>by rw[getD_replicate_false] at b;cases b
 refine YY (C:=λw=>∃n,w=w0.drewN n) (vals:=vals) ok f (λj o b=>by have:=g j o b;rwa [abQ] at this) l.toArray.size _ a _ 0 (fD a l vals l.length) ⟨aT,λj E _ m=>(u j m).elim,f,by rw[(jE a l vals _).1];exact f,by rw[(jE a l vals _).2],aaQ _,λk hk=>absurd hk (acK _),λk _ hk=>?_,λj o s b y hd=>?_,λs hs=>?_,λj o s _ _ m=>(u j m).elim,λs _=>rfl,?_⟩ (by simp[nP])
 .have p:T.getD k 0<l.toArray.size:=ok.SJ _ (by rw[kQ hk];exact aaM hk);exact getD_in (by simpa using p) (getD_replicate_false _ _)
 .have e:l[j]?=some o:=by rw[<-c];exact b
  exact uM a l vals s j o e hd (by rw[f];exact ok.size j o s b hd) (λz A B q r=>q (ok.lB z j A o s (by rw[c];exact B) b r hd)) l.length (aaX.1 e).1
 .exact oH a l vals s l.length (λj o _ b=>hs j o (by rw[c];exact b))
 .rw[aaK rfl];exact⟨⟨1,rfl⟩,λw' ⟨n,D⟩=>by rw[D];exact d n⟩
variable{ops:Array aK}{Qf:Act->Prop}{o:aK}{rest:List aK}{a:Act}{i:Nat}
theorem Pz(b:T.contains i=true)(h:oC P ops T C Qf (i+1) rest (a.put o.dst undef)):oC P ops T C Qf i (o::rest) a:=by
 unfold oC;rw[aaK b];exact h
theorem Pg(b:T.contains i=false)(c:jS o=true)(hw:Region.wanted o (yielded ops a.tmps)=true)(h:∀K:Act->Prop,(∀a,oC P ops T C Qf (i+1) rest a->K a)->o.quiet P a (λw=>∃n:CQ,w=n.w) K):oC P ops T C Qf i (o::rest) a:=by
 obtain⟨v,h1,d⟩:=h _ (λ_ h=>h);unfold oC;rw[aaL (by rw[b];simp),aaK hw];refine⟨v,?_,d⟩;unfold Bf;rw[aaK c];exact h1
theorem Oi(b:T.contains i=false)(c:jS o=false)(hw:Region.wanted o (yielded ops a.tmps)=true)(h:∀K:Act->Prop,(∀a,oC P ops T C Qf (i+1) rest a->K a)->o.quiet P a C K):oC P ops T C Qf i (o::rest) a:=by
 obtain⟨v,h1,d⟩:=h _ (λ_ h=>h);unfold oC;rw[aaL (by rw[b];simp),aaK hw];refine⟨v,?_,d⟩;unfold Bf;rw[aaL (by rw[c];simp)];exact h1
theorem Us(b:T.contains i=false)(hw:Region.wanted o (yielded ops a.tmps)=false)(h:oC P ops T C Qf (i+1) rest (a.put o.dst undef)):oC P ops T C Qf i (o::rest) a:=by
 unfold oC;rw[aaL (by rw[b];simp),aaL (by rw[hw];simp)];exact h
theorem yN(h:Qf a):oC P ops T C Qf i [] a:=h
theorem cP(h:Q .normal a w):iE Q .normal a w:=h
end
end
end Go.Proofs.YtacgiflhgdaeaaaGreat
