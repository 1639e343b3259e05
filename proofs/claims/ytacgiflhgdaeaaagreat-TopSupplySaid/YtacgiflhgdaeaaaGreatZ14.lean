/- Texts laid as one. -/
import Derived.Shelf.Abstract
import Derived.Deep.DeepCutAuto
import Derived.Deep.CutBlock
import Derived.Test.YtacgiflhgdaeaaaGreatZ2
import Derived.Test.YtacgiflhgdaeaaaGreatZ4
import Derived.Test.YtacgiflhgdaeaaaGreatZ5
set_option linter.unusedVariables false
set_option linter.unusedSimpArgs false
set_option maxRecDepth 100000
set_option maxHeartbeats 20000000
namespace Go.Proofs.YtacgiflhgdaeaaaGreat
open Go.Proofs.Tryz
open Go renaming World->aA,Calls->aG
open Go.RowKit renaming Hid->aH,intOf->aL
section
section
namespace Nt
structure Nt where
 eO:Int
 fV:Int
 bO:Int
 iB:Nat
def Zk:Nt:=⟨0,0,0,0⟩
def bM(T:List Nt)(i:Nat):Nt:=T.getD i Zk
variable{T:List Nt}{i:Nat}
theorem kU(h:i<T.length):bM T i=T[i]:=by simp[bM,h]
def swp(T:List Nt)(i j:Nat):List Nt:=(T.set i (bM T j)).set j (bM T i)
theorem Ms(T:List Nt)(i j:Nat):(swp T i j).length=T.length:=by simp[swp]
theorem gG(P S:List Nt)(i:Nat):bM (P++S) (P.length+i)=bM S i:=by
 unfold bM;rw[aaU,aaU,aaS aQ,acM]
theorem As(P M S:List Nt)(x y:Nt):swp (P++x::(M++y::S)) P.length (P.length+1+M.length)=P++y::(M++x::S):=by
 have h1:bM (P++x::(M++y::S)) P.length=x:=by have:=gG P (x::(M++y::S)) 0;rw[aa3] at this;rw[this];rfl
 have a:bM (P++x::(M++y::S)) (P.length+1+M.length)=y:=by
  rw[show P.length+1+M.length=P.length+(M.length+1) by omega,gG];have:=gG (x::M) (y::S) 0;rw[aa3] at this;exact this
 unfold swp;rw[h1,a];rw[aa6 _ _ (aaH _)];simp only[afR,aaP];rw[aa6 _ _ aQ,show P.length+1+M.length - P.length=M.length+1 by omega];simp only[aaN];rw[aa6 _ _ (aaH _)];simp
variable{j:Nat}
theorem QU(T:List Nt)(h:i≠j):swp T i j=swp T j i:=by
 unfold swp;rw[List.set_comm _ _ h]
theorem JZ(P S:List Nt)(x y:Nt):swp (P++x::y::S) P.length (P.length+1)=P++y::x::S:=As P [] S x y
def nL(T:List Nt)(a b:Nat):Nat->List Nt
 |0=>T
 |k+1=>swp (nL T a b k) (a+k) (b+k)
theorem Iq(T:List Nt)(a b k:Nat):(nL T a b k).length=T.length:=by
 induction k with
 |zero=>rfl
 |succ k c=>rw[nL,Ms,c]
theorem WW(T:List Nt)(a b k:Nat):nL T a b (k+1)=nL (swp T a b) (a+1) (b+1) k:=by
 induction k with
 |zero=>rfl
 |succ k c=>
  rw[nL,c,nL];rw[show a+(k+1)=a+1+k by omega,show b+(k+1)=b+1+k by omega]
theorem GC:∀(X Y P M S:List Nt),X.length=Y.length->nL (P++X++M++Y++S) P.length (P.length+X.length+M.length) X.length=P++Y++M++X++S
 | [], [],P,M,S,_=>by simp[nL]
 |x::X,y::Y,P,M,S,h=>by
  rw[abM,WW];have h1:=As P (X++M) (Y++S) x y;rw[show P++x::X++M++y::Y++S=P++x::(X++M++y::(Y++S)) by simp,
   show P.length+(X.length+1)+M.length=P.length+1+(X++M).length by simp;omega,h1]
  have a:=GC X Y (P++ [y]) (M++ [x]) S (by simpa using h);simp only[aaT,abM,ab5,abQ] at a;rw[show P++y::(X++M++x::(Y++S))=P++ [y]++X++(M++ [x])++Y++S by simp,
   show P.length+1+(X++M).length+1=P.length+1+X.length+(M.length+1) by simp;omega,a]
  simp
 | [],_::_,_,_,_,h=>by simp at h
 |_::_, [],_,_,_,h=>by simp at h
def tW(G:List Nt)(m i j:Nat)(T:List Nt):Prop:=
 ∃P U V S,T=P++U++V++S/\P.length+i=m/\U.length=i/\V.length=j/\P++V++U++S=G/\0<i/\0<j
variable{m:Nat}
theorem tW.len{G:List Nt}(h:tW G m i j T):T.length=G.length/\i<=m/\m+j<=T.length:=by
 obtain⟨P,U,V,S,rfl,h1,a,b,rfl,_⟩:=h;simp;omega
theorem tW.pos{G:List Nt}(h:tW G m i j T):0<i/\0<j:=by
 obtain⟨_,_,_,_,_,_,_,_,_,h⟩:=h;exact h
theorem tW.left{G:List Nt}(h:tW G m i j T)(e:j<i):tW G m (i - j) j (nL T (m - i) m j):=by
 obtain⟨P,U,V,S,rfl,h1,f,k,rfl,l,g⟩:=h;obtain⟨a,b,rfl,c⟩:∃a b,U=a++b/\a.length=j:=⟨U.take j,U.drop j,(List.take_append_drop _ _).symm,by rw[aa9];omega⟩
 rw[aaT] at f;have d:=GC a V P b S aQ;rw[show P.length+a.length+b.length=m by omega,show P.length=m - i by omega,c] at d;refine⟨P++V,b,a,S,?_,bL,aQ,c,aT,aQ,g⟩;rw[show P++(a++b)++V++S=P++a++b++V++S by simp,d]
theorem tW.right{G:List Nt}(h:tW G m i j T)(d:i<j):tW G m i (j - i) (nL T (m - i) (m+j - i) i):=by
 obtain⟨P,U,V,S,rfl,h1,e,f,rfl,g,l⟩:=h;obtain⟨a,b,rfl,k⟩:∃a b,V=a++b/\a.length=j - i:=⟨V.take (j - i),V.drop (j - i),(List.take_append_drop _ _).symm,by rw[aa9];omega⟩
 rw[aaT] at f;have c:=GC U b P a S aQ;rw[show P.length+U.length+a.length=m+j - i by omega,show P.length=m - i by omega,e] at c;refine⟨P,b,a,U++S,?_,aQ,aQ,k,aT,g,aQ⟩;rw[show P++U++(a++b)++S=P++U++a++b++S by simp,c];simp
theorem tW.last{G:List Nt}(h:tW G m i i T):nL T (m - i) m i=G:=by
 obtain⟨P,U,V,S,rfl,h1,b,c,rfl,d,e⟩:=h;have a:=GC U V P [] S aQ;simp only[ab5,aa3,acX] at a;rw[show P.length+U.length=m by omega,show P.length=m - i by omega,b] at a;exact a
def lX(x y:Nt):Prop:=x.bO<y.bO\/x.bO=y.bO/\x.iB<y.iB
theorem lX.trans{x y z:Nt}(h:lX x y)(k:lX y z):lX x z:=by unfold lX at *;omega
theorem lX.le{x y:Nt}(h:lX x y):x.bO<=y.bO:=by unfold lX at h;omega
theorem lX.of_le{x y:Nt}(h:¬y.bO<x.bO)(a:x.iB<y.iB):lX x y:=by unfold lX;omega
abbrev sX (T:List Nt):Prop:=T.Pairwise lX
variable{hi:Nat}
theorem MV{p:Nat->Prop}{lo:Nat}(hm:∀h a,lo<=h->h<=a->a<hi->p a->p h)(h1:∀h,lo<=h->h<i->p h)(b:lo<=i)(c:i<j)(e:j<=hi)(hp:p ((i+j) /2)):∀h,lo<=h->h<(i+j) /2+1->p h:=λh d f=>by
 exact hm h ((i+j) /2) d aQ aQ hp
theorem F1{p:Nat->Prop}{lo:Nat}(hm:∀h a,lo<=h->h<=a->a<hi->p a->p h)(c:lo<=i)(d:i<j)(hp:¬p ((i+j) /2)):∀h,(i+j) /2<=h->h<hi->¬p h:=λh e f b=>
 hp (hm _ h aQ e f b)
theorem ME{α:Type}(l:List α):l= []\/∃l' b,l=l'++ [b]:=by
 rcases List.eq_nil_or_concat l with h|⟨a,b,h⟩
 .exact .inl h
 .exact .inr ⟨a,b,by rw[h,List.concat_eq_append]⟩
def uT(a j:Nat)(B:List Nt)(x:Nt)(P S T:List Nt):Prop:=
 ∃A1 A2,B=A1++A2/\T=P++A1++x::(A2++S)/\P.length=a/\a+A1.length=j/\(∀y∈A2,x.bO<y.bO)
variable{S:List Nt}
theorem uT.start{a:Nat}{B P:List Nt}{x:Nt}(b:P.length=a):uT a (a+B.length) B x P S (P++B++x::S):=
 ⟨B, [],aT,aT,b,aQ,aT⟩
theorem uT.len{a:Nat}{B P:List Nt}{x:Nt}(h:uT a j B x P S T):a<=j/\j<T.length/\bM T j=x/\j<=a+B.length:=by
 obtain⟨b,c,rfl,rfl,rfl,rfl,_⟩:=h;refine⟨aQ,aT,?_,aT⟩;have:=gG (P++b) (x::(c++S)) 0;rw[aa3,aaT] at this;rw[this];rfl
theorem uT.down{a:Nat}{B P:List Nt}{x:Nt}(h:uT a j B x P S T)(k:a<j)(hk:x.bO<(bM T (j - 1)).bO):uT a (j - 1) B x P S (swp T j (j - 1)):=by
 obtain⟨f,c,rfl,rfl,rfl,rfl,h1⟩:=h;obtain⟨b,y,rfl⟩:∃b y,f=b++ [y]:=by
  rcases ME f with rfl|⟨b,y,rfl⟩
  .simp at k
  .exact⟨b,y,rfl⟩
 have g:P++(b++ [y])++x::(c++S)=(P++b)++y::x::(c++S):=aT;have d:P.length+(b++ [y]).length - 1=(P++b).length:=aT;have l:P.length+(b++ [y]).length=(P++b).length+1:=bL;rw[d,g] at hk;have i:=gG (P++b) (y::x::(c++S)) 0;rw[aa3] at i;rw[i] at hk;refine⟨b,y::c,aT,?_,rfl,by rw[d];simp,?_⟩
 .rw[g,d,l,QU _ aQ,JZ];simp
 .intro z e;rcases acD.1 e with rfl|e
  .exact hk
  .exact h1 z e
theorem uT.stop{a:Nat}{B P:List Nt}{x:Nt}(h:uT a j B x P S T)(k:sX B)(l:∀y∈B,y.iB<x.iB)(hs:a=j\/¬x.bO<(bM T (j - 1)).bO):∃B',T=P++B'++S/\sX B'/\B'.Perm (B++ [x]):=by
 obtain⟨g,e,rfl,rfl,rfl,rfl,h1⟩:=h;refine⟨g++x::e,aT,?_,?_⟩
 .have c:=abH.1 k;have key:∀y∈g,lX y x:=by
   rcases ME g with rfl|⟨f,y,rfl⟩
   .simp
   .have m:¬x.bO<y.bO:=by
     rcases hs with hs|hs
     .simp at hs
     .rw[show P.length+(f++ [y]).length - 1=(P++f).length by simp,show P++(f++ [y])++x::(e++S)=(P++f)++y::x::(e++S) by simp] at hs;have i:=gG (P++f) (y::x::(e++S)) 0;rw[aa3] at i;rw[i] at hs;exact hs
    have d:lX y x:=lX.of_le m (l y aT);intro z b;rcases aa8.1 b with b|b
    .exact lX.trans ((abH.1 c.1).2.2 z b y aT) d
    .simp at b;rw[b];exact d
  refine abH.2 ⟨c.1,ac2.2 ⟨λy d=> .inl (h1 y d),c.2.1⟩,λy d z b=>?_⟩;rcases acD.1 b with rfl|b
  .exact key y d
  .exact c.2.2 y d z b
 .rw[abA];exact(List.perm_middle.trans (List.perm_append_singleton x (g++e)).symm).trans (by rw[abA])
end Nt
end
section
namespace Nt
variable{S:List Nt}{i:Nat}
theorem mB{P:List Nt}(h:i<P.length):bM (P++S) i=bM P i:=by
 unfold bM;rw[aaU,aaU,abC h]
theorem uC{P:List Nt}(h:P.length<=i):bM (P++S) i=bM S (i - P.length):=by
 obtain⟨k,rfl⟩:∃k,i=P.length+k:=⟨i - P.length,aQ⟩
 rw[gG,acM]
variable{T:List Nt}
theorem Nq(h:i<T.length):bM T i∈T:=by rw[kU h];exact aaM h
theorem vX{x:Nt}(h:x∈T):∃i,i<T.length/\bM T i=x:=by
 obtain⟨i,hi,rfl⟩:=aa2 h;exact⟨i,hi,kU hi⟩
variable{j:Nat}
theorem Cr{X:List Nt}(h:sX X)(c:i<j)(d:j<X.length):lX (bM X i) (bM X j):=by
 rw[kU (by omega:i<X.length),kU d];exact ab6.1 h i j aQ d c
theorem xE{X:List Nt}(h:sX X)(c:i<=j)(d:j<X.length):(bM X i).bO<=(bM X j).bO:=by
 rcases Nat.lt_or_eq_of_le c with h1|rfl
 .exact(Cr h h1 d).le
 .omega
structure Mg(T:List Nt)(a m b:Nat)(P X Y S:List Nt):Prop where
 e:T=P++X++Y++S
 pa:P.length=a
 xm:a+X.length=m
 yb:m+Y.length=b
 sx:sX X
 sy:sX Y
 tg:∀x∈X,∀y∈Y,x.iB<y.iB
def yS(T T':List Nt)(a b:Nat):Prop:=∃P Q Z S,T=P++Q++S/\T'=P++Z++S/\P.length=a/\a+Q.length=b/\Z.Perm Q/\sX Z
variable{s0 g:Nat}{T' T1 Z1 T2:List Nt}
section
variable{T:List Nt}{a m b:Nat}{P X Y S:List Nt}
theorem Mg.len(h:Mg T a m b P X Y S):b<=T.length/\a<=m/\m<=b:=by
 obtain⟨rfl,h1,c,d,_⟩:=h;simp;omega
theorem Mg.IF(h:Mg T a m b P X Y S)(h1:a<=i)(c:i<m):bM T i=bM X (i - a):=by
 have d:=h.pa;have f:=h.xm;rw[h.e,mB bL,mB bL,uC aQ,h.pa]
theorem Mg.G9(h:Mg T a m b P X Y S)(h1:m<=i)(c:i<b):bM T i=bM Y (i - m):=by
 have d:=h.pa;have f:=h.xm;have g:=h.yb;rw[h.e,mB bL,uC bL];congr 1
 simp;omega
def qN(a k:Nat)(B:List Nt)(z:Nt)(P S T:List Nt):Prop:=∃A1 A2,B=A1++A2/\T=P++A1++z::(A2++S)/\P.length=a/\a+A1.length=k
theorem qN.I5{k:Nat}{B:List Nt}{z:Nt}(h:qN a k B z P S T):T.length=P.length+B.length+1+S.length:=by
 obtain⟨c,d,rfl,rfl,_⟩:=h;simp;omega
theorem qN.up{k:Nat}{B:List Nt}{z:Nt}(h:qN a k B z P S T)(hk:k<a+B.length):qN a (k+1) B z P S (swp T k (k+1)):=by
 obtain⟨d,c,rfl,rfl,rfl,rfl⟩:=h;cases c with
 |nil=>simp at hk
 |cons y c=>
  refine⟨d++ [y],c,aT,?_,rfl,bL⟩;have:=JZ (P++d) (c++S) z y;rw[aaT] at this;rw[show P++d++z::(y::c++S)=P++d++z::y::(c++S) by simp,this];simp
theorem qN.down{k:Nat}{B:List Nt}{z:Nt}(h:qN a k B z P S T)(hk:a<k):qN a (k - 1) B z P S (swp T k (k - 1)):=by
 obtain⟨f,d,rfl,rfl,rfl,rfl⟩:=h;rcases ME f with rfl|⟨c,y,rfl⟩
 .simp at hk
 .refine⟨c,y::d,aT,?_,rfl,aT⟩;rw[show P++(c++ [y])++z::(d++S)=(P++c)++y::z::(d++S) by simp,show P.length+(c++ [y]).length - 1=(P++c).length by simp,show P.length+(c++ [y]).length=(P++c).length+1 by simp;omega,QU _ aQ,JZ];simp
theorem Mg.one(h:Mg T a m b P X Y S)(h1:m=a+1):qN a a Y (bM T a) P S T:=by
 obtain⟨x,rfl⟩:∃x,X= [x]:=aeH.1 (by have:=h.xm;omega);have:=h.IF (aaH a) aQ;rw[this,afR];exact⟨[],Y,rfl,by rw[h.e];simp[bM],h.pa,rfl⟩
theorem Mg.two(h:Mg T a m b P X Y S)(h1:b=m+1):qN a m X (bM T m) P S T:=by
 obtain⟨y,rfl⟩:∃y,Y= [y]:=aeH.1 (by have:=h.yb;omega);have:=h.G9 (aaH m) aQ;rw[this,afR];exact⟨X, [],aT,by rw[h.e];simp[bM],h.pa,h.xm⟩
theorem Mg.Lv(h:Mg T a m b P X Y S)(x:Nt):∀k k',m<=k->k<=k'->k'<b->(bM T k').bO<x.bO->(bM T k).bO<x.bO:=λk k' h1 f c d=>by
 have g:=h.yb;rw[h.G9 aQ c] at d;rw[h.G9 h1 aQ];have:=xE h.sy (i:=k - m) (j:=k' - m) aQ aQ;omega
theorem Mg.Le(h:Mg T a m b P X Y S)(y:Nt):∀k k',a<=k->k<=k'->k'<m->¬y.bO<(bM T k').bO->¬y.bO<(bM T k).bO:=λk k' h1 f c d=>by
 have g:=h.xm;rw[h.IF aQ c] at d;rw[h.IF h1 aQ];have:=xE h.sx (i:=k - a) (j:=k' - a) aQ aQ;omega
theorem Mg.Ls(h:Mg T a m b P X Y S){r0 p:Nat}(hs:a<=s0)(n:r0<=m)(f:∀c,s0<=c->c<r0->m<=p - c/\p - c<b/\c<=p):∀c d,s0<=c->c<=d->d<r0->¬(bM T (p - d)).bO<(bM T d).bO->¬(bM T (p - c)).bO<(bM T c).bO:=λc d h1 o g k=>by
 obtain⟨p1,p2,q⟩:=f c h1 aQ;obtain⟨l,p4,r⟩:=f d aQ g;have t:=h.xm;have u:=h.yb;rw[h.IF aQ (by omega:d<m),h.G9 l p4] at k;rw[h.IF aQ (by omega:c<m),h.G9 p1 p2];have v:=xE h.sx (i:=c - a) (j:=d - a) aQ aQ;have x:=xE h.sy (i:=p - d - m) (j:=p - c - m) aQ aQ;omega
theorem Mg.Vv(h:Mg T a m b P X Y S)(h1:m=a+1)(hi:m<=i)(r:i<=b)(l1:∀k,m<=k->k<i->(bM T k).bO<(bM T a).bO)(n:∀k,i<=k->k<b->¬(bM T k).bO<(bM T a).bO)(o:qN a (i - 1) Y (bM T a) P S T'):yS T T' a b:=by
 obtain⟨x,rfl⟩:∃x,X= [x]:=aeH.1 (by have:=h.xm;omega);have t:bM T a=x:=by rw[h.IF (aaH a) aQ,afR];rfl
 rw[t] at l1 n o;obtain⟨f,p,rfl,rfl,u,v⟩:=o;have c:=h.yb;refine⟨P, [x]++(f++p),f++x::p,S,by rw[h.e];simp,aT,u,by have:=h.xm;simp at this c⊢;omega,by simp[List.perm_middle],?_⟩;have hs:=abH.1 h.sy;refine abH.2 ⟨hs.1,ac2.2 ⟨λy d=>?_,hs.2.1⟩,λy d z g=>?_⟩
 .obtain⟨j,q,rfl⟩:=vX d;refine lX.of_le ?_ (h.tg x aT _ (by simp[d]));have:=n (i+j) aQ (by simp at c;omega);rw[h.G9 aQ (by simp at c;omega),show i+j - m=f.length+j by omega,gG] at this;exact this
 .have l:lX y x:=by
   obtain⟨j,q,rfl⟩:=vX d;have:=l1 (m+j) aQ aQ;rw[h.G9 aQ (by simp at c;omega),acM,mB q] at this;exact .inl this
  rcases acD.1 g with rfl|g
  .exact l
  .exact hs.2.2 y d z g
theorem Mg.Vj(h:Mg T a m b P X Y S)(h1:b=m+1)(hi:a<=i)(p:i<=m)(l1:∀k,a<=k->k<i->¬(bM T m).bO<(bM T k).bO)(l:∀k,i<=k->k<m->¬¬(bM T m).bO<(bM T k).bO)(n:qN a i X (bM T m) P S T'):yS T T' a b:=by
 obtain⟨y,rfl⟩:∃y,Y= [y]:=aeH.1 (by have:=h.yb;omega);have q:bM T m=y:=by rw[h.G9 (aaH m) aQ,afR];rfl
 rw[q] at l1 l n;obtain⟨f,g,rfl,rfl,r,v⟩:=n;have c:=h.xm;refine⟨P,(f++g)++ [y],f++y::g,S,by rw[h.e];simp,aT,r,by simp at c⊢;omega,?_,?_⟩
 .exact(List.perm_middle.trans (List.perm_append_singleton y (f++g)).symm)
 have hs:=abH.1 h.sx;have t:∀z∈f,lX z y:=λz d=>by
  obtain⟨j,o,rfl⟩:=vX d;refine lX.of_le ?_ (h.tg _ (by simp[d]) y aT);have:=l1 (a+j) aQ aQ;rw[h.IF aQ (by simp at c;omega),acM,mB o] at this;exact this
 refine abH.2 ⟨hs.1,ac2.2 ⟨λz d=>?_,hs.2.1⟩,λz d u hu=>?_⟩
 .obtain⟨j,o,rfl⟩:=vX d;have:=l (i+j) aQ (by simp at c;omega);rw[h.IF aQ (by simp at c;omega),show i+j - a=f.length+j by omega,gG] at this;exact .inl (Decidable.not_not.1 this)
 .rcases acD.1 hu with rfl|hu
  .exact t z d
  .exact hs.2.2 z d u hu
structure wD(T:List Nt)(a m b s e:Nat)(P X1 X2 Y1 Y2 S:List Nt):Prop where
 eq:T=P++(X1++X2)++(Y1++Y2)++S
 pa:P.length=a
 xs:a+X1.length=s
 xm:s+X2.length=m
 ye:m+Y1.length=e
 yb:e+Y2.length=b
 sx:sX (X1++X2)
 sy:sX (Y1++Y2)
 tg:∀x∈X1++X2,∀y∈Y1++Y2,x.iB<y.iB
 lo:∀x∈X1,∀y∈Y2,lX x y
 hi:∀y∈Y1,∀x∈X2,lX y x
theorem Mg.cut(h:Mg T a m b P X Y S){r0 s p:Nat}(z:g=(a+b) /2)(hp:p=g+m - 1)(d:s0=if g<m then g+m - b else a)(f:r0=if g<m then g else m)(h1:s0<=s)(H:s<=r0)
 (l1:∀c,s0<=c->c<s->¬(bM T (p - c)).bO<(bM T c).bO) (C:∀c,s<=c->c<r0->¬¬(bM T (p - c)).bO<(bM T c).bO):
 ∃X1 X2 Y1 Y2,wD T a m b s (g+m - s) P X1 X2 Y1 Y2 S:=by
 have I:=h.len;have D:=h.xm;have E:=h.yb;have F:a<=g/\g<=b:=aQ;have A:a<=s0:=by rw[d];split <;> omega
 have B:r0<=m:=by rw[f];split <;> omega
 have G:m<=g+m - s/\g+m - s<=b:=by
  refine⟨?_,?_⟩
  .have:r0<=g:=by rw[f];split <;> omega
   omega
  .by_cases hc:g<m
   .rw[aaK hc] at d;omega
   .rw[aaL hc] at d;omega
 refine⟨X.take (s - a),X.drop (s - a),Y.take (g+m - s - m),Y.drop (g+m - s - m),?_⟩;have ex:X.take (s - a)++X.drop (s - a)=X:=List.take_append_drop _ _;have r:Y.take (g+m - s - m)++Y.drop (g+m - s - m)=Y:=List.take_append_drop _ _;refine⟨by rw[ex,r];exact h.e,h.pa,by rw[aa9];omega,by rw[abY];omega,by rw[aa9];omega,by rw[abY];omega,by rw[ex];exact h.sx,by rw[r];exact h.sy,by rw[ex,r];exact h.tg,λx n y o=>?_,λy o x n=>?_⟩
 .have k:=aeI n;have l:=aeI o;rw[aa9] at k;rw[abY] at l;obtain⟨i,hi,rfl⟩:=aa2 n;obtain⟨j,t,rfl⟩:=aa2 o;rw[ad1,List.getElem_drop];rw[aa9] at hi;rw[abY] at t;refine lX.of_le ?_ (h.tg _ (aaM _) _ (aaM _));have q:s0<s:=by
   by_cases hc:g<m
   .rw[aaK hc] at d;omega
   .rw[aaL hc] at d;omega
  have:=l1 (s - 1) aQ aQ;rw[h.IF (i:=s - 1) aQ aQ,h.G9 (i:=p - (s - 1)) aQ aQ] at this;have u:=xE h.sx (i:=i) (j:=s - 1 - a) aQ aQ;have v:=xE h.sy (i:=p - (s - 1) - m) (j:=g+m - s - m+j) aQ aQ;rw[kU aQ] at u;rw[kU (i:=g+m - s - m+j) aQ] at v;omega
 .have k:=aeI n;have l:=aeI o;rw[abY] at k;rw[aa9] at l;obtain⟨i,hi,rfl⟩:=aa2 n;obtain⟨j,t,rfl⟩:=aa2 o;rw[List.getElem_drop,ad1];rw[abY] at hi;rw[aa9] at t;have q:s<r0:=by
   by_cases hc:g<m
   .rw[aaK hc] at f;omega
   .rw[aaL hc] at f;omega
  have:=Decidable.not_not.1 (C s aQ q);rw[h.IF (i:=s) aQ aQ,h.G9 (i:=p - s) aQ aQ] at this;have u:=xE h.sx (i:=s - a) (j:=s - a+i) aQ aQ;have v:=xE h.sy (i:=j) (j:=p - s - m) aQ aQ;rw[kU (i:=s - a+i) aQ] at u;rw[kU (i:=j) aQ] at v;exact .inl aQ
section
variable{s e:Nat}{X1 X2 Y1 Y2:List Nt}
theorem wD.Zw(h:wD T a m b s e P X1 X2 Y1 Y2 S)(h1:s<m)(c:m<e):tW (P++X1++Y1++X2++Y2++S) m (m - s) (e - m) T:=by
 have:=h.pa;have:=h.xs;have:=h.xm;have:=h.ye;exact⟨P++X1,X2,Y1,Y2++S,by rw[h.eq];simp,bL,aQ,aQ,aT,aQ,aQ⟩
theorem wD.Vw(h:wD T a m b s e P X1 X2 Y1 Y2 S)(h1:¬(s<m/\m<e)):T=P++X1++Y1++X2++Y2++S:=by
 have:=h.xm;have:=h.ye;rw[h.eq];by_cases c:X2= []
 .simp[c]
 .by_cases d:Y1= []
  .simp[d]
  .have:=ad3.2 c;have:=ad3.2 d;omega
theorem wD.left(h:wD T a m b s e P X1 X2 Y1 Y2 S)(hm:g=s+(e - m)):Mg (P++X1++Y1++X2++Y2++S) a s g P X1 Y1 (X2++Y2++S):=by
 have:=h.ye;exact⟨aT,h.pa,h.xs,aQ,(abH.1 h.sx).1,(abH.1 h.sy).1,λx c y d=>h.tg x (by simp[c]) y (by simp[d])⟩
theorem wD.half(h:wD T a m b s e P X1 X2 Y1 Y2 S)(hm:g=s+(e - m))(hd:yS (P++X1++Y1++X2++Y2++S) T1 a g):∃c,T1=P++c++X2++Y2++S/\c.Perm (X1++Y1)/\sX c:=by
 obtain⟨d,Q,Z,f,i,j,h1,p,k,l⟩:=hd;have:=h.pa;have:=h.ye;have:=h.xs;have n:P++((X1++Y1)++(X2++Y2++S))=d++(Q++f):=by simpa using i
 obtain⟨rfl,o⟩:=afP n aQ;obtain⟨rfl,rfl⟩:=afP o bL;exact⟨Z,by rw[j];simp,k,l⟩
theorem wD.right(h:wD T a m b s e P X1 X2 Y1 Y2 S)(hm:g=s+(e - m))(c:Z1.Perm (X1++Y1)):Mg (P++Z1++X2++Y2++S) g e b (P++Z1) X2 Y2 S:=by
 have h1:=c.length_eq;have:=h.pa;have:=h.ye;have:=h.xs;have:=h.xm;simp at h1;exact⟨rfl,bL,aQ,h.yb,(abH.1 h.sx).2.1,(abH.1 h.sy).2.1,λx d y f=>h.tg x (by simp[d]) y (by simp[f])⟩
theorem wD.done(h:wD T a m b s e P X1 X2 Y1 Y2 S)(hm:g=s+(e - m))(f:Z1.Perm (X1++Y1))(hs:sX Z1)(hd:yS (P++Z1++X2++Y2++S) T2 g b):yS T T2 a b:=by
 obtain⟨k,Q,Z,l,n,o,h1,v,j,p⟩:=hd;have i:=f.length_eq;have:=h.pa;have:=h.ye;have:=h.xs;have:=h.xm;have:=h.yb;simp at i;have q:(P++Z1)++((X2++Y2)++S)=k++(Q++l):=by simpa using n
 obtain⟨rfl,r⟩:=afP q bL;obtain⟨rfl,rfl⟩:=afP r bL;refine⟨P,(X1++X2)++(Y1++Y2),Z1++Z,S,by rw[h.eq];simp,by rw[o];simp,h.pa,bL,?_,?_⟩
 .refine(f.append j).trans ?_;rw[abA,abA];refine List.Perm.append_left X1 ?_;rw[<-abA,<-abA];exact afF Y2 List.perm_append_comm
 .refine abH.2 ⟨hs,p,λx t y u=>?_⟩;have c:=f.mem_iff.1 t;have d:=j.mem_iff.1 u;rcases aa8.1 c with c|c <;> rcases aa8.1 d with d|d
  .exact(abH.1 h.sx).2.2 x c y d
  .exact h.lo x c y d
  .exact h.hi x c y d
  .exact(abH.1 h.sy).2.2 x c y d
theorem Mg.idle(h:Mg T a m b P X Y S)(f:¬(a<m/\m<b)):yS T T a b:=by
 have:=h.xm;have:=h.yb;refine⟨P,X++Y,X++Y,S,by rw[h.e];simp,by rw[h.e];simp,h.pa,bL,List.Perm.refl _,?_⟩;by_cases c:X= []
 .rw[c];exact h.sy
 .by_cases d:Y= []
  .rw[d,acX];exact h.sx
  .have:=ad3.2 c;have:=ad3.2 d;omega
end
end
end Nt
end
end
section
open Go.RowKit Go.Lib
section
namespace Nt
def iX(x:Nt):List Value:= [.int .i64 x.eO, .int .i64 x.fV, .int .i64 x.bO]
theorem iZ:eY iX 3:=⟨λ_=>rfl,λx u hu=>by simp[iX] at hu;rcases hu with rfl|rfl|rfl <;> rfl⟩
theorem TV:∀x,(iX x).length=3:=λ_=>rfl
def tM(x y:Int):Int:=if x<y then -1 else if y<x then 1 else 0
theorem r6(x y:Int):(tM x y<0)=(x<y):=by unfold tM;split <;> (try split) <;> simp <;> omega
theorem Ao(x:Int)(w:aA):aG prog 191 #[x] w λe w'=>e= .returned (.bool false)/\w=w':=by
 go_enter func191,ntmps191
 go_wp2_with fail
 go_ret
 exact⟨rfl,rfl⟩
theorem SO(x y:Int)(w:aA):aG prog 147 #[x,y] w λe w'=>e= .returned (.int .i64 (tM x y))/\w=w':=by
 have n1:=aP (Ao x w);have a:=aP (Ao y w);by_cases h1:x<y
 .have hc:tM x y= -1:=by simp[tM,h1]
  rw[hc];clear hc;go_enter func147,ntmps147
  go_wp2_with(go_at_call 191;(first|(with_reducible refine n1.o.mono ?_)|(with_reducible refine a.o.mono ?_));rintro e b ⟨rfl,rfl⟩)
  go_ret
  exact⟨rfl,rfl⟩
 .by_cases c:y<x
  .have hc:tM x y=1:=by simp[tM,h1,c]
   rw[hc];clear hc;go_enter func147,ntmps147
   go_wp2_with(go_at_call 191;(first|(with_reducible refine n1.o.mono ?_)|(with_reducible refine a.o.mono ?_));rintro e b ⟨rfl,rfl⟩)
   go_ret
   exact⟨rfl,rfl⟩
  .have hc:tM x y=0:=by simp[tM,h1,c]
   rw[hc];clear hc;go_enter func147,ntmps147
   go_wp2_with(go_at_call 191;(first|(with_reducible refine n1.o.mono ?_)|(with_reducible refine a.o.mono ?_));rintro e b ⟨rfl,rfl⟩)
   go_ret
   exact⟨rfl,rfl⟩
theorem yH(a b x c d y:Int)(w:aA):aG prog 146 #[.agg #[a,b,x], .agg #[c,d,y]] w λe w'=>e= .returned (.int .i64 (tM x y))/\Below w w w':=by
 have f:Below w w ((w.alloc (Obj.cells #[a,b,x] 96)).alloc (Obj.cells #[c,d,y] 96)):=(aX _ _).alloc aT _;have h:=((bC.new w 96 #[a,b,x]).alloc (Obj.cells #[c,d,y] 96)).cell 2 x rfl;have i:=(bC.gK (w.alloc (Obj.cells #[a,b,x] 96)) 96 #[c,d,y] (g:=w.heap.size+1) aT).cell 2 y rfl;go_enter func146,ntmps146
 go_wp2_with fail
 refine(SO x y _).mono ?_;rintro e j ⟨rfl,rfl⟩;go_wp2_with fail
 go_ret
 exact⟨rfl,f⟩
def Sw(q:Nat)(w w':aA):Prop:=Kp (λb=>b<w.heap.size/\b≠q) w w'
section
variable{q:Nat}{w w' w'':aA}
theorem Sw.refl(w:aA):Sw q w w:=Kp.refl _ _
theorem Sw.trans(h:Sw q w w')(k:Sw q w' w''):Sw q w w'':=Kp.trans h (Kp.mono k λ_ a=>⟨aaJ a.1 (Kp.size h),a.2⟩)
theorem Sw.dD(h:Below w w w'):Sw q w w':=Kp.dD h (λ_ a=>a.1)
theorem Sw.below(h:Sw q w w')(k:Below w' w' w''):Sw q w w'':=h.trans (Sw.dD k)
theorem Sw.drewN(h:Sw q w w')(n:Nat):Sw q w (w'.drewN n):=Kp.drewN h n
theorem Sw.only(h:w.grownBy w' (some q)):Sw q w w':=Kp.grown h λb a=>⟨a.1,λe=>a.2 (by injection e)⟩
end
abbrev Rw (B:Nat) (w:aA) (q c:Nat) (T:List Nt):Prop:=bB iX 3 w B 96 q c T
variable{q i j:Nat}{w:aA}{T:List Nt}
theorem EH{B c:Nat}(h:Rw B w q c T)(hi:i<T.length)(b:j<T.length):
 Rw B ((w.setCells q (i *3) (iX (bM T j))).setCells q (j *3) (iX (bM T i))) q c (swp T i j)/\Sw q w ((w.setCells q (i *3) (iX (bM T j))).setCells q (j *3) (iX (bM T i))):=by
 have h1:=GH TV aQ h hi (bM T j);have a:=GH TV aQ h1.1 (i:=j) (by rw[aaV];exact b) (bM T i);exact⟨a.1,Sw.only (lG h1.2 a.2)⟩
theorem rQ(x:Nt):(prog.info? 96).map (·.size)=some (iX x).toArray.size:=by
 have h:(prog.info? 96).map (·.size)=some 3:=aV;exact h
theorem uH(x:Nt):(iX x).toArray.all (·.oneCell')=true:=all_oneCell_toArray (iZ.one x)
theorem nC{B c:Nat}(h:Rw B w q c T)(hi:i<T.length):w.cell? (q,i *3)=some (.int .i64 (bM T i).eO)/\w.cell? (q,i *3+1)=some (.int .i64 (bM T i).fV)/\w.cell? (q,i *3+2)=some (.int .i64 (bM T i).bO):=by
 rw[kU hi];exact⟨bG iZ h hi (j:=0) rfl,bG iZ h hi (j:=1) rfl,bG iZ h hi (j:=2) rfl⟩
theorem xM(B q c L a b n:Nat)(T:List Nt)(w:aA)(h:Rw B w q c T)(u:aH (T.length=L))(h1:a+n<=b)(A:b+n<=L)(C:L<=1000)(v:Value):
 aG prog 296 #[.slice q L c,a,b,n,v] w λe w'=>e= .returned (.tuple #[])/\Rw B w' q c (nL T a b n)/\Sw q w w':=by
 go_enter func296,ntmps296
 go_wp2_with fail
 go_loopw [10] (λv10 wr=>∃k:Nat,v10= .int .i64 k/\k<=n/\Rw B wr q c (nL T a b k)/\Sw q w wr) (λv10 _=>n - (aL v10).toNat)
 case atStart=>exact⟨0,rfl,aaQ _,h,Sw.refl _⟩
 case round=>
  clear h;obtain⟨k,rfl,hk,g,r⟩:=hrel;by_cases x:k<n
  .have y:(k:Int)<(n:Int):=aQ;have f:aH ((nL T a b k).length=L):=by unfold aH;rw[Iq];exact u.o
   have i:a+k<(nL T a b k).length:=by have:=f.o;omega
   have j:b+k<(nL T a b k).length:=by have:=f.o;omega
   obtain⟨a0,z,a2⟩:=nC g i;obtain⟨b0,b1,b2⟩:=nC g j;have p1:(a:Int)+(k:Int)<(L:Int):=aQ;have p2:(b:Int)+(k:Int)<(L:Int):=aQ;have d:=bH g r;clear g r;go_wp2_with fail
   have l:aH (∀m,(wr.drewN m).there q ((a+k) *3) 3):=λm=>pB (d.o.1.drewN m) (aaJ i d.o.1.cap)
   have p:aH (∀m,((wr.drewN m).setCells q ((a+k) *3) (iX (bM (nL T a b k) (b+k)))).there q ((b+k) *3) 3):=λm=>World.there_setCells (pB (d.o.1.drewN m) (aaJ j d.o.1.cap)) _ _ _
   refine jC [21,23] 38 aV aV bK ?_;repeat refine CH ?_
   refine yN ?_;intro nd;refine eT ?_;refine wpList_store_mid rfl 96 _ _ rfl q ((a+k) *3) (iX (bM (nL T a b k) (b+k))).toArray rfl rfl (l.o nd) (rQ _) (uH _) ?_;refine wpList_store_mid rfl 96 _ _ rfl q ((b+k) *3) (iX (bM (nL T a b k) (a+k))).toArray rfl rfl (p.o nd) (rQ _) (uH _) ?_;refine cP ?_;simp only[Act.put];refine rC (F:=Exit.inBlock _ _ _ _) (λW=>Rw B W q c (nL T a b (k+1))/\Sw q w W) ⟨(EH (d.o.1.drewN nd) i j).1,(d.o.2.drewN nd).trans (EH (d.o.1.drewN nd) i j).2⟩ ?_;rintro D ⟨s,t⟩;clear a0 z a2 b0 b1 b2 d l p f i j;go_wp2_with fail
   go_roundw
   case rel=>exact⟨k+1,by go_num,aQ,s,t⟩
   case measure=>simp[aL];omega
  .have y:¬(k:Int)<(n:Int):=aQ;obtain rfl:k=n:=aQ;go_wp2_with fail
   go_end0
   exact⟨rfl,g,r⟩
end Nt
end
namespace Nt
theorem VI(B q c L a m b:Nat)(T G:List Nt)(w:aA)(h:Rw B w q c T)(K:aH (T.length=L))(h1:a<m)(P:m<b)(Q:b<=L)(f:tW G m (m - a) (b - m) T)(A:L<=1000)(y:Value):
 aG prog 270 #[.slice q L c,a,m,b,y] w λe w'=>e= .returned (.tuple #[])/\Rw B w' q c G/\Sw q w w':=by
 obtain⟨i0,u⟩:∃i0,i0=m - a:=⟨_,rfl⟩
 obtain⟨z,v⟩:∃z,z=b - m:=⟨_,rfl⟩
 rw[<-u,<-v] at f;have g:aH ((m:Int) - (a:Int)=(i0:Int)):=by unfold aH;omega
 have n:aH ((b:Int) - (m:Int)=(z:Int)):=by unfold aH;omega
 have M:=aP (show G.length=L from f.len.1.symm.trans K.o);clear u v;go_enter func270,ntmps270
 go_wp2_with fail
 rw[g.o,n.o];clear g n;go_loopw [10,11] (λv10 v11 wr=>∃(i j:Nat) (p:List Nt),v10= .int .i64 i/\v11= .int .i64 j/\tW G m i j p/\Rw B wr q c p/\Sw q w wr) (λv10 v11 _=>(aL v10).toNat+(aL v11).toNat)
 case atStart=>exact⟨i0,z,T,rfl,rfl,f,h,Sw.refl _⟩
 case round=>
  clear f h;obtain⟨i,j,p,rfl,rfl,f,t,C⟩:=hrel;have N:=f.len;obtain⟨q1,R⟩:=f.pos;have d:aH (p.length=L):=by have:=M.o;unfold aH;omega
  have D:i<=m/\m+j<=L:=by have:=d.o;omega
  obtain⟨l1,S⟩:=D;clear N;by_cases r:i=j
  .subst r;have g:((m - i:Nat):Int)=(m:Int) - (i:Int):=aQ;have hs:=xM B q c L (m - i) m i p wr t d aQ aQ A y;rw[f.last,g] at hs;have x:=aP hs;clear hs f t g d;go_wp2_with fail
   refine x.o.mono ?_;rintro e I ⟨rfl,k,l⟩;go_wp2_with fail
   go_end0
   exact⟨rfl,k,C.trans l⟩
  .by_cases s:j<i
   .have g:((m - i:Nat):Int)=(m:Int) - (i:Int):=aQ;have n:((i - j:Nat):Int)=(i:Int) - (j:Int):=aQ;have hs:=xM B q c L (m - i) m j p wr t d aQ aQ A y;rw[g] at hs;have x:=aP hs;have E:=aP (f.left s);have F:=aP n;have O:(j:Int)<(i:Int):=aQ;clear hs f t g n d r s;go_wp2_with fail
    refine x.o.mono ?_;rintro e I ⟨rfl,k,l⟩;go_wp2_with fail
    go_roundw
    case rel=>exact⟨i - j,j,_,by rw[F.o],rfl,E.o,k,C.trans l⟩
    case measure=>simp[aL];omega
   .have H:i<j:=aQ;have g:((m - i:Nat):Int)=(m:Int) - (i:Int):=aQ;have n:((j - i:Nat):Int)=(j:Int) - (i:Int):=aQ;have J:((m+j - i:Nat):Int)=(m:Int)+(j:Int) - (i:Int):=aQ;have hs:=xM B q c L (m - i) (m+j - i) i p wr t d aQ aQ A y;rw[g,J] at hs;have x:=aP hs;have E:=aP (f.right H);have F:=aP n;have O:¬(j:Int)<(i:Int):=aQ;clear hs f t g n J d r s;go_wp2_with fail
    refine x.o.mono ?_;rintro e I ⟨rfl,k,l⟩;go_wp2_with fail
    go_roundw
    case rel=>exact⟨i,j - i,_,rfl,by rw[F.o],E.o,k,C.trans l⟩
    case measure=>simp[aL];omega
end Nt
section
namespace Nt
structure rP(X P S:List Nt)(a i:Nat)(B T:List Nt):Prop where
 e:T=P++B++(X.drop (i - a)++S)
 s:sX B
 p:B.Perm (X.take (i - a))
 l:a<i
 pa:P.length=a
variable{B':List Nt}
section
variable{X P S B T:List Nt}{a i:Nat}
theorem rP.start(b:P.length=a):rP X P S a (a+1) (X.take 1) (P++X++S):=by
 refine⟨?_,?_,by rw[acM],aQ,b⟩
 .rw[acM];conv=>lhs;rw[<-List.take_append_drop 1 X]
  simp only[abA]
 .cases X <;> simp
theorem rP.Ye(h:rP X P S a i B T)(hi:i - a<X.length):a+B.length=i:=by
 have h1:=h.p.length_eq;have b:=h.l;rw[aa9] at h1;omega
theorem rP.inner(h:rP X P S a i B T)(hi:i - a<X.length):uT a i B X[i - a] P (X.drop (i - a+1)++S) T:=by
 have h1:=uT.start (B:=B) (S:=X.drop (i - a+1)++S) (x:=X[i - a]) h.pa;rw[h.Ye hi] at h1;rw[h.e,acG hi];exact h1
theorem rP.tags(h:rP X P S a i B T)(b:X.Pairwise λx y=>x.iB<y.iB)(hi:i - a<X.length):∀y∈B,y.iB<X[i - a].iB:=λy c=>by
 have h1:=h.p.mem_iff.1 c;obtain⟨j,d,rfl⟩:=aa2 h1;rw[aa9] at d;rw[ad1];exact ab6.1 b j (i - a) aQ hi aQ
theorem rP.next(h:rP X P S a i B T)(hi:i - a<X.length)(hs:sX B')(hp:B'.Perm (B++ [X[i - a]])):rP X P S a (i+1) B' (P++B'++(X.drop (i - a+1)++S)):=by
 have b:=h.l;have e:i+1 - a=i - a+1:=aQ;refine⟨by rw[e],hs,?_,aQ,h.pa⟩;rw[e,abN,aaG hi];exact hp.trans (afF _ h.p)
theorem rP.done(h:rP X P S a i B T)(hi:¬i - a<X.length):yS (P++X++S) T a (a+X.length):=by
 refine⟨P,X,B,S,rfl,?_,h.pa,rfl,?_,h.s⟩
 .rw[h.e,aeG aQ];rfl
 .have:=h.p;rwa [aa7 aQ] at this
theorem rP.len(h:rP X P S a i B T):T.length=(P++X++S).length:=by
 have h1:=h.p.length_eq;rw[h.e];simp at h1⊢;omega
end
variable{j:Nat}{S T:List Nt}
theorem uT.I5{a:Nat}{B P:List Nt}{x:Nt}(h:uT a j B x P S T):T.length=P.length+B.length+1+S.length:=by
 obtain⟨b,c,rfl,rfl,_⟩:=h;simp;omega
theorem W5(B q c L a b:Nat)(X P S:List Nt)(T0:List Nt)(w:aA)(D:aH (P++X++S=T0))(h:Rw B w q c T0)(hL:aH (T0.length=L))(hP:P.length=a)(hX:a+X.length=b)(ht:X.Pairwise λx y=>x.iB<y.iB)(h3:L<=1000):
 aG prog 232 #[.slice q L c,a,b, .func (.func 146) #[] #[]] w λe w'=>e= .returned (.tuple #[])/\(∃I,Rw B w' q c I/\yS T0 I a b)/\Sw q w w':=by
 have hbl:b<=L:=by have h1:=D.o;have:=hL.o;subst h1;simp at this;omega
 have hab:a<=b:=aQ;have HX:=aP hX;have HP:=aP hP;clear hX hP;go_enter func232,ntmps232
 go_wp2_with fail
 go_loopw [8] (λv8 wr=>∃(i:Nat) (B' I:List Nt),v8= .int .i64 i/\i<=b+1/\rP X P S a i B' I/\Rw B wr q c I/\Sw q w wr) (λv8 _=>b+1 - (aL v8).toNat)
 case atStart=>exact⟨a+1,_,_,by go_num,aQ,rP.start HP.o,by rw[D.o];exact h,Sw.refl _⟩
 case round=>
  clear h;obtain⟨i,B',I,rfl,hib,G,d,v⟩:=hrel;have hai:=G.l;by_cases hlt:i<b
  .have k1:(i:Int)<(b:Int):=aQ;have hi:i - a<X.length:=by have:=HX.o;omega
   have J:=G.inner hi;have R:=aP (G.tags ht hi);have HI:=aP G;have U:=aP (λA=>G.next hi (B':=A));have hl0:aH (P.length+B'.length+1+(X.drop (i - a+1)++S).length=L):=by
    have h1:=J.I5;have h2:=G.len;rw[D.o] at h2;have:=hL.o;unfold aH;omega
   generalize X[i - a]=x at *;generalize X.drop (i - a+1)++S=S2 at *;clear G;go_wp2_with fail
   go_loopw [9] (λv9 ws=>∃(j:Nat) (T2:List Nt),v9= .int .i64 j/\uT a j B' x P S2 T2/\Rw B ws q c T2/\Sw q w ws) (λv9 _=>(aL v9).toNat)
   case atStart=>exact⟨i,I,rfl,J,d,v⟩
   case round=>
    clear J d v;obtain⟨j,T2,rfl,H,d,v⟩:=hrel;obtain⟨l1,l2,l3,l4⟩:=H.len;have hT2:aH (T2.length=L):=by have h1:=H.I5;have h2:=hl0.o;unfold aH;omega
    have l5:j<L:=by have:=hT2.o;omega
    by_cases hj:a<j
    .have j1:(a:Int)<(j:Int):=aQ;obtain⟨m,rfl⟩:∃m,j=m+1:=⟨j - 1,aQ⟩
     replace j1:(a:Int)<(m:Int)+1:=aQ;obtain⟨a0,K,a2⟩:=nC d l2;obtain⟨b0,b1,b2⟩:=nC d (i:=m) aQ;rw[l3] at a0 K a2;have M:m<T2.length:=aQ;by_cases hk:x.bO<(bM T2 m).bO
     .have HD:=aP (H.down hj (by rw[ae7];exact hk));rw[ae7] at HD;have C:=bH d v;obtain⟨E,N⟩:∃E,tM x.bO (bM T2 m).bO=E:=⟨_,rfl⟩
      have hE0:E<0:=by rw[<-N,r6];exact hk
      have hc:=aP (λW=>yH x.eO x.fV x.bO (bM T2 m).eO (bM T2 m).fV (bM T2 m).bO W);rw[N] at hc;clear N hk H d v;go_wp2_with fail
      (have k:=bR.cell a0;have n:=bR.cell K;have p:=bR.cell a2;have r:=bR.cell b0;have t:=bR.cell b1;have u:=bR.cell b2;refine dA aV aV ?_;(repeat (go_big_quiet_step ((go_at_call 146;with_reducible exact gR (hc.o _)))));refine wpQuiet_nil ?_;clear k n p r t u;intro w5 f;have g:=bR.below f;clear f)
      replace d:=C.o.1.keep g;replace v:=C.o.2.below g;clear a0 K a2 b0 b1 b2 hc g;rw[<-l3] at HD;obtain⟨a0,K,a2⟩:=nC d l2;obtain⟨b0,b1,b2⟩:=nC d M;have V:aH (∀z,(w5.drewN z).there q ((m+1) *3) 3):=λz=>pB (d.drewN z) (aaJ l2 d.cap)
      have Y:aH (∀z,((w5.drewN z).setCells q ((m+1) *3) (iX (bM T2 m))).there q (m *3) 3):=λz=>World.there_setCells (pB (d.drewN z) (aaJ M d.cap)) _ _ _
      have O:=λz=>EH (d.drewN z) l2 M
      simp only[l3] at O;have Q:=aP O;have HW:=bH d v;clear d v C O;go_wp2_with fail
      refine jC [15,17] 53 aV aV bK ?_;repeat refine CH ?_
      refine yN ?_;intro nd;refine eT ?_;refine wpList_store_mid rfl 96 _ _ rfl q ((m+1) *3) (iX (bM T2 m)).toArray rfl rfl (V.o nd) (rQ _) (uH _) ?_;refine wpList_store_mid rfl 96 _ _ rfl q (m *3) (iX x).toArray rfl rfl (Y.o nd) (rQ _) (uH _) ?_;refine cP ?_;simp only[Act.put];refine rC (F:=Exit.inBlock _ _ _ _) (λW=>Rw B W q c (swp T2 (m+1) m)/\Sw q w W) ⟨(Q.o nd).1,(HW.o.2.drewN nd).trans (Q.o nd).2⟩ ?_;rintro w6 ⟨hW6,hS6⟩;clear a0 K a2 b0 b1 b2 HW V Y Q;go_wp2_with fail
      go_roundw
      case rel=>exact⟨m,_,by go_num,by rw[l3] at HD;exact HD.o,hW6,hS6⟩
      case measure=>simp[aL]
     .have C:=bH d v;obtain⟨E,N⟩:∃E,tM x.bO (bM T2 m).bO=E:=⟨_,rfl⟩
      have hE0:¬E<0:=by rw[<-N,r6];exact hk
      have hc:=aP (λW=>yH x.eO x.fV x.bO (bM T2 m).eO (bM T2 m).fV (bM T2 m).bO W);rw[N] at hc;have HK:aH (a=m+1\/¬x.bO<(bM T2 (m+1 - 1)).bO):= .inr (by rw[ae7];exact hk);obtain⟨A,Z,e2,e3⟩:=H.stop HI.o.s R.o HK.o;have HN:=aP (U.o A e2 e3);rw[<-Z] at HN;clear N hk Z e2 e3 H d v HK;go_wp2_with fail
      (have k:=bR.cell a0;have n:=bR.cell K;have p:=bR.cell a2;have r:=bR.cell b0;have t:=bR.cell b1;have u:=bR.cell b2;refine dA aV aV ?_;(repeat (go_big_quiet_step ((go_at_call 146;with_reducible exact gR (hc.o _)))));refine wpQuiet_nil ?_;clear k n p r t u;intro w5 f;have g:=bR.below f;clear f)
      replace d:=C.o.1.keep g;replace v:=C.o.2.below g;clear a0 K a2 b0 b1 b2 hc g C;go_wp2_with fail
      go_roundw
      case rel=>exact⟨i+1,A,T2,by go_num,aQ,HN.o,d,v⟩
      case measure=>simp[aL];omega
    .obtain rfl:a=j:=aQ;obtain⟨A,Z,e2,e3⟩:=H.stop HI.o.s R.o (.inl rfl);have HN:=aP (U.o A e2 e3);rw[<-Z] at HN;have C:=bH d v;clear Z e2 e3 H d v;go_wp2_with fail
     (refine dA aV aV ?_;(repeat (go_big_quiet_step ((go_at_call 146;with_reducible exact gR ((λW=>yH 0 0 0 0 0 0 W) _)))));refine wpQuiet_nil ?_;intro w5 f;have g:=bR.below f;clear f)
     replace d:=C.o.1.keep g;replace v:=C.o.2.below g;clear g C;go_wp2_with fail
     go_roundw
     case rel=>exact⟨i+1,A,T2,by go_num,aQ,HN.o,d,v⟩
     case measure=>simp[aL];omega
  .have k1:¬(i:Int)<(b:Int):=aQ;go_wp2_with fail
   go_end0
   refine⟨rfl,⟨_,d,?_⟩,v⟩;rw[<-HX.o,<-D.o];exact G.done (by have:=HX.o;omega)
end Nt
end
namespace Nt
def MX(B q c:Nat)(T:List Nt)(a b:Nat)(w:aA)(e:Ending)(w':aA):Prop:=e= .returned (.tuple #[])/\(∃T',Rw B w' q c T'/\yS T T' a b)/\Sw q w w'
theorem Pp(B q c L a m b:Nat)(T P X Y S:List Nt)(w:aA)(h:Rw B w q c T)(R:aH (T.length=L))(hM:Mg T a m b P X Y S)(h0:m=a+1)(h1:m<b)(hb:b<=L)(h3:L<=1000):
 aG prog 233 #[.slice q L c,a,m,b, .func (.func 146) #[] #[]] w (MX B q c T a b w):=by
 have k0:(m:Int) - (a:Int)=1:=aQ;have x:=aP hM;have O:=aP h0;clear hM h0;go_enter func233,ntmps233
 go_wp2_with fail
 go_loopw [10,11] (λv10 v11 wr=>∃i j:Nat,v10= .int .i64 i/\v11= .int .i64 j/\m<=i/\i<=j/\j<=b/\aH (∀k,m<=k->k<i->(bM T k).bO<(bM T a).bO)/\aH (∀k,j<=k->k<b->¬(bM T k).bO<(bM T a).bO)/\Rw B wr q c T/\Sw q w wr) (λv10 v11 _=>(aL v11).toNat - (aL v10).toNat)
 case atStart=>exact⟨m,b,rfl,rfl,aaH _,aQ,aaH _,λk h1 Q=>by omega,λk h1 Q=>by omega,h,Sw.refl _⟩
 case round=>
  clear h;obtain⟨i,j,rfl,rfl,hi,hij,U,l1,V,d,t⟩:=hrel;by_cases C:i<j
  .have k1:(i:Int)<(j:Int):=aQ;obtain⟨H,hH⟩:∃H,H=(i+j) /2:=⟨_,rfl⟩
   have eH:((i:Int)+(j:Int)) /2=(H:Int):=aQ;have hH1:i<=H:=aQ;have hH2:H<j:=aQ;have HH:=aP hH;clear hH;have D:H<T.length:=by have:=R.o;omega
   have G:a<T.length:=by have:=R.o;omega
   have q1:H<L:=aQ;have q2:a<L:=aQ;obtain⟨a0,y,a2⟩:=nC d D;obtain⟨b0,b1,b2⟩:=nC d G;have hc:=aP (λW=>yH (bM T H).eO (bM T H).fV (bM T H).bO (bM T a).eO (bM T a).fV (bM T a).bO W);obtain⟨E,I⟩:∃E,tM (bM T H).bO (bM T a).bO=E:=⟨_,rfl⟩
   rw[I] at hc;have A:=bH d t;clear d t;by_cases hk:(bM T H).bO<(bM T a).bO
   .have Z:E<0:=by rw[<-I,r6];exact hk
    have L1:aH (∀k,m<=k->k<H+1->(bM T k).bO<(bM T a).bO):=by
     have:=HH.o;subst this;exact MV (x.o.Lv (bM T a)) l1.o hi C U hk
    clear I hk l1;go_upto_region 5 with(fail)
    (have e:=bR.cell a0;have f:=bR.cell y;have g:=bR.cell a2;have l:=bR.cell b0;have n:=bR.cell b1;have p:=bR.cell b2;refine dA aV aV ?_;(repeat (go_big_quiet_step ((go_at_call 146;with_reducible exact gR (hc.o _)))));refine wpQuiet_nil ?_;clear e f g l n p;intro w5 r;have s:=bR.below r;clear r)
    replace d:=A.o.1.keep s;replace t:=A.o.2.below s;clear a0 y a2 b0 b1 b2 hc s A;go_wp2_with fail
    go_roundw
    case rel=>exact⟨H+1,j,by go_num,rfl,aQ,aQ,U,L1,V,d,t⟩
    case measure=>simp[aL];omega
   .have Z:¬E<0:=by rw[<-I,r6];exact hk
    have L2:aH (∀k,H<=k->k<b->¬(bM T k).bO<(bM T a).bO):=by
     have:=HH.o;subst this;exact F1 (x.o.Lv (bM T a)) hi C hk
    clear I hk V;go_upto_region 5 with(fail)
    (have e:=bR.cell a0;have f:=bR.cell y;have g:=bR.cell a2;have l:=bR.cell b0;have n:=bR.cell b1;have p:=bR.cell b2;refine dA aV aV ?_;(repeat (go_big_quiet_step ((go_at_call 146;with_reducible exact gR (hc.o _)))));refine wpQuiet_nil ?_;clear e f g l n p;intro w5 r;have s:=bR.below r;clear r)
    replace d:=A.o.1.keep s;replace t:=A.o.2.below s;clear a0 y a2 b0 b1 b2 hc s A;go_wp2_with fail
    go_roundw
    case rel=>exact⟨i,H,rfl,rfl,hi,aQ,aQ,l1,L2,d,t⟩
    case measure=>simp[aL];omega
  .obtain rfl:i=j:=aQ;go_wp2_with fail
   go_loopw [13] (λu ws=>∃(k:Nat) (T2:List Nt),u= .int .i64 k/\k+1<=i/\qN a k Y (bM T a) P S T2/\Rw B ws q c T2/\Sw q w ws) (λu _=>i - (aL u).toNat)
   case atStart=>exact⟨a,T,rfl,aQ,x.o.one O.o,d,t⟩
   case round=>
    clear d t;obtain⟨k,T2,rfl,hki,J,d,t⟩:=hrel;have K:aH (T2.length=L):=by
     have h1:=(x.o.one O.o).I5;have Q:=J.I5;have:=R.o;unfold aH;omega
    by_cases hk:k+1<i
    .have k1:(k:Int)<(i:Int) - 1:=aQ;have D:k<T2.length:=by have:=K.o;omega
     have G:k+1<T2.length:=by have:=K.o;omega
     have q3:(k:Int)+1<(L:Int):=aQ;have HA:=aP (J.up (by have:=x.o.yb;have:=O.o;omega));clear J;have M:aH (∀z,(wr.drewN z).there q (k *3) 3):=λz=>pB (d.drewN z) (aaJ D d.cap)
     have N:aH (∀z,((wr.drewN z).setCells q (k *3) (iX (bM T2 (k+1)))).there q ((k+1) *3) 3):=λz=>World.there_setCells (pB (d.drewN z) (aaJ G d.cap)) _ _ _
     have v:=aP (λz=>EH (d.drewN z) D G);obtain⟨a0,y,a2⟩:=nC d D;obtain⟨b0,b1,b2⟩:=nC d G;have HS:=aP t;clear d t;go_wp2_with fail
     refine jC [15,17] 220 aV aV bK ?_;repeat refine CH ?_
     refine yN ?_;intro nd;refine eT ?_;refine wpList_store_mid rfl 96 _ _ rfl q (k *3) (iX (bM T2 (k+1))).toArray rfl rfl (M.o nd) (rQ _) (uH _) ?_;refine wpList_store_mid rfl 96 _ _ rfl q ((k+1) *3) (iX (bM T2 k)).toArray rfl rfl (N.o nd) (rQ _) (uH _) ?_;refine cP ?_;simp only[Act.put];refine rC (F:=Exit.inBlock _ _ _ _) (λW=>Rw B W q c (swp T2 k (k+1))/\Sw q w W) ⟨(v.o nd).1,(HS.o.drewN nd).trans (v.o nd).2⟩ ?_;rintro w6 ⟨a6,a7⟩;clear a0 y a2 b0 b1 b2 M N v HS;go_wp2_with fail
     go_roundw
     case rel=>exact⟨k+1,_,by go_num,aQ,HA.o,a6,a7⟩
     case measure=>simp[aL];omega
    .have k1:¬(k:Int)<(i:Int) - 1:=aQ;obtain rfl:k=i - 1:=aQ;have HD:=aP (x.o.Vv O.o hi U l1.o (λk h1 Q=>by have:=V.o k h1 Q;omega) J);clear J;go_wp2_with fail
     go_end0
     exact⟨rfl,⟨_,d,HD.o⟩,t⟩
end Nt
end
end Go.Proofs.YtacgiflhgdaeaaaGreat
