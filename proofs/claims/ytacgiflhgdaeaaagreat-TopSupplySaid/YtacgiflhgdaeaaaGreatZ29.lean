/- Texts laid as one. -/
import Derived.Deep.RegionHeld3
import Derived.Deep.MidRow
import Derived.Test.YtacgiflhgdaeaaaGreatZ2
import Derived.Test.YtacgiflhgdaeaaaGreatZ27
import Derived.Test.YtacgiflhgdaeaaaGreatZ28
set_option linter.unusedVariables false
set_option linter.unusedSimpArgs false
set_option maxRecDepth 100000
set_option maxHeartbeats 20000000
namespace Go.Proofs.YtacgiflhgdaeaaaGreat
open Go.Proofs.Tryz
open Go renaming World->aA,Value->aC,Addr->aJ,TypeId->aN,Calls->aG
open Go.RowKit renaming Below->aD,Hid->aH
open Go.Obj renaming cells->aI
section
open Go.RowKit Go.Lib Go.Shelf dH Fr Up Nt
variable{w:aA}{hb m g n:Nat}{e:Int}
section
theorem zX(h:w.cell? (hb,0)=some (.pointer m)):aG prog 10 #[.pointer hb] w λr w'=>r= .returned (.pointer m)/\w=w':=by
 go_enter func10,ntmps10
 go_wp2_with fail
 go_ret
 exact⟨rfl,rfl⟩
theorem rI(h:w.cell? (m,0)=some (.pointer g)):aG prog 11 #[.pointer m] w λr w'=>r= .returned (.pointer g)/\w=w':=by
 go_enter func11,ntmps11
 go_wp2_with fail
 go_ret
 exact⟨rfl,rfl⟩
def VQ(hb:Nat)(e:Int):Option aJ:=if 0<=e/\e<4 then some ⟨hb,2+e.toNat *15,none⟩ else none
theorem vQ(hb:Nat)(h:n<4):VQ hb n=some ⟨hb,2+n *15,none⟩:=aaK aQ
theorem rY(hb:Nat)(h:¬(0<=e/\e<4)):VQ hb e=none:=aaL h
section
variable{F:Nat->Prop}{w w':aA}{hb m g:Nat}{c:Int}{k:Kv}{rs:List Rm}
theorem cE.kn(h:cE F w hb m g c k rs):∃G a,bJ G w g a k/\w.cell? (m,0)=some (.pointer g)/\(∀(k':Kv) (w':aA),KM G w' g k'->Kp G w w'->cE F w' hb m g c k' rs/\Kp F w w'):=by
 obtain⟨f,⟨b,a,hs⟩,b1⟩:=h.st;obtain⟨d,hk,b2⟩:=hs.kn;refine⟨d,a,hk,hs.c0,λk' w' ⟨a',e⟩ kk=>?_⟩;obtain⟨s1,s2⟩:=b2 a' k' w' e kk;exact b1 k' w' ⟨b,a',s1⟩ s2
theorem cE.sd(h:cE F w hb m g c k rs):∃G gs,lM G w gs k.s/\w.cell? (m,0)=some (.pointer g)/\w.cell? (g,6)=some (.pointer (some ⟨gs,0,none⟩))/\(∀(s':Sd) (w':aA),lM G w' gs s'->Kp G w w'->(cE F w' hb m g c {k with s:=s'} rs/\Kp F w w')/\w'.cell? (m,0)=some (.pointer g)/\w'.cell? (g,6)=some (.pointer (some ⟨gs,0,none⟩))):=by
 obtain⟨j,⟨d,a,b⟩,b1⟩:=h.st;obtain⟨l,hk,b2⟩:=b.kn;obtain⟨e,hs,b3⟩:=hk.sd;refine⟨e,a.gs,hs,b.c0,hk.ps,λs' w' f i=>?_⟩;obtain⟨s1,s2⟩:=b3 s' w' f i;obtain⟨t1,t2⟩:=b2 a _ w' s1 s2;exact⟨b1 _ w' ⟨d,a,t1⟩ t2,t1.c0,s1.ps⟩
theorem xD(h:cE F w hb m g c k rs)(e:Int):aG prog 55 #[.pointer hb,e] w λr w'=>r= .returned (.pointer (VQ hb e))/\aD w w w':=by
 obtain⟨G,a,hk,d0,_⟩:=h.kn;have c0:=h.c0;unfold pA at c0;have i:=aP (OQ hk);have j:=Below.refl w w;clear h hk;by_cases h1:e<0
 .rw[rY hb aQ];clear c0 d0 i;go_enter func55,ntmps55
  go_wp2_with fail
  go_ret
  exact⟨rfl,j⟩
 .obtain⟨n,rfl⟩:=aaO (by omega:0<=e);by_cases p:n<4
  .rw[vQ hb p];have q:(n:Int)<4:=aQ;have s:(n:Int)<8:=aQ;go_enter func55,ntmps55
   go_wp2_with(first|(go_at_call 10;(refine aS (zX c0) ?_);rintro x d ⟨rfl,rfl⟩)|(go_at_call 11;(refine aS (rI d0) ?_);rintro x d ⟨rfl,rfl⟩))
   refine aR i ?_;rintro x d ⟨rfl,b⟩;have l:=DQ d;have f:=aP b;clear c0 d0 i b;go_wp2_with fail
   go_ret
   exact⟨rfl,f.o⟩
  .rw[rY hb aQ];have q:(4:Int)<=(n:Int):=aQ;go_enter func55,ntmps55
   go_wp2_with(first|(go_at_call 10;(refine aS (zX c0) ?_);rintro x d ⟨rfl,rfl⟩)|(go_at_call 11;(refine aS (rI d0) ?_);rintro x d ⟨rfl,rfl⟩))
   refine aR i ?_;rintro x d ⟨rfl,b⟩;have l:=DQ d;have f:=aP b;clear c0 d0 i b;go_wp2_with fail
   go_ret
   exact⟨rfl,f.o⟩
end
end
variable{rs:List Rm}{i j:Nat}
section
def bT(rs:List Rm)(i:Nat):Rm:=rs.getD i PS
theorem vY(h:i<rs.length):rs[i]=bT rs i:=by unfold bT;simp[h]
def ES(F:Nat->Prop)(hb m g:Nat)(c:Int)(k:Kv)(rs:List Rm)(v:aC)(w:aA)(e:Ending)(w':aA):Prop:=e= .returned v/\cE F w' hb m g c k rs/\Kp F w w'
def RS(rs:List Rm)(e:Int):Option aJ:=if 0<=e/\e<4 then(bT rs e.toNat).l.map (λ_=>⟨(bT rs e.toNat).g,0,none⟩) else none
section
variable{F:Nat->Prop}{w w':aA}{hb m g:Nat}{c:Int}{k:Kv}{rs:List Rm}
theorem cE.Y7(h:cE F w hb m g c k rs)(a:n<8)(b:j<15){v:aC}(d:(kB (bT rs n))[j]?=some v):w.cell? (hb,2+n *15+j)=some v:=
 h.rc (by rw[h.l8];exact a) b (by rw[vY];exact d)
theorem cE.TK(h:cE F w hb m g c k rs)(a:n<8):w.cell? (hb,2+n *15)=some (EL (bT rs n).l (bT rs n).g):=h.Y7 (j:=0) a aQ rfl
theorem cE.Zv(h:cE F w hb m g c k rs)(a:n<8):w.cell? (hb,2+n *15+4)=some (.slice (bT rs n).cA (bT rs n).C.length (bT rs n).cc):=h.Y7 (j:=4) a aQ rfl
theorem cE.Aw(h:cE F w hb m g c k rs)(a:n<8):vZ (bT rs n):=by
 rw[<-vY (by rw[h.l8];exact a)];exact h.ok _ (aaM _)
theorem cE.Xo(h:cE F w hb m g c k rs)(a:n<8):w.cell? (hb,2+n *15+14)=some (.bool (bT rs n).ru):=h.Y7 (j:=14) a aQ (by
 have:=(h.Aw a).rg.1;unfold kB;rw[aaS aT,aaS bL];simp[this])
theorem Xs(h:cE F w hb m g c k rs)(e:Int):aG prog 26 #[.pointer hb,e] w λr w'=>r= .returned (.pointer (RS rs e))/\aD w w w':=by
 have b:=aP (xD h e);by_cases hc:0<=e/\e<4
 .obtain⟨n,rfl⟩:=aaO hc.1;have i:n<4:=aQ;have c0:=h.TK (n:=n) aQ;have d:aH (RS rs n=(bT rs n).l.map (λ_=>⟨(bT rs n).g,0,none⟩)):=by unfold aH RS;rw[aaK hc];rfl
  unfold EL at c0;rw[<-d.o] at c0;rw[vQ hb i] at b;generalize RS rs n=P at *;clear h hc d;go_enter func26,ntmps26
  go_wp2_with fail
  refine aR b ?_;rintro x j ⟨rfl,a⟩;have d0:=bD a c0;have f:=aP a;clear c0 a b;go_wp2_with fail
  go_ret
  exact⟨rfl,f.o⟩
 .rw[rY hb hc] at b;have d:aH (RS rs e=none):=aaL hc;rw[d.o];clear h hc;go_enter func26,ntmps26
  go_wp2_with fail
  refine aR b ?_;rintro x j ⟨rfl,a⟩;have f:=aP a;clear a b;go_wp2_with fail
  go_ret
  exact⟨rfl,f.o⟩
def mN(k:Kv)(e:Int):Kv:=if 0<=e/\e<4 then {k with s:=lU k.s e} else k
def EW(k:Kv)(e:Int):Int:=if 0<=e/\e<4 then uB k.s e else 1
theorem Km(h:cE F w hb m g c k rs)(j:gE k.s)(e:Int):aG prog 35 #[.pointer hb,e] w (ES F hb m g c (mN k e) rs (.int .i64 (EW k e)) w):=by
 have b:=aP (xD h e);have i:=aP h;have t:=aP j;by_cases hc:0<=e/\e<4
 .obtain⟨n,rfl⟩:=aaO hc.1;have u:n<4:=aQ;unfold mN EW;rw[aaK hc,aaK hc];rw[vQ hb u] at b;clear h j hc;go_enter func35,ntmps35
  go_wp2_with fail
  refine aR b ?_;rintro x v ⟨rfl,a⟩;have d:=aP (i.o.below a);clear a b i;obtain⟨G,gs,hs,d0,d6,back⟩:=d.o.1.sd;have c0:=d.o.1.c0;unfold pA at c0;have l:=aP (IC hs t.o n);have p:=aP back;clear hs back;go_wp2_with(go_at_call 11;(refine aS (rI d0) ?_);rintro x y ⟨rfl,rfl⟩)
  refine aR l ?_;rintro x y ⟨rfl,f,q⟩;have r:=aP (p.o _ _ f q).1;clear c0 d0 d6 f q l p;go_wp2_with fail
  go_ret
  exact⟨rfl,r.o.1,d.o.2.trans r.o.2⟩
 .rw[rY hb hc] at b;unfold mN EW;rw[aaL hc,aaL hc];clear h j hc;go_enter func35,ntmps35
  go_wp2_with fail
  refine aR b ?_;rintro x v ⟨rfl,a⟩;have d:=aP (i.o.below a);clear a b i;go_wp2_with fail
  go_ret
  exact⟨rfl,d.o⟩
def lV(k:Kv)(e bu pe:Int):Kv:=if 0<=e/\e<4 then {k with s:=kK k.s e bu pe} else k
def CO(k:Kv)(e bu pe:Int):Int:=if 0<=e/\e<4 then sP k.s e bu pe else 1
theorem RJ(h:cE F w hb m g c k rs)(v:gE k.s)(e bu pe:Int):aG prog 32 #[.pointer hb,e, .agg #[bu,pe]] w (ES F hb m g c (lV k e bu pe) rs (.int .i64 (CO k e bu pe)) w):=by
 have j:=aX w (aI #[bu,pe] 112);have bk:=bC.new w 112 #[bu,pe];have p:cE (Fb F w) (w.alloc (aI #[bu,pe] 112)) hb m g c k rs:=(cE.bX hb m g c k rs).box h h.fl _;have H1:=aP (And.intro p (h.below j).2);have C:=aP v;have i:=aP (xD p e);have y:=bk.cell 0 _ rfl;have z:=bk.cell 1 _ rfl;clear h p v j bk;by_cases hc:0<=e/\e<4
 .obtain⟨n,rfl⟩:=aaO hc.1;have D:n<4:=aQ;unfold lV CO;rw[aaK hc,aaK hc];rw[vQ hb D] at i;clear hc;go_enter func32,ntmps32
  go_upto_region 1 with(fail)
  generalize w.alloc (aI #[bu,pe] 112)=w1 at *;generalize w.heap.size=q1 at *;go_wp2_with fail
  refine aR i ?_;rintro x q ⟨rfl,a⟩;have r:=aP (And.intro (H1.o.1.below (a.drew)).1 (H1.o.2.trans ((H1.o.1.below a.drew).2.unbox)));have A:=bD a y;have B:=bD a z;clear a i H1 y z;obtain⟨G,gs,hs,d0,d6,back⟩:=r.o.1.sd;have c0:=r.o.1.c0;unfold pA at c0;have E:=aP (IM hs C.o n bu pe);have t:=aP (λs' w' h k=>back s' w' h k);clear hs back;go_upto_region 3 with(fail)
  go_region_held3 (λW=>W.cell? (hb,0)=some (.pointer m)/\W.cell? (m,0)=some (.pointer g)/\W.cell? (g,6)=some (.pointer gs)/\W.cell? (q1,0)=some (.int .i64 bu)/\W.cell? (q1,1)=some (.int .i64 pe)) (first|exact⟨c0,d0,d6,A,B⟩|exact⟨‹_›,‹_›,‹_›,‹_›,‹_›⟩) ((first|(go_at_call 11;(refine aS (rI (by first|exact d0|assumption)) ?_);rintro x u ⟨rfl,rfl⟩)|(go_at_call 67;(refine aR E ?_);rintro x u ⟨rfl,d,l⟩;have f:=aP (t.o _ _ d l).1;have f0:=(t.o _ _ d l).2.1;have f6:=(t.o _ _ d l).2.2;have H:=f.o.1.c0;unfold pA at H;have z0:=f.o.2.cell A (.inr rfl);have J:=f.o.2.cell B (.inr rfl);have I:aH (cE F u hb m g c {k with s:=kK k.s n bu pe} rs/\Kp F w u):=⟨f.o.1.less λb hb=> .inl hb,r.o.2.trans f.o.2.unbox⟩;clear d l f)))
  go_wp2_with fail
  go_ret
  exact⟨rfl,I.o⟩
 .rw[rY hb hc] at i;unfold lV CO;rw[aaL hc,aaL hc];clear hc;go_enter func32,ntmps32
  go_upto_region 1 with(fail)
  generalize w.alloc (aI #[bu,pe] 112)=w1 at *;generalize w.heap.size=q1 at *;go_wp2_with fail
  refine aR i ?_;rintro x q ⟨rfl,a⟩;have f:aH (cE F q hb m g c k rs/\Kp F w q):=⟨(H1.o.1.below a).1.less λb hb=> .inl hb,H1.o.2.trans (H1.o.1.below a).2.unbox⟩
  clear a i H1;go_wp2_with fail
  go_ret
  exact⟨rfl,f.o⟩
end
end
variable{r':Rm}{P:Program}{Q:Exit->Act->aA->Prop}
section
theorem Dq:Pa.Cp.Ww Ta:=⟨rfl,λv a=>by rw[abI a];omega⟩
theorem Pb{A:List Rm}(h:∀r∈A,vZ r):(A.flatMap kB).length=A.length *15:=by
 induction A with
 |nil=>rfl
 |cons r A a=>
  rw[abK,aaT,wJ (h r aT),a (λr b=>h r (by simp[b])),abM];omega
theorem TM(P M a S:List aC)(h:M.length=a.length):lay (P++(M++S)).toArray P.length a=(P++(a++S)).toArray:=by
 apply aeD;intro j;rw[lay_get? _ _ _ _ bL];split
 .rename_i d;rw[aaY,aaS aQ,abC aQ]
 .rename_i d;rw[aaY,aaY];by_cases b:j<P.length
  .rw[abC b,abC b]
  .rw[aaS aQ,aaS aQ,aaS aQ,aaS aQ,h]
theorem Of(m:Nat)(c:Int)(h:∀r∈rs,vZ r)(hi:i<rs.length)(ok:vZ r'):lay (mF m c rs) (2+i *15) (kB r')=mF m c (rs.set i r'):=by
 have a:mF m c rs=(([pA m,Value.int .i64 c]++(rs.take i).flatMap kB)++(kB rs[i]++(rs.drop (i+1)).flatMap kB)).toArray:=by
  have e:rs=rs.take i++rs[i]::rs.drop (i+1):=by rw[List.getElem_cons_drop,List.take_append_drop]
  have b:rs.flatMap kB=(rs.take i).flatMap kB++(kB rs[i]++(rs.drop (i+1)).flatMap kB):=by rw[<-abK,<-aeW,<-e]
  unfold mF Be;rw[b,abA]
 have d:rs.set i r'=rs.take i++r'::rs.drop (i+1):=List.set_eq_take_append_cons_drop.trans (aaK hi);have f:(rs.take i).length=i:=bL;have j:([pA m,Value.int .i64 c]++(rs.take i).flatMap kB).length=2+i *15:=by
  rw[aaT,Pb (λr l=>h r (aeR l)),f];simp
 have key:=TM ([pA m,Value.int .i64 c]++(rs.take i).flatMap kB) (kB rs[i]) (kB r') ((rs.drop (i+1)).flatMap kB) (by rw[wJ (h _ (aaM hi)),wJ ok]);rw[j] at key;rw[a];refine key.trans ?_;unfold mF Be;rw[d,aeW,abK,abA]
theorem MW{ops:Array Oper}{rest:List Oper}{op:Oper}{a:Act}{b o:Nat}(n:Nat)(d:op.guard=none)(ty:aN)(x y:Operand)(ho:op.op= .store ty x y)(cells:Array aC)(e:a.eval x= .pointer (some ⟨b,o,none⟩))(f:a.eval y= .agg cells)(i:w.there b o n)(j:cells.size=n)(hi:(P.info? ty).map (·.size)=some n)(h1:cells.all (·.oneCell')=true)(h:wpList P ops Q rest (a.put op.dst undef) (w.setCells b o cells.toList)):wpList P ops Q (op::rest) a w:=by
 subst j;exact wpList_store_mid d ty x y ho b o cells e f i hi h1 h
theorem Ay{α:Type _}(a b a' y z:α)(Y Z:List α)(hi:i<Y.length):(((a::b::(Y++Z)).set (i+2) y).set (Y.length+i+2) z).set 0 a'=a'::b::(Y.set i y++Z.set i z):=by
 simp only[aaN,aaP];rw[ac9 _ _ hi,aa6 _ _ aT];simp
section
variable{F:Nat->Prop}{w w0 w':aA}{hb m g:Nat}{c:Int}{k:Kv}{rs:List Rm}
theorem Kh(hb m g:Nat)(c:Int)(k:Kv)(hi:i<rs.length)(a:Rm):(((zD hb m g c k rs).set (2+i) (xU a)).set (2+rs.length+i) (xG a)).set 0 (PB hb 139 (mF m c (rs.set i a)))=zD hb m g c k (rs.set i a):=by
 have e:=Ay (PB hb 139 (mF m c rs)) (NA m g c k) (PB hb 139 (mF m c (rs.set i a))) (xU a) (xG a) (rs.map xU) (rs.map xG) (i:=i) (by simpa using hi);rw[abT] at e;rw[show 2+i=i+2 by omega,show 2+rs.length+i=rs.length+i+2 by omega];unfold zD;rw[ab1,ab1];exact e
theorem cE.there(h:cE F w hb m g c k rs)(hi:i<8):w.there hb (2+i *15) 15:=λj a=>by
 have:=h.Aw hi;rw[h.Y7 hi a (v:=(kB (bT rs i))[j]'(by rw[wJ this];exact a)) (aaG _)];exact⟨rfl,h.fz _⟩
theorem cE.fresh(h:cE F w0 hb m g c k rs)(n:aD w0 w0 w)(hi:i<8)(a:Rm)(ok:vZ a)(p:(YW a (λb=>b<w0.heap.size) w/\a.cA=none/\a.C= [])\/(a.l=none/\Eo a (λb=>b<w0.heap.size) w)):cE F (w.setCells hb (2+i *15) (kB a)) hb m g c k (rs.set i a)/\Kp F w0 (w.setCells hb (2+i *15) (kB a)):=by
 have e:i<rs.length:=by rw[h.l8];exact hi
 have o1:Ob (((zD hb m g c k rs).set (2+i) (xU a)).set (2+rs.length+i) (xG a)) F w/\Kp F w0 w:=by
  rcases p with⟨p,u,B⟩|⟨u,p⟩
  .obtain⟨G,f,back⟩:=h.o.use (2+i) _ (QE hb m g c k e);have t:Ol G w0:=f.1;obtain⟨b1,b2⟩:=back (xU a) w ⟨λb hb=>aaJ (t b hb) n.size,λx f=>by
    obtain⟨y,D⟩:=p.2 x f;exact⟨y,D.sub λb hb=>t b hb⟩⟩ (t.below n)
   obtain⟨v,s,d⟩:=b1.use (2+rs.length+i) (xG rs[i]) (by rw[acP aQ];exact Bj hb m g c k e);have j:Ol v w:=s.1;obtain⟨b3,A⟩:=d (xG a) w ⟨j,by rw[u,B];exact λE=>absurd E aT,λq hq=>by rw[u] at hq;cases hq⟩ (Kp.refl _ _);exact⟨b3,b2⟩
  .obtain⟨G,f,back⟩:=h.o.use (2+i) _ (QE hb m g c k e);have t:Ol G w0:=f.1;obtain⟨b1,b2⟩:=back (xU a) w0 ⟨t,λx f=>by rw[u] at f;cases f⟩ (Kp.refl _ _);obtain⟨v,s,d⟩:=b1.use (2+rs.length+i) (xG rs[i]) (by rw[acP aQ];exact Bj hb m g c k e);have j:Ol v w0:=s.1;obtain⟨b3,A⟩:=d (xG a) w ⟨λb hb=>aaJ (j b hb) n.size,p.2.1,λq hq=>⟨(p.2.2 q hq).1,λH=>(p.2.2 q hq).2 (j q H)⟩⟩ (j.below n);exact⟨b3,A⟩
 obtain⟨o1,I⟩:=o1;obtain⟨G,f,back⟩:=o1.use 0 (PB hb 139 (mF m c rs)) (by rw[acP aQ,acP aQ];rfl);have f:mI hb 139 (mF m c rs) G w:=f;have J:bC (w.setCells hb (2+i *15) (kB a)) hb 139 (mF m c (rs.set i a)):=by
  have:=jJ hb 139 (kB a) (2+i *15) w _ f.b;rw[Of m c h.ok e ok] at this;exact this
 obtain⟨s1,s2⟩:=f.eV J (iR hb (kB a) (2+i *15) w w (bE w hb));obtain⟨b1,b2⟩:=back (PB hb 139 (mF m c (rs.set i a))) _ s1 s2;refine⟨⟨by rw[Kh hb m g c k e a] at b1;exact b1,by simp[h.l8],λr z=>?_⟩,I.trans b2⟩;rcases abW z with z|rfl
 .exact h.ok r z
 .exact ok
end
end
section
variable{F:Nat->Prop}{w w0 w':aA}{hb m g:Nat}{c:Int}{k:Kv}{rs:List Rm}
theorem cE.Yl(h:cE F w hb m g c k rs)(hi:i<8)(f:j<15)(v:aC)(a:Rm)(d:kB a=(kB (bT rs i)).set j v)(ok:vZ a)(h1:xU a=xU (bT rs i))(e:xG a=xG (bT rs i)):cE F (w.setCell (hb,2+i *15+j) v) hb m g c k (rs.set i a)/\Kp F w (w.setCell (hb,2+i *15+j) v):=by
 have b:i<rs.length:=by rw[h.l8];exact hi
 rw[<-vY b] at d h1 e;exact h.put b f v a d ok h1 e
end
def J0(x:Lb)(gl:Nat)(sv:aC)(od:Int):Rm:=⟨some x,gl,sv,od,0,none,0, [],Ta,0,false⟩
theorem Ph(x:Lb)(gl:Nat)(sv:aC)(od:Int):vZ (J0 x gl sv od):=⟨Dq,by simp[J0],λv a=>by simp[J0] at a⟩
def yW(rs:List Rm)(e:Int)(ts:List Tk)(od:Int):Bool:=decide (0<=e/\e<4)&&((bT rs e.toNat).l.isNone&&(decide ((bT rs e.toNat).C.length=0)&&(qD ts&&decide (od=0\/od=1))))
def D0(rs:List Rm)(e:Int)(ts:List Tk)(od:Int):Int:=if 0<=e/\e<4 then(if(bT rs e.toNat).l.isNone=true then(if(bT rs e.toNat).C.length=0 then(if qD ts=true/\(od=0\/od=1) then 0 else 1) else 22) else 7) else 1
def P2(rs:List Rm)(e:Int)(ts:List Tk)(od:Int)(gl:Nat)(sv:aC):List Rm:=if yW rs e ts od=true then rs.set e.toNat (J0 (mT ts od) gl sv od) else rs
variable{A:Option aJ}
section
variable{F:Nat->Prop}{w w0 w':aA}{hb m g:Nat}{c:Int}{k:Kv}{rs:List Rm}
theorem Bv(h:cE F w hb m g c k rs)(e:Int){L:List Tm}(cw:Nat)(ht:wS w A L)(hl:L.length<=1000)(P:∀x∈L,x.t.se.length<=1000000)(od:Int):
 aG prog 33 #[.pointer hb,e, .slice A L.length cw,od] w λr w'=>∃gl sv,ES F hb m g c k (P2 rs e (L.map Tm.t) od gl sv) (.int .i64 (D0 rs e (L.map Tm.t) od)) w r w':=by
 have D:=aP (xD h e);have J:=aP h;have T:=aP ht;have H8:=aP P;have HL:=aP hl;have K:=aP (λW (hW:wS W A L)=>Iw hW hl P cw od);clear ht hl;by_cases hc:0<=e/\e<4
 .obtain⟨n,rfl⟩:=aaO hc.1;have hn:n<4:=aQ;rw[vQ hb hn] at D;have c0:=h.TK (n:=n) aQ;have c4:=h.Zv (n:=n) aQ;unfold EL at c0;by_cases hq:(bT rs n).l.isNone=true
  .have E:=adG.1 hq;rw[E] at c0;simp only[acU] at c0;by_cases hw:(bT rs n).C.length=0
   .rw[hw] at c4;replace c4:∃A d,w.cell? (hb,2+n *15+4)=some (.slice A 0 d):=⟨_,_,c4⟩
    obtain⟨cA,cc,c4⟩:=c4;by_cases f:qD (L.map Tm.t)=true/\(od=0\/od=1)
    .have DW:aH (yW rs n (L.map Tm.t) od=true):=by unfold aH yW;rw[abD hc,aaW,hq,abD hw,f.1,abD f.2];rfl
     have U:aH (D0 rs n (L.map Tm.t) od=0):=by unfold aH D0;rw[aaK hc,aaW,aaK hq,aaK hw,aaK f]
     rw[U.o];unfold P2;simp only[aaK DW.o,aaK f,aaW] at K⊢;generalize mT (L.map Tm.t) od=X at *;have HC:=aP (λW (hW:wS W A L)=>Gd A L cw W hW.o (by have:=HL.o;omega));clear h P hc hq E hw f DW U;go_enter func33,ntmps33
     go_wp2_with(go_at_call 55;(refine aR D ?_);rintro x w2 ⟨rfl,a⟩;(have d0:=bD a c0);(have d4:=bD a c4);(have s:=bH (J.o.below a) (T.o.keep a));(clear a D J c0 c4))
     refine aS (K.o _ s.o.2) ?_;rintro x w3 ⟨gl,y,rfl,V,G⟩;have H:=bH V G;clear V G d4 K;go_wp2_with fail
     refine aS (HC.o _ (s.o.2.keep H.o.2)) ?_;rintro x w4 ⟨B,d,rfl,own,Y⟩;have H4:=bH own Y;clear own Y HC d0;go_upto_region 13 with(fail)
     go_loopw [13,43] (λ_ v43 wr=>∃(j:Nat) (M:List Tm),j<=L.length/\v43= .int .i64 j/\aH (M.length=L.length/\∀p,j<=p->M[p]?=L[p]?)/\aH (bB sI 5 wr w3.heap.size 125 B d M)/\aH (aD w3 w3 wr)) (λ_ v43 _=>L.length - (intOf v43).toNat)
     case atStart=>exact⟨0,L,aaQ _,rfl,⟨rfl,λ_ _=>rfl⟩,H4.o.1,H4.o.2⟩
     case round=>
      obtain⟨j,M,hj,rfl,Z,N,Q⟩:=hrel;by_cases O:j<L.length
      .have R:j<M.length:=by rw[Z.o.1];exact O
       obtain⟨q,hq⟩:=wC N.o aQ;have S:M[j]=L[j]:=by
        have:=Z.o.2 j (aaH _);rw[aaG R,aaG O] at this;exact Option.some.inj this
       have e3:=bG oI (by rw[hq] at N;exact N.o) R (j:=3) (v:= .slice M[j].A M[j].t.se.length M[j].c) rfl;have a1:wr.frozen? (q,j *5+3)=false:=(cH (by rw[hq] at N;exact N.o) (j *5+3) (by have:=N.o.cap;omega)).2;rw[S] at e3;have HS:=aP (PO L[j].A L[j].t.se L[j].c wr (((s.o.2.keep H.o.2).keep Q.o).sl _ (aaM O)) (by have:=H8.o _ (aaM O);omega));have HX:aH (M[j]=L[j]):=S;have j0:(0:Int)<=j:=aQ;have j1:(j:Int)<(L.length:Int):=aQ;have j2:(j:Int)<1000:=by have:=HL.o;omega
       subst hq;clear S;generalize hx:L[j]=x at *;replace hx:=aP hx;obtain⟨xt,xA,xc⟩:=x;simp only at e3 HS;have hql:=(N.o.lt q rfl)
       go_wp2_with fail
       refine aR HS ?_;rintro v w5 ⟨B2,d2,rfl,own5,I⟩;have O5:=aP (N.o.keep I);have f3:w5.frozen? (q,j *5+3)=false:=((VG I).2 q _ hql.2).trans a1;have e5:=bD I e3;have HB5:=aP ((Q.o.trans (I.mono Q.o.size)));clear own5 I e3 a1;go_wp2_with fail
       have hx3:sI ⟨xt,B2,d2⟩=(sI M[j]).set 3 (.slice B2 xt.se.length d2):=by rw[HX.o];rfl
       obtain⟨o7,g7⟩:=qR oI.len O5.o R (j:=3) aQ ⟨xt,B2,d2⟩ (.slice B2 xt.se.length d2) hx3;refine⟨⟨j+1,M.set j ⟨xt,B2,d2⟩,aQ,rfl,⟨by rw[aaV];exact Z.o.1,λp hp=>by rw[acP aQ];exact Z.o.2 p aQ⟩,?_,HB5.o.grown g7 HB5.o.size (λr hr=>by injection hr with hr;omega)⟩,by simp only[intOf];omega⟩;exact o7
      .obtain rfl:j=L.length:=aQ;have H6:=aP (s.o.1.1.fresh (H.o.2.trans (Q.o.mono H.o.2.size)) (i:=n) aQ (J0 X gl (.slice B L.length d) od) (Ph _ _ _ _) (.inl ⟨⟨λb hb=>aaJ hb (aaR H.o.2.size Q.o.size),λz E=>⟨y,by injection E with E;exact E ▸ H.o.1.below Q.o⟩⟩,rfl,rfl⟩));have ht:=(s.o.1.1.below (H.o.2.trans (Q.o.mono H.o.2.size))).1.there (i:=n) aQ;have hw4:wr.setCells hb (2+n *15) (kB (J0 X gl (.slice B L.length d) od))=wr.setCells hb (2+n *15) (#[.pointer (some ⟨gl,0,none⟩), .slice B L.length d,od,aU,bA,cO,cO,cO,cO,cO,cO,cO,cO,aU,false]:Array aC).toList:=rfl;rw[hw4] at H6;clear N Z hw4;go_wp2_with(refine MW 15 rfl 136 _ _ rfl #[.pointer (some ⟨gl,0,none⟩), .slice B L.length d,od,aU,bA,cO,cO,cO,cO,cO,cO,cO,cO,aU,false] rfl rfl ?_ rfl aV aV ?_;with_reducible exact ht)
       generalize wr.setCells hb (2+n *15) (#[.pointer (some ⟨gl,0,none⟩), .slice B L.length d,od,aU,bA,cO,cO,cO,cO,cO,cO,cO,cO,aU,false]:Array aC).toList=w8 at *;go_wp2_with fail
       go_ret
       exact⟨gl,_,rfl,H6.o.1,s.o.1.2.trans H6.o.2⟩
    .have zN:aH (yW rs n (L.map Tm.t) od=false):=by
      unfold aH yW;cases h1:qD (L.map Tm.t) with
      |false=>simp
      |true=>rw[aa0 (λh2=>f ⟨h1,h2⟩)];simp
     have u:aH (D0 rs n (L.map Tm.t) od=1):=by unfold aH D0;rw[aaK hc,aaW,aaK hq,aaK hw,aaL f]
     rw[u.o];simp only[aaL f] at K;clear hq E hw f;unfold P2;simp only[zN.o,abB,ab4];clear h P hc;go_enter func33,ntmps33
     go_wp2_with(go_at_call 55;(refine aR D ?_);rintro x w2 ⟨rfl,a⟩;(have d0:=bD a c0);(have d4:=bD a c4);(have s:=bH (J.o.below a) (T.o.keep a));(clear a D J c0 c4))
     refine aS (K.o _ s.o.2) ?_;rintro x w3 ⟨rfl,G⟩;have H:=aP (s.o.1.1.below G);clear G K;go_wp2_with fail
     go_ret
     exact⟨0, .int .i64 0,rfl,H.o.1,s.o.1.2.trans H.o.2⟩
   .have zN:aH (yW rs n (L.map Tm.t) od=false):=by unfold aH yW;rw[aaW,aa0 hw];simp
    have u:aH (D0 rs n (L.map Tm.t) od=22):=by unfold aH D0;rw[aaK hc,aaW,aaK hq,aaL hw]
    rw[u.o];replace c4:∃A d z,0<z/\w.cell? (hb,2+n *15+4)=some (.slice A z d):=⟨_,_,_,aQ,c4⟩
    obtain⟨cA,cc,z,hz0,c4⟩:=c4;have z0:(0:Int)<(z:Int):=aQ;clear hq E hw hz0 K;unfold P2;simp only[zN.o,abB,ab4];clear h P hc;go_enter func33,ntmps33
    go_wp2_with(go_at_call 55;(refine aR D ?_);rintro x w2 ⟨rfl,a⟩;(have d0:=bD a c0);(have d4:=bD a c4);(have s:=bH (J.o.below a) (T.o.keep a));(clear a D J c0 c4))
    go_ret
    exact⟨0, .int .i64 0,rfl,s.o.1⟩
  .have zN:aH (yW rs n (L.map Tm.t) od=false):=by unfold aH yW;rw[aaW,Bool.not_eq_true] at *;rw[hq];simp
   have u:aH (D0 rs n (L.map Tm.t) od=7):=by unfold aH D0;rw[aaK hc,aaW,aaL hq]
   rw[u.o];obtain⟨l,E⟩:∃l,(bT rs n).l=some l:=Option.ne_none_iff_exists'.1 (by simpa using hq);rw[E] at c0;simp only[abL] at c0;clear hq E K;unfold P2;simp only[zN.o,abB,ab4];clear h P hc;go_enter func33,ntmps33
   go_wp2_with(go_at_call 55;(refine aR D ?_);rintro x w2 ⟨rfl,a⟩;(have d0:=bD a c0);(have d4:=bD a c4);(have s:=bH (J.o.below a) (T.o.keep a));(clear a D J c0 c4))
   go_ret
   exact⟨0, .int .i64 0,rfl,s.o.1⟩
 .rw[rY hb hc] at D;have zN:aH (yW rs e (L.map Tm.t) od=false):=by unfold aH yW;rw[aa0 hc,Bool.false_and]
  have u:aH (D0 rs e (L.map Tm.t) od=1):=by unfold aH D0;rw[aaL hc]
  rw[u.o];have c0:True:=trivial;have c4:True:=trivial;clear K;unfold P2;simp only[zN.o,abB,ab4];clear h P hc;go_enter func33,ntmps33
  go_wp2_with(go_at_call 55;(refine aR D ?_);rintro x w2 ⟨rfl,a⟩;(have s:=bH (J.o.below a) (T.o.keep a));(clear a D J c0 c4))
  go_ret
  exact⟨0, .int .i64 0,rfl,s.o.1⟩
end
variable{x:Lb}{B:Option aJ}
section
def tD(rs:List Rm)(i:Nat)(x:Lb):List Rm:=rs.set i {bT rs i with l:=some x}
def Q5(rs:List Rm)(i:Nat)(v:Int):List Rm:=rs.set i {bT rs i with sn:=v}
theorem yX(h:i<rs.length)(r:Rm):bT (rs.set i r) i=r:=by unfold bT;simp[h]
theorem GX(h:i≠j)(r:Rm):bT (rs.set i r) j=bT rs j:=by unfold bT;rw[aaU,acP h,aaU]
def JA(rs:List Rm)(e t d:Int):Int:=if 0<=e/\e<4 then(match(bT rs e.toNat).l with|none=>6|some x=>(oN x t d).1) else 1
def vC(rs:List Rm)(e t d:Int):List Rm:=if 0<=e/\e<4 then(match(bT rs e.toNat).l with|none=>rs|some x=>tD rs e.toNat (oN x t d).2) else rs
section
variable{F:Nat->Prop}{w w0 w':aA}{hb m g:Nat}{c:Int}{k:Kv}{rs:List Rm}
theorem cE.Lo(h:cE F w hb m g c k rs)(hi:i<8)(d:(bT rs i).l=some x):∃G y,bP G w (bT rs i).g x y/\(∀(b:Lb) (w':aA),(∃f,bP G w' (bT rs i).g b f)->Kp G w w'->cE F w' hb m g c k (tD rs i b)/\Kp F w w'):=by
 have a:i<rs.length:=by rw[h.l8];exact hi
 rw[<-vY a] at d;obtain⟨G,y,h1,j⟩:=h.lb a d;refine⟨G,y,by rw[<-vY a];exact h1,λb w' e n=>?_⟩;rw[<-vY a] at e;obtain⟨b1,b2⟩:=j b w' e n;rw[vY a] at b1;exact⟨b1,b2⟩
theorem cE.YB(h:cE F w hb m g c k rs)(a:n<8)(b:(bT rs n).l=some x):w.cell? (hb,2+n *15)=some (.pointer (some ⟨(bT rs n).g,0,none⟩)):=by
 have:=h.TK a;unfold EL at this;rw[b] at this;exact this
theorem cE.Zi(h:cE F w hb m g c k rs)(a:n<8):w.cell? (hb,2+n *15+3)=some (.int .i64 (bT rs n).sn):=h.Y7 (j:=3) a aQ rfl
theorem cE.Lx(h:cE F w hb m g c k rs)(hi:i<8)(v:Int):cE F (w.setCell (hb,2+i *15+3) v) hb m g c k (Q5 rs i v)/\Kp F w (w.setCell (hb,2+i *15+3) v):=
 h.Yl hi aQ _ _ rfl ⟨(h.Aw hi).rg,(h.Aw hi).cl,(h.Aw hi).cr⟩ rfl rfl
theorem Js(h:cE F w hb m g c k rs)(e t d:Int)(B:∀x,(bT rs e.toNat).l=some x->∃n,n<=2900/\lN x n):aG prog 42 #[.pointer hb, .agg #[e,t,d]] w (ES F hb m g c k (vC rs e t d) (.int .i64 (JA rs e t d)) w):=by
 have r:=aX w (aI #[e,t,d] 126);have bk:=bC.new w 126 #[e,t,d];have q:cE (Fb F w) (w.alloc (aI #[e,t,d] 126)) hb m g c k rs:=(cE.bX hb m g c k rs).box h h.fl _;have H1:=aP (And.intro q (h.below r).2);have j:=aP (xD q e);have P:=bk.cell 0 _ rfl;have H:=bk.cell 1 _ rfl;have I:=bk.cell 2 _ rfl;clear h r bk;by_cases hc:0<=e/\e<4
 .obtain⟨n,rfl⟩:=aaO hc.1;have Q:n<4:=aQ;unfold vC JA;rw[aaK hc,aaK hc];rw[vQ hb Q] at j;rw[aaW] at *;clear hc;cases s:(bT rs n).l with
  |none=>
   have c0:=q.TK (n:=n) aQ;unfold EL at c0;rw[s] at c0;simp only[acU] at c0;simp only;clear q B s;go_enter func42,ntmps42
   go_upto_region 1 with(fail)
   generalize w.alloc (aI #[n,t,d] 126)=w1 at *;generalize w.heap.size=q1 at *;go_wp2_with fail
   refine aR j ?_;rintro x p ⟨rfl,a⟩;have f:aH (cE F p hb m g c k rs/\Kp F w p):=⟨(H1.o.1.below a).1.less λb hb=> .inl hb,H1.o.2.trans (H1.o.1.below a).2.unbox⟩
   have d0:=bD a c0;clear a j H1 c0;go_wp2_with fail
   go_ret
   exact⟨rfl,f.o⟩
  |some x=>
   obtain⟨Y,u,z⟩:=B x s;have D:=aP z;have R:=aP u;have E:=aP s;simp only;clear q B s u z;go_enter func42,ntmps42
   go_upto_region 1 with(fail)
   generalize w.alloc (aI #[n,t,d] 126)=w1 at *;generalize w.heap.size=q1 at *;go_wp2_with fail
   refine aR j ?_;rintro v p ⟨rfl,a⟩;have C:=aP (And.intro (H1.o.1.below (a.drew)).1 (H1.o.2.trans ((H1.o.1.below a.drew).2.unbox)));have J:=bD a H;have K:=bD a I;clear a j H1 P H I;have c0:p.cell? ⟨hb,2+n *15,none⟩=some (.pointer (some ⟨(bT rs n).g,0,none⟩)):=C.o.1.YB (n:=n) aQ E.o;obtain⟨G,y,A,back⟩:=C.o.1.Lo (i:=n) aQ E.o;have S:=aP (Ii A D.o R.o t d);have T:=aP (λU w' h k=>back U w' h k);have L:aH ((bT (tD rs n (oN x t d).2) n).l=some (oN x t d).2/\(bT (tD rs n (oN x t d).2) n).g=(bT rs n).g):=by
    unfold aH tD;rw[yX (by rw[C.o.1.l8];omega)];exact⟨rfl,rfl⟩
   generalize (bT rs n).g=gl at *;clear A back E;go_upto_region 6 with(fail)
   go_region_held3 (λW=>W.cell? ⟨hb,2+n *15,none⟩=some (.pointer gl)/\W.cell? (q1,1)=some (.int .i64 t)/\W.cell? (q1,2)=some (.int .i64 d)) (first|exact⟨c0,J,K⟩|exact⟨‹_›,‹_›,‹_›⟩) ((go_at_call 27;(refine aR S ?_);rintro v M ⟨rfl,N,O⟩;have f:=aP (T.o _ _ N O);have V:=f.o.1.YB (n:=n) aQ L.o.1;rw[L.o.2] at V;have z0:=f.o.2.cell J (.inr rfl);have Z:=f.o.2.cell K (.inr rfl);have X:aH (cE F M hb m g c k (tD rs n (oN x t d).2)/\Kp F w M):=⟨f.o.1.less λb hb=> .inl hb,C.o.2.trans f.o.2.unbox⟩;clear N O f))
   go_wp2_with fail
   go_ret
   exact⟨rfl,X.o⟩
 .rw[rY hb hc] at j;unfold vC JA;rw[aaL hc,aaL hc];clear hc q B;go_enter func42,ntmps42
  go_upto_region 1 with(fail)
  generalize w.alloc (aI #[e,t,d] 126)=w1 at *;generalize w.heap.size=q1 at *;go_wp2_with fail
  refine aR j ?_;rintro x p ⟨rfl,a⟩;have f:aH (cE F p hb m g c k rs/\Kp F w p):=⟨(H1.o.1.below a).1.less λb hb=> .inl hb,H1.o.2.trans (H1.o.1.below a).2.unbox⟩
  clear a j H1;go_wp2_with fail
  go_ret
  exact⟨rfl,f.o⟩
def wG(rs:List Rm)(n:Nat)(x:Lb):List Ev:=AY x (bT rs n).sn
def Ks(F:Nat->Prop)(hb m g:Nat)(c:Int)(k:Kv)(rs:List Rm)(n:Nat)(x:Lb)(w:aA)(e:Ending)(w':aA):Prop:=∃B d,e= .returned (.slice B (wG rs n x).length d)/\bB rD 4 w' w.heap.size 165 B d (wG rs n x)/\cE (cB F B) w' hb m g c k (Q5 rs n (wrap64 ((bT rs n).sn+(wG rs n x).length)))/\Kp F w w'
theorem cE.Th(h:cE F w hb m g c k rs)(b:aD w w w')(d:∀q,aZ B=some q->w.heap.size<=q/\q<w'.heap.size):cE (cB F B) w' hb m g c k rs:=
 cE.bX hb m g c k rs F (λr=>r<w.heap.size) (cB F B) w w' h (Kp.dD b λ_ h=>h) (λr a _=>a) (λr a=>a.elim (λa=>aaJ (h.fl r a) b.size) (λa=>(d r a).2)) (λr a f i=>i.elim f (λe=>by have:=(d r e).1;omega))
theorem Ee(h:cE F w hb m g c k rs)(p:n<8)(r:(bT rs n).l=some x)(t:x.lg.length<=4000000000):aG prog 46 #[.pointer (some ⟨hb,2+n *15,none⟩)] w (Ks F hb m g c k rs n x w):=by
 have c0:=h.YB p r;have c3:=h.Zi p;obtain⟨G,y,i,_⟩:=h.Lo p r;have u:=aP (Gw (i.below (Below.refl _ _).drew) t (bT rs n).sn);have z:aH (wG rs n x=AY x (bT rs n).sn):=rfl;have j:=aP h;have A:=aP p;unfold Ks;rw[z.o];generalize (bT rs n).sn=sn at *;generalize (bT rs n).g=gl at *;have b:aD w w w.drew:=(Below.refl _ _).drew;clear h i r t z;generalize AY x sn=E at *;go_enter func46,ntmps46
 go_upto_region 1 with(fail)
 go_region_held3 (λW=>W.cell? (hb,2+n *15)=some (.pointer gl)/\W.cell? (hb,2+n *15+3)=some (.int .i64 sn)) (first|exact⟨c0,c3⟩|exact⟨‹_›,‹_›⟩) ((go_at_call 80;(refine aR u ?_);rintro v s ⟨B,d,rfl,own,a⟩;(have C:=bD (b.trans a) c0);(have L:=bD (b.trans a) c3);(have f:=bH (show bB rD 4 s w.heap.size 165 B d E from own) (b.trans a));clear own a))
 have f3:s.frozen? (hb,2+n *15+3)=false:=(j.o.below f.o.2).1.fz _;have D:=aP ((j.o.Th f.o.2 (λq hq=>f.o.1.lt q hq)).Lx A.o (wrap64 (sn+E.length)));have H:=aP ((j.o.below f.o.2).1.Lx A.o (wrap64 (sn+E.length)));have I:=aP (j.o.below f.o.2).2;have J:=j.o.bk.lt;clear C c0 c3 u;go_wp2_with fail
 go_ret
 refine⟨B,d,rfl,f.o.1.kept (aY (bE s hb) _ _) ?_,D.o.1,I.o.trans H.o.2⟩;cases K:aZ B with
 |none=>exact .inl rfl
 |some q=>exact .inr (λe=>by injection e with e;have:=(f.o.1.lt q K).1;omega)
end
end
variable{sz q:Nat}{cs:Array aC}
section
theorem Re{α:Type}{enc:α->List aC}{base c:Nat}{e:aN}{xs:List α}(h:bB enc sz w base e A c xs)(hq:aZ A=some q):∃cur,w.heap[q]?=some (.cells cur e):=by
 obtain⟨_,h|⟨g,cap,cur,h1,_,a,_⟩⟩:=h
 .obtain⟨h,_⟩:=h;injection h with h;rw[h] at hq;cases hq
 .injection h1 with h1;rw[h1] at hq;injection hq with hq;subst hq;exact⟨cur,a⟩
theorem UP{α:Type}{enc:α->List aC}{base c a:Nat}{e s:aN}{xs:List α}(h:bB enc sz w base e A c xs)(h1:bC w a s cs)(hs:s≠e):aZ A≠some a:=λhq=>by
 obtain⟨cur,b⟩:=Re h hq;have:=h1.symm.trans b;injection this with this;injection this with _ this;exact hs this
end
variable{F:Nat->Prop}
section
def jT:List Rm:=List.replicate 8 PS
theorem Py:vZ PS:=⟨Dq,by simp[PS],λv a=>by simp[PS] at a⟩
theorem Ob.XM:∀(a l:List Pt),Ob l F w->(∀p∈a,∀G,Ol G w->p.X G w)->Ob (l++a) F w
 | [],l,h,_=>by rw[acX];exact h
 |p::a,l,h,hp=>by
  have h1:=h.add (p:=p) (hp p aT _ (λb d=>d)) (Below.refl _ _);have c:=Ob.XM a (l++ [p]) h1 (λq hq=>hp q (by simp[hq]));rw[abA] at c;exact c
theorem Ik(w:aA)(c:Int)(hc:1<=c/\c<=64):aG prog 34 #[.agg #[.int .i64 6, .int .i64 2, .int .i64 4],c] w λe w'=>∃j m g p0,e= .returned (.tuple #[.pointer (some ⟨j,0,none⟩),aU])/\cE (λb=>b<w.heap.size) w' j m g c (pY p0) jT/\aD w w w':=by
 have n:=aX w (aI #[.int .i64 6, .int .i64 2, .int .i64 4] 60);have z:=bC.new w 60 #[.int .i64 6, .int .i64 2, .int .i64 4];have k:=aP n;have z0:=z.cell 0 (.int .i64 6) rfl;have N:=z.cell 1 (.int .i64 2) rfl;have z2:=z.cell 2 (.int .i64 4) rfl;have E:=aP hc;clear n z hc;go_enter func34,ntmps34
 go_upto_region 1 with(fail)
 generalize w.alloc (aI #[.int .i64 6, .int .i64 2, .int .i64 4] 60)=A at *;generalize hq:w.heap.size=q at *;have B:=aP (XL A c E.o);go_wp2_with fail
 refine aR B ?_;rintro e a ⟨m,g,p0,rfl,s,d⟩;have t:aH (Ob [NA m g c (pY p0)] (λb=>b<q) a):=by
  have H:q<=A.heap.size:=by have:=k.o.size;omega
  have:=(Ob.none (F:=λb=>b<q) (w:=A) (λb j=>by show b<_;omega) (λb j=>by omega)).add (p:=NA m g c (pY p0)) ((gC.bX m g c (pY p0)) _ (λ_=>True) _ a a s (Kp.refl _ _) (λ_ _ _=>trivial) (λb j=>aaJ j d.size) (λr _ I J=>I J)) d;exact this
 have l:aH (aD q w a):=by
  have h1:=k.o;exact h1.trans (d.mono (by have:=h1.size;omega))
 have f:=aX a (aI (mF m c jT) 139);have u:aH (cE (λb=>b<q) (a.alloc (aI (mF m c jT) 139)) a m g c (pY p0) jT):=by
  have h:=t.o.add (p:=PB a.heap.size 139 (mF m c jT)) (PB.mk (bC.new a _ _) (λb j=>aaJ j f.size) (acA _)) f;have K:Ob [PB a.heap.size 139 (mF m c jT),NA m g c (pY p0)] (λb=>b<q) (a.alloc (aI (mF m c jT) 139)):=by
   refine h.reorder (λi=>1 - i) (λi=>1 - i) ?_;intro i p hp;match i,hp with
   |0,hp=>exact⟨hp,rfl⟩
   |1,hp=>exact⟨hp,rfl⟩
   |i+2,hp=>simp at hp
  refine⟨Ob.XM (jT.map xU++jT.map xG) _ K (λp hp G C=>?_),rfl,λr v=>by rw[abI v];exact Py⟩;rcases aa8.1 hp with hp|hp
  .obtain⟨r,v,rfl⟩:=ac1.1 hp;rw[abI v];exact⟨C,λx L=>by cases L⟩
  .obtain⟨r,v,rfl⟩:=ac1.1 hp;rw[abI v];exact⟨C,λM=>absurd M (by simp[PS]),λq hq=>by cases hq⟩
 have y:aH (aD q w (a.alloc (aI (mF m c jT) 139))):=l.o.trans (f.mono (by have:=l.o.size;omega));have D:mF m c jT=(zeroCells139.setIfInBounds 0 (.pointer (some ⟨m,0,none⟩))).setIfInBounds 1 (.int .i64 c):=aV;rw[D] at u y;clear s d f D t B k l;go_wp2_with fail
 go_ret2
 rw[hq];exact⟨_,m,g,p0,rfl,u.o,y.o⟩
end
variable{G:Nat->Prop}{A9 AR AW AX:Option aJ}{c9 q1 n':Nat}{r:Option Nat}{ws:List (Int×Int×Int)}{wr w6 wE:aA}{s:Sd}{k':Kv}{rn:Rn}{fn:Func}
section
def NQ(hb m g:Nat)(c:Int)(k:Kv)(rs:List Rm):Pt:=⟨λF w=>cE F w hb m g c k rs,cE.bX hb m g c k rs⟩
def OR(x:Int×Ev):List aC:= .int .i64 x.1::rD x.2
theorem By:eY OR 5:=⟨λ_=>rfl,λx u hu=>by simp[OR,rD] at hu;rcases hu with rfl|rfl|rfl|rfl|rfl <;> rfl⟩
theorem Xv:jM prog 74 167 5 40:=gA (z:= .agg #[aU,aU,aU,aU,aU]) underlying74 aV (by simp[Value.cells]) aQ
structure uL where
 A:Option aJ
 n:Nat
 c:Nat
def nU:uL:=⟨none,0,0⟩
structure Ou where
 rn:Rn
 S:uL
 R:uL
 W:uL
 A:uL
 tk:Int
 nu:Int
 T:uL
 st:Int
 x:Int
 y:Int
 z:Int
def Ou.sA(oz:Ou)(s:uL):Ou:={oz with A:=s}
def Ou.sT(oz:Ou)(s:uL):Ou:={oz with T:=s}
def Ou.sJ(oz:Ou)(tk nu:Int):Ou:={oz with tk:=tk,nu:=nu}
def Ou.sS(oz:Ou)(rn:Rn)(S R W:uL):Ou:={oz with rn:=rn,S:=S,R:=R,W:=W}
def Ou.sB(oz:Ou)(st x y z:Int):Ou:={oz with st:=st,x:=x,y:=y,z:=z}
def jK(oz:Ou):List aC:= [.int .i64 oz.rn.env, .bool oz.rn.ch, .slice oz.S.A oz.S.n oz.S.c, .slice oz.R.A oz.R.n oz.R.c, .slice oz.W.A oz.W.n oz.W.c, .slice oz.A.A oz.A.n oz.A.c, .int .i64 oz.tk, .int .i64 oz.nu, .slice oz.T.A oz.T.n oz.T.c, .int .i64 oz.st, .int .i64 oz.x, .int .i64 oz.y, .int .u64 oz.z]
def sZ(t:Int):Ou:=⟨⟨0,false⟩,nU,nU,nU,nU,t,0,nU,0,0,0,0⟩
def Wp(hb m g:Nat)(c:Int)(k:Kv)(rs:List Rm)(q:Nat)(oz:Ou)(D:List Int)(E:List (Int×Ev)):List Pt:= [NQ hb m g c k rs,PB q 79 (jK oz).toArray,PR eI 1 45 oz.A.A oz.A.c D,PR OR 5 167 oz.T.A oz.T.c E]
structure dZ(F:Nat->Prop)(w:aA)(hb m g:Nat)(c:Int)(k:Kv)(rs:List Rm)(q:Nat)(oz:Ou)(D:List Int)(E:List (Int×Ev)):Prop where
 ob:Ob (Wp hb m g c k rs q oz D E) F w
 a:oz.A.n=D.length
 t:oz.T.n=E.length
theorem Ob.OZ{l:List Pt}(h:Ob l F w)(i:Nat)(p:Pt)(hp:l[i]?=some p):∃G,(∀b,F b->G b)/\p.X G w/\(∀(s:Pt) (w':aA) (X:Nat->Prop),(∀b,X b->w.heap.size<=b)->s.X (λb=>G b\/X b) w'->Ol (λb=>G b\/X b) w'->Kp G w w'->Ob (l.set i s) (λb=>F b\/X b) w'/\Kp F w w'):=by
 obtain⟨A,h⟩:=h;refine⟨_,λb hb=>⟨(h.1 b hb).1,by rw[(h.1 b hb).2];omega⟩,h.get i hp,λs w' X B C t k=>⟨⟨λb=> @ite Nat (X b) (Classical.propDecidable _) 0 (nx w A (i+1) b),λb hb=>?_,λm q hm=>?_⟩,h.1.kp k aQ⟩⟩
 .rcases hb with hb|hb
  .have h1:=h.1 b hb;refine⟨aaJ h1.1 k.size,?_⟩;simp only;split
   .rfl
   .rw[yO h1.1,h1.2]
  .exact⟨t b (.inr hb),by simp only;rw[aaK hb]⟩
 .rw[adA] at hm;split at hm
  .rename_i e;subst e;split at hm
   .injection hm with hm;subst hm;refine s.bX _ (λ_=>True) _ w' w' C (Kp.refl _ _) (λ_ _ _=>trivial) (Fo.ol _ _ _) (λr d f u=>?_);have a:=u.2;simp only at a;have v:¬X r:=λhc=>f (.inr hc)
    rw[aaL v] at a;rcases ac0 r w with j|y
    .rw[yO j] at a;exact f (.inl ⟨j,a⟩)
    .exact a (KQ y)
   .cases hm
  .rename_i z;refine q.bX _ _ _ w w' (h.2 m q hm) k (λr d f=>⟨d,λe=>f ⟨d,λI=>z aQ⟩⟩) (Fo.ol _ _ _) (λr d f u=>?_);have h1:A r=m+1:=aa4 λhc=>f ⟨d,hc⟩
   have a:=u.2;simp only at a;rw[aaL (λhc=>by have:=B r hc;omega),yO d] at a;exact a h1
theorem cE.Zx{c:Int}{k:Kv}(h:cE F w hb m g c k rs):∃G,(∀b,F b->G b)/\gC G w m g c k/\∀(k':Kv) (B:Option aJ) (w':aA),(∀b,aZ B=some b->w.heap.size<=b)->gC (cB G B) w' m g c k'->Kp G w w'->cE (cB F B) w' hb m g c k' rs/\Kp F w w':=by
 obtain⟨G,hs,d,back⟩:=h.o.OZ 1 _ rfl;refine⟨G,hs,d,λk' B w' e a f=>?_⟩;obtain⟨b1,b2⟩:=back (NA m g c k') w' (λb=>aZ B=some b) e a a.ol f;exact⟨⟨b1,h.l8,h.ok⟩,b2⟩
theorem Ob.PL{l:List Pt}(h:Ob l F w)(a:∀b,G b->F b):Ob l G w:=Ob.bX _ F (λ_=>True) G w w h (Kp.refl _ _) (λ_ _ _=>trivial) (λb hb=>h.fl b (a b hb)) (λr _ d e=>d (a r e))
section
variable{F:Nat->Prop}{w w' w9:aA}{hb m g q:Nat}{c:Int}{k:Kv}{rs:List Rm}{oz:Ou}{D:List Int}{E:List (Int×Ev)}
theorem dZ.less(h:dZ F w hb m g c k rs q oz D E)(d:∀b,G b->F b):dZ G w hb m g c k rs q oz D E:=⟨h.ob.PL d,h.a,h.t⟩
theorem dZ.below(h:dZ F w hb m g c k rs q oz D E)(b:aD w w w'):dZ F w' hb m g c k rs q oz D E/\Kp F w w':=⟨⟨h.ob.below b,h.a,h.t⟩,h.ob.NH b⟩
theorem dZ.box(h:dZ F w hb m g c k rs q oz D E)(x:Obj):dZ (Fb F w) (w.alloc x) hb m g c k rs q oz D E:=⟨(Ob.bX _).box h.ob h.ob.fl x,h.a,h.t⟩
theorem dZ.bk(h:dZ F w hb m g c k rs q oz D E):bC w q 79 (jK oz).toArray:=by
 obtain⟨a,h1⟩:=h.ob;exact(h1.get 1 (p:=PB q 79 (jK oz).toArray) rfl).b
theorem dZ.ho(h:dZ F w hb m g c k rs q oz D E):∃G,cE G w hb m g c k rs/\∀(k':Kv) (b:List Rm) (w':aA),cE G w' hb m g c k' b->Kp G w w'->dZ F w' hb m g c k' b q oz D E/\Kp F w w':=by
 obtain⟨G,d,back⟩:=h.ob.use 0 _ rfl;refine⟨G,d,λk' b w' e f=>?_⟩;obtain⟨b1,b2⟩:=back (NQ hb m g c k' b) w' e f;exact⟨⟨b1,h.a,h.t⟩,b2⟩
theorem dZ.Xb(h:dZ F w hb m g c k rs q oz D E):∃G,(∀b,F b->G b)/\cE G w hb m g c k rs/\∀(k':Kv) (d:List Rm) (B:Option aJ) (w':aA),(∀b,aZ B=some b->w.heap.size<=b)->cE (cB G B) w' hb m g c k' d->Kp G w w'->dZ (cB F B) w' hb m g c k' d q oz D E/\Kp F w w':=by
 obtain⟨G,hs,f,back⟩:=h.ob.OZ 0 _ rfl;refine⟨G,hs,f,λk' d B w' i e j=>?_⟩;obtain⟨b1,b2⟩:=back (NQ hb m g c k' d) w' (λb=>aZ B=some b) i e e.fl j;exact⟨⟨b1,h.a,h.t⟩,b2⟩
theorem dZ.st(h:dZ F w hb m g c k rs q oz D E):∃G,(∀b,F b->G b)/\gC G w m g c k/\∀(k':Kv) (B:Option aJ) (w':aA),(∀b,aZ B=some b->w.heap.size<=b)->gC (cB G B) w' m g c k'->Kp G w w'->dZ (cB F B) w' hb m g c k' rs q oz D E/\Kp F w w':=by
 obtain⟨p,s1,h1,b1⟩:=h.Xb;obtain⟨d,s2,e,b2⟩:=h1.Zx;refine⟨d,λb hb=>s2 b (s1 b hb),e,λk' B w' a f i=>?_⟩;obtain⟨j,l⟩:=b2 k' B w' a f i;exact b1 k' rs B w' a j l
theorem Ob.single{p:Pt}(h:p.X F w)(fl:Ol F w):Ob [p] F w:=by
 refine⟨λb=> @ite Nat (F b) (Classical.propDecidable _) 0 1,λb hb=>⟨fl b hb,aaK hb⟩,λi e hp=>?_⟩;cases i with
 |succ i=>simp at hp
 |zero=>
  simp at hp;subst hp;refine p.bX F (λ_=>True) _ w w h (Kp.refl _ _) (λ_ _ _=>trivial) (Fo.ol _ _ _) (λr f a d=>?_);have:=d.2;simp only at this;rw[aaL a] at this;exact this rfl
theorem dZ.start(h:cE F w hb m g c k rs)(t:Int):dZ F (w.alloc (aI (jK (sZ t)).toArray 79)) hb m g c k rs w (sZ t) [] []/\Kp F w (w.alloc (aI (jK (sZ t)).toArray 79)):=by
 have a:=aX w (aI (jK (sZ t)).toArray 79);have h1:=(Ob.single (p:=NQ hb m g c k rs) h h.fl).add (p:=PB w.heap.size 79 (jK (sZ t)).toArray) (PB.mk (bC.new w _ _) (λb hb=>aaJ hb a.size) (acA _)) a;have e:=Ob.XM [PR eI 1 45 none 0 [],PR OR 5 167 none 0 []] _ h1 (λp hp G d=>by
  simp only[acD,List.not_mem_nil,or_false] at hp;rcases hp with rfl|rfl
  .exact fT.nil d
  .exact fT.nil d)
 exact⟨⟨e,rfl,rfl⟩,(h.below a).2⟩
theorem dZ.put(h:dZ F w hb m g c k rs q oz D E)(b:Ou)(d:b.A=oz.A)(e:b.T=oz.T)(f:bC w' q 79 (jK b).toArray)(i:w.grownBy w' (some q)):dZ F w' hb m g c k rs q b D E/\Kp F w w':=by
 obtain⟨G,j,back⟩:=h.ob.use 1 _ rfl;obtain⟨s1,s2⟩:=mI.eV j f i;obtain⟨b1,b2⟩:=back (PB q 79 (jK b).toArray) w' s1 s2;refine⟨⟨?_,by rw[d];exact h.a,by rw[e];exact h.t⟩,b2⟩;unfold Wp at b1⊢;rw[d,e];exact b1
theorem dZ.FC(h:dZ F w hb m g c k rs q oz D E):bB eI 1 w 0 45 oz.A.A oz.A.c D:=by
 obtain⟨a,h1⟩:=h.ob;exact(h1.get 2 (p:=PR eI 1 45 oz.A.A oz.A.c D) rfl).o
theorem dZ.yR(h:dZ F w hb m g c k rs q oz D E):bB OR 5 w 0 167 oz.T.A oz.T.c E:=by
 obtain⟨a,h1⟩:=h.ob;exact(h1.get 3 (p:=PR OR 5 167 oz.T.A oz.T.c E) rfl).o
theorem dZ.Gu(h:dZ F w hb m g c k rs q oz D E){v:Int}(d:bB eI 1 w9 0 45 A9 c9 (D++ [v]))(i:w.grownBy w9 (aZ oz.A.A))(j:aZ A9=aZ oz.A.A\/aZ A9=some w.heap.size)(l:n=(D++ [v]).length):(∃v,w9.cell? (q,5)=some v)/\w9.frozen? (q,5)=false/\dZ F (w9.setCell (q,5) (.slice A9 n c9)) hb m g c k rs q (oz.sA ⟨A9,n,c9⟩) (D++ [v]) E/\Kp F w (w9.setCell (q,5) (.slice A9 n c9)):=by
 obtain⟨G,r,back⟩:=h.ob.use 2 _ rfl;obtain⟨s1,s2⟩:=fT.eV r d i j;obtain⟨b1,b2⟩:=back (PR eI 1 45 A9 c9 (D++ [v])) w9 s1 s2;have f:bC w9 q 79 (jK oz).toArray:=by
  obtain⟨y,h1⟩:=b1;exact(h1.get 1 (p:=PB q 79 (jK oz).toArray) rfl).b
 obtain⟨z,e,a⟩:=b1.use 1 (PB q 79 (jK oz).toArray) rfl;obtain⟨t1,t2⟩:=mI.set (cs':=(jK (oz.sA ⟨A9,n,c9⟩)).toArray) e 5 (.slice A9 n c9) (by rw[aaI];rfl);obtain⟨s,u⟩:=a (PB q 79 (jK (oz.sA ⟨A9,n,c9⟩)).toArray) _ t1 t2;exact⟨⟨_,f.cell 5 _ rfl⟩,f.frozen 5,⟨s,l,h.t⟩,b2.trans u⟩
theorem dZ.Jr(h:dZ F w hb m g c k rs q oz D E){v:Int×Ev}(e:bB OR 5 w9 0 167 A9 c9 (E++ [v]))(j:w.grownBy w9 (aZ oz.T.A))(l:aZ A9=aZ oz.T.A\/aZ A9=some w.heap.size)(r:n=(E++ [v]).length):(∃v,w9.cell? (q,8)=some v)/\w9.frozen? (q,8)=false/\dZ F (w9.setCell (q,8) (.slice A9 n c9)) hb m g c k rs q (oz.sT ⟨A9,n,c9⟩) D (E++ [v])/\Kp F w (w9.setCell (q,8) (.slice A9 n c9)):=by
 obtain⟨G,s,back⟩:=h.ob.use 3 _ rfl;obtain⟨s1,s2⟩:=fT.eV s e j l;obtain⟨b1,b2⟩:=back (PR OR 5 167 A9 c9 (E++ [v])) w9 s1 s2;have i:bC w9 q 79 (jK oz).toArray:=by
  obtain⟨y,h1⟩:=b1;exact(h1.get 1 (p:=PB q 79 (jK oz).toArray) rfl).b
 obtain⟨z,f,d⟩:=b1.use 1 (PB q 79 (jK oz).toArray) rfl;obtain⟨t1,t2⟩:=mI.set (cs':=(jK (oz.sT ⟨A9,n,c9⟩)).toArray) f 8 (.slice A9 n c9) (by rw[aaI];rfl);obtain⟨t,u⟩:=d (PB q 79 (jK (oz.sT ⟨A9,n,c9⟩)).toArray) _ t1 t2;exact⟨⟨_,i.cell 8 _ rfl⟩,i.frozen 8,⟨t,h.a,r⟩,b2.trans u⟩
theorem dZ.o(h:dZ F w hb m g c k rs q oz D E):cE (cB F oz.A.A) w hb m g c k rs:=by
 obtain⟨d,h1⟩:=h.ob;have j:cE (Fo w d 1) w hb m g c k rs:=h1.get 0 (p:=NQ hb m g c k rs) rfl;have f:fT eI 1 45 oz.A.A oz.A.c D (Fo w d 3) w:=h1.get 2 (p:=PR eI 1 45 oz.A.A oz.A.c D) rfl;refine j.less λb hb=>?_
 rcases hb with hb|hb
 .have a:=h1.1 b hb;exact⟨a.1,by rw[a.2];omega⟩
 .have a:=f.nf b hb;have i:=(f.o.lt b hb).2;refine⟨i,λe=>a ⟨i,by rw[e];omega⟩⟩
end
section
variable{F F3 H:Nat->Prop}{w w' w9 w6 wr wE:aA}{hb m g q:Nat}{c:Int}{k:Kv}{rs:List Rm}{oz:Ou}{D:List Int}{E:List (Int×Ev)}{S:Option aJ}
theorem dZ.grow(h:dZ F w hb m g c k rs q oz D E)(hw:aD w w w'):dZ (Nw F w w') w' hb m g c k rs q oz D E:=⟨dV.grow (Ob.bX _) h.ob h.ob.fl hw,h.a,h.t⟩
theorem dZ.gr(h:dZ F w hb m g c k rs q oz D E)(d:w.grownBy w' r)(e:∀q,r=some q->F q)(fl:Ol H w')(hH:∀b,b<w.heap.size->H b->F b):dZ H w' hb m g c k rs q oz D E:=⟨dV.gr (Ob.bX _) h.ob d e fl hH,h.a,h.t⟩
theorem xQ.up{rs:List Int}{xs:List Wd}(h:xQ F w AR rs AW ws AX xs)(a:∀b,F b->G b):xQ G w AR rs AW ws AX xs:=
 ⟨h.r,λq hq=>a q (h.rF q hq),h.wt,λq hq=>a q (h.wF q hq),h.x,λq hq=>a q (h.xF q hq),λz d=>⟨(h.y z d).1,λq hq=>a q ((h.y z d).2.1 q hq),(h.y z d).2.2⟩⟩
theorem Sx(h:dZ (cB (Nw F3 wr wr.drew) S) w6 hb m g c k rs q oz D E)(a:Kp (Nw F3 wr wr.drew) wr.drew w6)(x:Obj):dZ (Fb (cB F3 S) w6.heap.size) (w6.alloc x) hb m g c k rs q oz D E/\Kp F3 wr (w6.alloc x):=by
 have h1:dZ (cB F3 S) w6 hb m g c k rs q oz D E:=h.less λb hb=>hb.elim (λh=> .inl (.inl h)) .inr
 exact⟨h1.box x,((Kp.refl F3 wr).drew.trans (a.mono λb hb=> .inl hb)).trans ((h1.below (aX w6 x)).2.mono λb hb=> .inl hb)⟩
theorem Sf{x:Obj}(fl:Ol F3 wr)(h:dZ (cB (Nw F3 wr (wr.alloc x).drew) S) w6 hb m g c k rs q oz D E)(f:Kp (Nw F3 wr (wr.alloc x).drew) (wr.alloc x).drew w6)(a:w6.grownBy wE (some wr.heap.size)):dZ (Fb (cB F3 S) wr.heap.size) wE hb m g c k rs q oz D E/\Kp F3 wr wE:=by
 have i:Nw F3 wr (wr.alloc x).drew wr.heap.size:= .inr ⟨aaH _,(show wr.heap.size<(wr.alloc x).heap.size by simp)⟩;have j:(wr.alloc x).heap.size<=w6.heap.size:=f.size;have d:wr.heap.size<w6.heap.size:=aaJ aT j;refine⟨h.gr a (λq hq=>by injection hq with hq;exact .inl (hq ▸ i)) (λb hb=>?_) (λb _ hb=>?_),((Kp.dD (aX wr x).drew fl).trans (f.mono λb hb=> .inl hb)).trans (Kp.grown a λb hb=>⟨by have:=fl b hb;omega,λe=>by injection e with e;have:=fl b hb;omega⟩)⟩
 .refine aaJ ?_ a.size;rcases hb with(hb|hb)|rfl
  .have:=fl b hb;omega
  .exact h.ob.fl b (.inr hb)
  .exact d
 .rcases hb with(hb|hb)|rfl
  .exact .inl (.inl hb)
  .exact .inr hb
  .exact .inl i
end
theorem Uy{α:Type}{enc:α->List aC}{c:Nat}{e:aN}{xs:List α}{x:Obj}(h:bB enc sz w6 (wr.alloc x).drew.heap.size e A c xs)(a:w6.grownBy wE (some wr.heap.size))(hq:q1<=wr.heap.size):bB enc sz wE q1 e A c xs:=by
 have hs:(wr.alloc x).drew.heap.size=wr.heap.size+1:=(show(wr.alloc x).heap.size=_ by simp)
 refine(h.kept a ?_).from_ aQ;cases b:aZ A with
 |none=>exact .inl rfl
 |some r=>exact .inr (λe=>by injection e with e;have:=(h.lt r b).1;omega)
def lL(rs:List Rm)(qs:List (Int×Int×Int)):List Rm:=qs.foldl (λrs a=>vC rs a.1 a.2.1 a.2.2) rs
def tU(rs:List Rm):List (Int×Int×Int)->List Int
 | []=> []
 |a::qs=>JA rs a.1 a.2.1 a.2.2::tU (vC rs a.1 a.2.1 a.2.2) qs
theorem Bt(rs:List Rm)(qs:List (Int×Int×Int))(a:Int×Int×Int):lL rs (qs++ [a])=vC (lL rs qs) a.1 a.2.1 a.2.2:=by unfold lL;rw[acQ];rfl
theorem OT(a:Int×Int×Int):∀(qs:List (Int×Int×Int)) (rs:List Rm),tU rs (qs++ [a])=tU rs qs++ [JA (lL rs qs) a.1 a.2.1 a.2.2]
 | [],rs=>rfl
 |x::qs,rs=>by
  show JA rs x.1 x.2.1 x.2.2::tU (vC rs x.1 x.2.1 x.2.2) (qs++ [a])=_;rw[OT a qs];rfl
theorem RB:∀(qs:List (Int×Int×Int)) (rs:List Rm),(tU rs qs).length=qs.length
 | [],rs=>rfl
 |x::qs,rs=>by
  show(tU (vC rs x.1 x.2.1 x.2.2) qs).length+1=_;rw[RB qs];rfl
def xP(rs:List Rm)(n:Nat)(T:Int):Prop:=∀i x,(bT rs i).l=some x->lN x n/\x.nw<=T
theorem lN.up(h:lN x n)(a:n<=n'):lN x n':=eA.mono h (λ_=>a) (λ_=>a) a aQ aQ
theorem xP.up{T:Int}(h:xP rs n T)(b:n<=n')(d:T<=e):xP rs n' e:=λi x a=>⟨(h i x a).1.up b,by have:=(h i x a).2;omega⟩
theorem Oy(x:Lb)(t d:Int):(oN x t d).2.nw=x.nw:=by
 unfold oN;split
 .rfl
 .split
  .rfl
  .split <;> rfl
theorem xP.ask{T:Int}(h:xP rs n T)(f:rs.length=8)(e t d:Int):xP (vC rs e t d) (n+1) T:=by
 unfold vC;split
 .split
  .exact h.up (ab2 _) (ab0 _)
  .rename_i he x b;intro i y a;unfold tD at a;by_cases hi:e.toNat=i
   .subst hi;rw[yX aQ] at a;injection a with a;subst a;exact⟨(h _ x b).1.ask t d,by rw[Oy];exact(h _ x b).2⟩
   .rw[GX hi] at a;exact⟨(h i y a).1.up (ab2 _),(h i y a).2⟩
 .exact h.up (ab2 _) (ab0 _)
theorem RK(rs:List Rm)(e t d:Int):(vC rs e t d).length=rs.length:=by
 unfold vC;split
 .split
  .rfl
  .unfold tD;rw[aaV]
 .rfl
theorem Fx(qs:List (Int×Int×Int)):∀rs:List Rm,(lL rs qs).length=rs.length:=by
 induction qs with
 |nil=>intro rs;rfl
 |cons a qs b=>intro rs;exact(b _).trans (RK ..)
theorem xP.asks{T:Int}(qs:List (Int×Int×Int)):∀{rs:List Rm} {n:Nat},xP rs n T->rs.length=8->xP (lL rs qs) (n+qs.length) T:=by
 induction qs with
 |nil=>intro rs n h _;exact h
 |cons a qs d=>
  intro rs n h b;have:=d (h.ask b a.1 a.2.1 a.2.2) ((RK ..).trans b);exact this.up (by simp only[abM];omega) (ab0 _)
def lY(s:Sd)(rs:List Rm):Nat->Sd
 |0=>s
 |i+1=>match(bT rs i).l with
  |none=>lY s rs i
  |some x=>gS (lY s rs i) i (nF x).isSome
theorem MF(h:gE s)(hp:s.P.length=4)(rs:List Rm):∀n,gE (lY s rs n)/\(lY s rs n).P.length=4/\(lY s rs n).nw=s.nw
 |0=>⟨h,hp,rfl⟩
 |i+1=>by
  obtain⟨h1,a,b⟩:=MF h hp rs i;unfold lY;split
  .exact⟨h1,a,b⟩
  .obtain⟨d,e⟩:=GM h1 a i (nF _).isSome;exact⟨d,e,(yL _ _ _).trans b⟩
def rT(rs:List Rm)(i:Nat)(x:Lb):List Rm:=Q5 rs i (wrap64 ((bT rs i).sn+(wG rs i x).length))
def UO(rs:List Rm)(e:Int)(i:Nat)(x:Lb):List Rm:=tD (rT rs i x) i (jF x (decide (e=i)))
def BO(rs:List Rm)(e:Int)(i:Nat):List Rm:=match(bT rs i).l with
 |none=>rs
 |some x=>rT (UO rs e i x) i (jF x (decide (e=i)))
def ZV(rs:List Rm)(e:Int)(i:Nat):List (Int×Ev):=match(bT rs i).l with
 |none=> []
 |some x=>(wG (UO rs e i x) i (jF x (decide (e=i)))).map λv=>((i:Int),v)
def Af(rs:List Rm)(e:Int)(i:Nat)(p:Int×Int):Int×Int:=match(bT rs i).l with
 |none=>p
 |some x=>if e=i then qY x (oM x (decide (e=i))) else p
def iA(rs:List Rm)(e:Int):Nat->List Rm
 |0=>rs
 |i+1=>BO (iA rs e i) e i
def kV(rs:List Rm)(e:Int):Nat->List (Int×Ev)
 |0=> []
 |i+1=>kV rs e i++ZV (iA rs e i) e i
def mK(rs:List Rm)(e:Int):Nat->Int×Int
 |0=>(-1,0)
 |i+1=>Af (iA rs e i) e i (mK rs e i)
theorem KR(hi:i<rs.length):(bT (rT rs i x) j).l=(bT rs j).l/\(bT (rT rs i x) j).ru=(bT rs j).ru/\(bT (rT rs i x) j).g=(bT rs j).g:=by
 unfold rT Q5;by_cases h:i=j
 .subst h;rw[yX hi];exact⟨rfl,rfl,rfl⟩
 .rw[GX h];exact⟨rfl,rfl,rfl⟩
theorem Pn(rs:List Rm)(e:Int)(i:Nat):(BO rs e i).length=rs.length:=by
 unfold BO rT UO tD rT Q5;split
 .rfl
 .rw[aaV,aaV,aaV]
theorem JM(rs:List Rm)(e:Int):∀n,(iA rs e n).length=rs.length
 |0=>rfl
 |i+1=>(Pn _ _ _).trans (JM rs e i)
theorem Qx(hi:i<rs.length):(bT (BO rs e i) j).l=(if j=i then(bT rs i).l.map λx=>jF x (decide (e=i)) else(bT rs j).l)/\(bT (BO rs e i) j).ru=(bT rs j).ru:=by
 unfold BO;cases b:(bT rs i).l with
 |none=>
  simp only;refine⟨?_,by first|rfl|trivial⟩;split
  .rename_i h;subst h;rw[b];rfl
  .rfl
 |some x=>
  simp only;have h1:i<(rT rs i x).length:=by unfold rT Q5;rw[aaV];exact hi
  have d:i<(UO rs e i x).length:=by unfold UO tD;rw[aaV];exact h1
  have a:=KR (j:=j) (x:=jF x (decide (e=i))) d;have a2:=KR (j:=j) (x:=x) hi;rw[a.1,a.2.1];unfold UO tD;by_cases h:i=j
  .subst h;rw[yX h1,aaK rfl];exact⟨rfl,(KR (j:=i) (x:=x) hi).2.1⟩
  .rw[GX h,aaL (ae5 h)];exact⟨a2.1,a2.2.1⟩
theorem LV(j:Nat):∀n,n<=rs.length->(bT (iA rs e n) j).l=(if j<n then(bT rs j).l.map λx=>jF x (decide (e=j)) else(bT rs j).l)/\(bT (iA rs e n) j).ru=(bT rs j).ru
 |0,_=>⟨by rw[aaL aQ];rfl,rfl⟩
 |n+1,hn=>by
  obtain⟨h1,f⟩:=LV j n aQ;have a:=Qx (rs:=iA rs e n) (e:=e) (i:=n) (j:=j) (by rw[JM];omega);show(bT (BO (iA rs e n) e n) j).l=_/\(bT (BO (iA rs e n) e n) j).ru=_;rw[a.1,a.2,f];refine⟨?_,rfl⟩;by_cases b:j=n
  .subst b;rw[aaK rfl,aaK aQ,h1,aaL aQ]
  .rw[aaL b,h1];by_cases d:j<n
   .rw[aaK d,aaK aQ]
   .rw[aaL d,aaL aQ]
theorem Ha(rs:List Rm)(n:Nat)(x:Lb):(wG rs n x).length<=x.lg.length:=by
 unfold wG AY;split
 .exact aaQ _
 .rw[abY];omega
section
variable{F:Nat->Prop}{w w':aA}{hb m g q:Nat}{c:Int}{k:Kv}{rs:List Rm}{oz:Ou}{D:List Int}{E:List (Int×Ev)}{n:Nat}{x:Lb}
theorem dZ.r0(h:dZ F w hb m g c k rs q oz D E)(a:n<8)(b:(bT rs n).l=some x):w.cell? (hb,2+n *15)=some (.pointer (some ⟨(bT rs n).g,0,none⟩)):=by
 obtain⟨G,d,_⟩:=h.ho;exact d.YB a b
theorem dZ.news(h:dZ F w hb m g c k rs q oz D E)(a:n<8)(e:(bT rs n).l=some x)(f:x.lg.length<=4000000000):aG prog 46 #[.pointer (some ⟨hb,2+n *15,none⟩)] w λr w'=>∃B d,r= .returned (.slice B (wG rs n x).length d)/\bB rD 4 w' w.heap.size 165 B d (wG rs n x)/\dZ (cB F B) w' hb m g c k (rT rs n x) q oz D E/\Kp F w w':=by
 obtain⟨G,_,i,back⟩:=h.Xb;refine(Ee i a e f).mono ?_;rintro r w' ⟨B,d,rfl,own,j,p⟩;obtain⟨b1,b2⟩:=back _ _ B w' (λb hb=>(own.lt b hb).1) j p;exact⟨B,d,rfl,own,b1,b2⟩
theorem dZ.Uw(h:dZ F w hb m g c k rs q oz D E)(d:n<8)(e:(bT rs n).l=some x){nl:Nat}(f:lN x nl)(hk:nl<=2800)(hw:x.nw<1048576)(gv:Bool):aG prog 28 #[.pointer (some ⟨(bT rs n).g,0,none⟩),gv] w λr w'=>r= .returned (.tuple #[.int .i64 (qY x (oM x gv)).1, .int .i64 (qY x (oM x gv)).2,true])/\dZ F w' hb m g c k (tD rs n (jF x gv)) q oz D E/\Kp F w w':=by
 obtain⟨G,i,back⟩:=h.ho;obtain⟨s,y,b,a⟩:=i.Lo d e;refine(Cx b f hk hw gv).mono ?_;rintro r w' ⟨rfl,j,p⟩;obtain⟨b1,b2⟩:=a _ w' j p;exact⟨rfl,back _ _ w' b1 b2⟩
end
theorem RH(s:Sd):(cI s).1.env= -1\/∃i:Nat,(cI s).1.env=i/\i<s.P.length:=by
 unfold cI;cases a:fU (dC s).P s.P.length with
 |some q=>
  obtain⟨i,d⟩:=q;exact .inr ⟨i,rfl,(wA _ _ _ _ a).1⟩
 |none=>
  simp only;cases b:vT (dC s).P s.tu.toNat with
  |none=>exact .inl rfl
  |some e=>exact .inr ⟨e,rfl,by have:=(YX b).1;rw[uK] at this;exact this⟩
theorem qI.Qn{k:Kv}{c:Int}{xs:List Wd}{D:List (Int×Int)}(h:qI k c ws xs rn D k')(a:KI k n):rn.env= -1\/∃i:Nat,rn.env=i/\i<4:=by
 obtain⟨b,hb,rfl,_⟩:=h;have d:=(hb.ki (FQ ws a)).p4;rcases RH b.s with h|⟨i,h,hi⟩
 .exact .inl h
 .exact .inr ⟨i,h,aQ⟩
theorem below_drewN(w:aA)(n:Nat):aD w w (w.drewN n):=⟨rfl,rfl,rfl,aaH _,λ_ _=>rfl⟩
theorem xO.len{c:Int}{k:Kv}{ws:List Int}{D:List (Int×Int)}(h:xO c e k ws D k'):D.length=ws.length:=by
 induction h with
 |nil=>rfl
 |snoc _ _ _ a=>rw[aaT,aaT,a];rfl
theorem qI.To{k:Kv}{c:Int}{xs:List Wd}{D:List (Int×Int)}{M:Nat}(h:qI k c ws xs rn D k')(a:∀z∈xs,z.xs.length<=M):D.length<=M:=by
 obtain⟨f,_,_,⟨i,z,_,b,d⟩|⟨_,e,_⟩⟩:=h
 .rw[d.len];exact a z (aa1 b)
 .rw[e];exact aaQ _
theorem results_cell_tmp{a t:Tmp}{ty:aN}(h:fn.results=#[.cell a ty, .tmp t])(tmps:Array aC)(w:aA)(g:Nat)(M:List aC)(d:TypeDesc)(b:tmps.getD a undef= .pointer g)(hc:w.rangeAt g 0 M)(hu:P.underlying ty=some d)(hd:d.isRow=true)(hi:(P.info? ty).map (·.size)=some M.length):
 (results fn tmps).run P w= .ok (.tuple #[.agg M.toArray,tmps.getD t undef]) w:=by
 have:=run_loadVar_mid (P:=P) w g 0 ty M d hc hu hd hi;rw[aeL] at b;simp[results,h,b,asAddr,this]
theorem Mn(oz:Ou):(prog.info? 79).map (·.size)=some (jK oz).length:=by
 have:(prog.info? 79).map (·.size)=some 13:=aV;exact this
theorem Tv(oz:Ou):(jK oz).toArray.all (·.oneCell')=true:=by
 rw[Array.all_eq_true];intro i hi;have hi:i<13:=hi;have:i=0\/i=1\/i=2\/i=3\/i=4\/i=5\/i=6\/i=7\/i=8\/i=9\/i=10\/i=11\/i=12:=aQ;rcases this with rfl|rfl|rfl|rfl|rfl|rfl|rfl|rfl|rfl|rfl|rfl|rfl|rfl <;> rfl
theorem Bh{A:Array aC}{M:List aC}(h:A.size=M.length):lay A 0 M=M.toArray:=by
 have:=TM [] A.toList M [] (by simpa using h);simpa using this
theorem bC.laid{t:aN}{A:Array aC}{M:List aC}(h:bC w g t A)(hs:A.size=M.length):bC (w.setCells g 0 M) g t M.toArray:=by
 have:=jJ g t M 0 w _ h;rw[Bh hs] at this;exact this
end
end
end Go.Proofs.YtacgiflhgdaeaaaGreat
