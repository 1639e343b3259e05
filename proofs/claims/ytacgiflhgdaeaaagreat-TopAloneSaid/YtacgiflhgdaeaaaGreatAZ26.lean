/- Texts laid as one. -/
import Derived.Deep.MidRow
import Derived.Test.YtacgiflhgdaeaaaGreatAZ25
set_option linter.unusedVariables false
set_option linter.unusedSimpArgs false
set_option maxRecDepth 100000
set_option maxHeartbeats 20000000
namespace Go.Proofs.YtacgiflhgdaeaaaGreat
open Go.Proofs.Tryz
open Go renaming World->aA,Value->aC,Addr->aJ,TypeId->aN,Calls->aG
open Go.RowKit renaming Below->aD,Hid->aH,intOf->aL
open Go.Obj renaming cells->aI
section
open Go.RowKit Go.Lib Go.Shelf dF Fr Up Nt
variable{w:aA}{g sz q b i:Nat}{A:Option aJ}{cs ds:Array aC}{rs:List Rm}
section
theorem QB(o:Nat)(b:List aC):(w.setCells g o b).grownBy w (some g):=by
 have h:=fJ g b o w w (bK w g);exact⟨h.os.symm,h.tape.symm,h.output.symm,by rw[size_setCells];exact Zw _,λk hk a=>(h.block k (by rw[size_setCells] at hk;exact hk) a).symm⟩
theorem Ta{α:Type}{enc:α->List aC}{base c:Nat}{e:aN}{xs:List α}(h:bI enc sz w base e A c xs)(hq:aY A=some q):∃cur,w.heap[q]?=some (.cells cur e):=by
 obtain⟨_,h|⟨g,cap,cur,h1,_,a,_⟩⟩:=h
 .obtain⟨h,_⟩:=h;injection h with h;rw[h] at hq;cases hq
 .injection h1 with h1;rw[h1] at hq;injection hq with hq;subst hq;exact⟨cur,a⟩
theorem yW{a:Nat}{s t:aN}(h1:bF w a s cs)(d:bF w b t ds)(h:s≠t):a≠b:=λe=>by
 subst e;have:=h1.symm.trans d;injection this with this;injection this with _ this;exact h this
theorem BV{α:Type}{enc:α->List aC}{base c a:Nat}{e s:aN}{xs:List α}(h:bI enc sz w base e A c xs)(h1:bF w a s cs)(hs:s≠e):aY A≠some a:=λhq=>by
 obtain⟨cur,b⟩:=Ta h hq;have:=h1.symm.trans b;injection this with this;injection this with _ this;exact hs this
def E9(rs:List Rm)(i:Nat)(R:List Int)(p:Int):List Rm:=rs.set i {bE rs i with R:=R,pc:=p}
def Ko(hb m:Nat)(c:Int)(rs:List Rm)(i:Nat):Pa.Cp.Gc:=⟨hb,2+i *15+5,iB m c rs⟩
theorem Jv(hb m:Nat)(c:Int)(h:∀r∈rs,pW r)(hi:i<rs.length)(R:List Int)(p:Int):Pa.Cp.pC (Ko hb m c rs i) R p=iB m c (E9 rs i R p):=by
 have b:E9 rs i R p=rs.take i++{bE rs i with R:=R,pc:=p}::rs.drop (i+1):=List.set_eq_take_append_cons_drop.trans (Zz hi);have hl:(rs.take i).length=i:=bT;have ok:=h _ (aaF hi);rw[kK hi] at ok;have d:(iB m c rs).toList=(([pA m,Value.int .i64 c]++(rs.take i).flatMap fZ)++ [pZ (bE rs i).l (bE rs i).g,(bE rs i).sv, .int .i64 (bE rs i).od, .int .i64 (bE rs i).sn, .slice (bE rs i).cA (bE rs i).C.length (bE rs i).cc])++(((bE rs i).R.map (Value.int .u64)++ [Value.int .i64 (bE rs i).pc])++(.bool (bE rs i).ru::(rs.drop (i+1)).flatMap fZ)):=by
  have e:rs=rs.take i++bE rs i::rs.drop (i+1):=by rw[<-kK hi,List.getElem_cons_drop,List.take_append_drop]
  have f:rs.flatMap fZ=(rs.take i).flatMap fZ++(fZ (bE rs i)++(rs.drop (i+1)).flatMap fZ):=by rw[<-aa0,<-adG,<-e]
  unfold iB NB;rw[f];simp[fZ]
 have n:(([pA m,Value.int .i64 c]++(rs.take i).flatMap fZ)++ [pZ (bE rs i).l (bE rs i).g,(bE rs i).sv, .int .i64 (bE rs i).od, .int .i64 (bE rs i).sn, .slice (bE rs i).cA (bE rs i).C.length (bE rs i).cc]).length=2+i *15+5:=by
  rw[aaM,aaM,FH (λr j=>h r (adQ j)),hl];simp
 have a:=ok.rg.1;unfold Pa.Cp.pC Pa.Cp.pL Ko;simp only;rw[d,List.take_append_of_le_length aQ,aaS aQ,show 2+i *15+5+9=(([pA m,Value.int .i64 c]++(rs.take i).flatMap fZ)++ [pZ (bE rs i).l (bE rs i).g,(bE rs i).sv, .int .i64 (bE rs i).od, .int .i64 (bE rs i).sn, .slice (bE rs i).cA (bE rs i).C.length (bE rs i).cc]).length+9 by omega,List.drop_length_add_append,adS (by simp[a]),aeA (by simp[a]),adF];unfold iB NB;rw[b,adG,aa0];congr 1
 simp[fZ]
section
variable{F:Nat->Prop}{w w0 w':aA}{hb m g:Nat}{c:Int}{k:Kv}{rs:List Rm}
theorem bV.Ww(h:bV F w hb m g c k rs)(hi:i<8)(a:Rm)(ok:pW a)(h1:jB a=jB (bE rs i))(j:tP a=tP (bE rs i))(l:bF w' hb 139 (iB m c (rs.set i a)))(p:w.grownBy w' (some hb)):bV F w' hb m g c k (rs.set i a)/\Kp F w w':=by
 have b:i<rs.length:=by rw[h.l8];exact hi
 obtain⟨G,q,back⟩:=h.o.use 0 _ rfl;obtain⟨s1,s2⟩:=oF.eQ q l p;obtain⟨b1,b2⟩:=back (PB hb 139 (iB m c (rs.set i a))) _ s1 s2;have e:=QM hb m g c k b a;have s:((wT hb m g c k rs).set (2+i) (jB a)).set (2+rs.length+i) (tP a)=wT hb m g c k rs:=by
  rw[h1,j,<-kK b];have g1:=ES hb m g c k b;have g2:=J0 hb m g c k b;refine adD λn=>?_
  rw[abF,abF];split
  .rename_i d;subst d;rw[aaL,Zz (aaN.1 g2).1,g2]
  .split
   .rename_i d;subst d;rw[Zz (aaN.1 g1).1,g1]
   .rfl
 rw[s] at e;refine⟨⟨by rw[e] at b1;exact b1,by simp[h.l8],λr f=>?_⟩,b2⟩;rcases abC f with f|rfl
 .exact h.ok r f
 .exact ok
end
end
variable{F:Nat->Prop}
section
def sD:List Rm:=List.replicate 8 pK
theorem Ps:pW pK:=⟨PQ,by simp[pK],λv a=>by simp[pK] at a⟩
theorem Ob.Ho:∀(a l:List Pt),Ob l F w->(∀p∈a,∀G,Ol G w->p.X G w)->Ob (l++a) F w
 | [],l,h,_=>by rw[ac7];exact h
 |p::a,l,h,hp=>by
  have h1:=h.add (p:=p) (hp p aT _ (λb hb=>hb)) (Below.refl _ _);have c:=Ob.Ho a (l++ [p]) h1 (λq hq=>hp q (by simp[hq]));rw[abN] at c;exact c
theorem Cz(w:aA)(c:Int)(hc:1<=c/\c<=64):aG prog 34 #[.agg #[.int .i64 6, .int .i64 2, .int .i64 4],c] w λe w'=>∃hb m g p0,e= .returned (.tuple #[.pointer (some ⟨hb,0,none⟩),aU])/\bV (λb=>b<w.heap.size) w' hb m g c (oK p0) sD/\aD w w w':=by
 have l:=aX w (aI #[.int .i64 6, .int .i64 2, .int .i64 4] 60);have y:=bF.new w 60 #[.int .i64 6, .int .i64 2, .int .i64 4];have j:=aP l;have z0:=y.cell 0 (.int .i64 6) rfl;have L:=y.cell 1 (.int .i64 2) rfl;have z2:=y.cell 2 (.int .i64 4) rfl;have D:=aP hc;clear l y hc;go_enter func34,ntmps34
 go_upto_region 1 with(fail)
 generalize w.alloc (aI #[.int .i64 6, .int .i64 2, .int .i64 4] 60)=z at *;generalize hq:w.heap.size=q at *;have A:=aP (U2 z c D.o);go_wp2_with fail
 refine aR A ?_;rintro e a ⟨m,g,p0,rfl,n,d⟩;have s:aH (Ob [NL m g c (oK p0)] (λb=>b<q) a):=by
  have E:q<=z.heap.size:=by have:=j.o.size;omega
  have:=(Ob.none (F:=λb=>b<q) (w:=z) (λb hb=>by show b<_;omega) (λb hb=>by omega)).add (p:=NL m g c (oK p0)) ((gF.cD m g c (oK p0)) _ (λ_=>True) _ a a n (Kp.refl _ _) (λ_ _ _=>trivial) (λb hb=>Zy hb d.size) (λr _ H hf=>H hf)) d;exact this
 have k:aH (aD q w a):=by
  have h1:=j.o;exact h1.trans (d.mono (by have:=h1.size;omega))
 have f:=aX a (aI (iB m c sD) 139);have t:aH (bV (λb=>b<q) (a.alloc (aI (iB m c sD) 139)) a m g c (oK p0) sD):=by
  have h:=s.o.add (p:=PB a.heap.size 139 (iB m c sD)) (PB.mk (bF.new a _ _) (λb hb=>Zy hb f.size) (abX _)) f;have I:Ob [PB a.heap.size 139 (iB m c sD),NL m g c (oK p0)] (λb=>b<q) (a.alloc (aI (iB m c sD) 139)):=by
   refine h.reorder (λi=>1 - i) (λi=>1 - i) ?_;intro i p hp;match i,hp with
   |0,hp=>exact⟨hp,rfl⟩
   |1,hp=>exact⟨hp,rfl⟩
   |i+2,hp=>simp at hp
  refine⟨Ob.Ho (sD.map jB++sD.map tP) _ I (λp hp G B=>?_),rfl,λr u=>by rw[abK u];exact Ps⟩;rcases aaO.1 hp with hp|hp
  .obtain⟨r,u,rfl⟩:=acL.1 hp;rw[abK u];exact⟨B,λx J=>by cases J⟩
  .obtain⟨r,u,rfl⟩:=acL.1 hp;rw[abK u];exact⟨B,λK=>absurd K (by simp[pK]),λq hq=>by cases hq⟩
 have v:aH (aD q w (a.alloc (aI (iB m c sD) 139))):=k.o.trans (f.mono (by have:=k.o.size;omega));have C:iB m c sD=(zeroCells139.setIfInBounds 0 (.pointer (some ⟨m,0,none⟩))).setIfInBounds 1 (.int .i64 c):=aV;rw[C] at t v;clear n d f C s A j k;go_wp2_with fail
 go_ret2
 rw[hq];exact⟨_,m,g,p0,rfl,t.o,v.o⟩
end
variable{l:List Pt}{hb m c9 n q1 n' j nl:Nat}{k k':Kv}{G:Nat->Prop}{A9 AR AW AX:Option aJ}{r:Option Nat}{ws:List (Int×Int×Int)}{wr w6 wE:aA}{x:Lb}{T T':Int}{s:Sd}{rn:Rn}{P:Program}{fn:Func}
section
def NS(hb m g:Nat)(c:Int)(k:Kv)(rs:List Rm):Pt:=⟨λF w=>bV F w hb m g c k rs,bV.cD hb m g c k rs⟩
def M9(x:Int×Ev):List aC:= .int .i64 x.1::qW x.2
theorem ZV:eL M9 5:=⟨λ_=>rfl,λx u hu=>by simp[M9,qW] at hu;rcases hu with rfl|rfl|rfl|rfl|rfl <;> rfl⟩
theorem Xo:jS prog 74 167 5 40:=fU (z:= .agg #[aU,aU,aU,aU,aU]) underlying74 aV (by simp[Value.cells]) aQ
structure uY where
 A:Option aJ
 n:Nat
 c:Nat
def GL:uY:=⟨none,0,0⟩
structure Ou where
 rn:Rn
 S:uY
 R:uY
 W:uY
 A:uY
 tk:Int
 nu:Int
 T:uY
 st:Int
 x:Int
 y:Int
 z:Int
def Ou.sA(oz:Ou)(s:uY):Ou:={oz with A:=s}
def Ou.sT(oz:Ou)(s:uY):Ou:={oz with T:=s}
def Ou.sJ(oz:Ou)(tk nu:Int):Ou:={oz with tk:=tk,nu:=nu}
def Ou.sS(oz:Ou)(rn:Rn)(S R W:uY):Ou:={oz with rn:=rn,S:=S,R:=R,W:=W}
def Ou.sB(oz:Ou)(st x y z:Int):Ou:={oz with st:=st,x:=x,y:=y,z:=z}
def jW(oz:Ou):List aC:= [.int .i64 oz.rn.env, .bool oz.rn.ch, .slice oz.S.A oz.S.n oz.S.c, .slice oz.R.A oz.R.n oz.R.c, .slice oz.W.A oz.W.n oz.W.c, .slice oz.A.A oz.A.n oz.A.c, .int .i64 oz.tk, .int .i64 oz.nu, .slice oz.T.A oz.T.n oz.T.c, .int .i64 oz.st, .int .i64 oz.x, .int .i64 oz.y, .int .u64 oz.z]
def sL(t:Int):Ou:=⟨⟨0,false⟩,GL,GL,GL,GL,t,0,GL,0,0,0,0⟩
def Vl(hb m g:Nat)(c:Int)(k:Kv)(rs:List Rm)(q:Nat)(oz:Ou)(D:List Int)(E:List (Int×Ev)):List Pt:= [NS hb m g c k rs,PB q 79 (jW oz).toArray,PR eI 1 45 oz.A.A oz.A.c D,PR M9 5 167 oz.T.A oz.T.c E]
structure dV(F:Nat->Prop)(w:aA)(hb m g:Nat)(c:Int)(k:Kv)(rs:List Rm)(q:Nat)(oz:Ou)(D:List Int)(E:List (Int×Ev)):Prop where
 ob:Ob (Vl hb m g c k rs q oz D E) F w
 a:oz.A.n=D.length
 t:oz.T.n=E.length
theorem Ob.UM(h:Ob l F w)(i:Nat)(p:Pt)(hp:l[i]?=some p):∃G,(∀b,F b->G b)/\p.X G w/\(∀(o:Pt) (w':aA) (X:Nat->Prop),(∀b,X b->w.heap.size<=b)->o.X (λb=>G b\/X b) w'->Ol (λb=>G b\/X b) w'->Kp G w w'->Ob (l.set i o) (λb=>F b\/X b) w'/\Kp F w w'):=by
 obtain⟨y,h⟩:=h;refine⟨_,λb hb=>⟨(h.1 b hb).1,by rw[(h.1 b hb).2];omega⟩,h.get i hp,λo w' X z A s k=>⟨⟨λb=> @ite Nat (X b) (Classical.propDecidable _) 0 (nx w y (i+1) b),λb hb=>?_,λm q hm=>?_⟩,h.1.kp k aQ⟩⟩
 .rcases hb with hb|hb
  .have h1:=h.1 b hb;refine⟨Zy h1.1 k.size,?_⟩;simp only;split
   .rfl
   .rw[yI h1.1,h1.2]
  .exact⟨s b (.inr hb),by simp only;rw[Zz hb]⟩
 .rw[abF] at hm;split at hm
  .rename_i e;subst e;split at hm
   .injection hm with hm;subst hm;refine o.cD _ (λ_=>True) _ w' w' A (Kp.refl _ _) (λ_ _ _=>trivial) (Fo.ol _ _ _) (λr d f hf=>?_);have a:=hf.2;simp only at a;have t:¬X r:=λhc=>f (.inr hc)
    rw[aaA t] at a;rcases acW r w with j|u
    .rw[yI j] at a;exact f (.inl ⟨j,a⟩)
    .exact a (KH u)
   .cases hm
  .rename_i v;refine q.cD _ _ _ w w' (h.2 m q hm) k (λr d f=>⟨d,λe=>f ⟨d,λB=>v aQ⟩⟩) (Fo.ol _ _ _) (λr d f hf=>?_);have h1:y r=m+1:=aaW λhc=>f ⟨d,hc⟩
   have a:=hf.2;simp only at a;rw[aaA (λhc=>by have:=z r hc;omega),yI d] at a;exact a h1
theorem bV.Zb{c:Int}(h:bV F w hb m g c k rs):∃G,(∀b,F b->G b)/\gF G w m g c k/\∀(k':Kv) (B:Option aJ) (w':aA),(∀b,aY B=some b->w.heap.size<=b)->gF (cE G B) w' m g c k'->Kp G w w'->bV (cE F B) w' hb m g c k' rs/\Kp F w w':=by
 obtain⟨G,hs,d,back⟩:=h.o.UM 1 _ rfl;refine⟨G,hs,d,λk' B w' e a f=>?_⟩;obtain⟨b1,b2⟩:=back (NL m g c k') w' (λb=>aY B=some b) e a a.ol f;exact⟨⟨b1,h.l8,h.ok⟩,b2⟩
theorem Ob.VM(h:Ob l F w)(a:∀b,G b->F b):Ob l G w:=Ob.cD _ F (λ_=>True) G w w h (Kp.refl _ _) (λ_ _ _=>trivial) (λb hb=>h.fl b (a b hb)) (λr _ d hf=>d (a r hf))
section
variable{F:Nat->Prop}{w w' w9:aA}{hb m g q:Nat}{c:Int}{k:Kv}{rs:List Rm}{oz:Ou}{D:List Int}{E:List (Int×Ev)}
theorem dV.less(h:dV F w hb m g c k rs q oz D E)(d:∀b,G b->F b):dV G w hb m g c k rs q oz D E:=⟨h.ob.VM d,h.a,h.t⟩
theorem dV.below(h:dV F w hb m g c k rs q oz D E)(b:aD w w w'):dV F w' hb m g c k rs q oz D E/\Kp F w w':=⟨⟨h.ob.below b,h.a,h.t⟩,h.ob.QC b⟩
theorem dV.box(h:dV F w hb m g c k rs q oz D E)(x:Obj):dV (Fb F w) (w.alloc x) hb m g c k rs q oz D E:=⟨(Ob.cD _).box h.ob h.ob.fl x,h.a,h.t⟩
theorem dV.bk(h:dV F w hb m g c k rs q oz D E):bF w q 79 (jW oz).toArray:=by
 obtain⟨a,h1⟩:=h.ob;exact(h1.get 1 (p:=PB q 79 (jW oz).toArray) rfl).b
theorem dV.ho(h:dV F w hb m g c k rs q oz D E):∃G,bV G w hb m g c k rs/\∀(k':Kv) (b:List Rm) (w':aA),bV G w' hb m g c k' b->Kp G w w'->dV F w' hb m g c k' b q oz D E/\Kp F w w':=by
 obtain⟨G,d,back⟩:=h.ob.use 0 _ rfl;refine⟨G,d,λk' b w' e f=>?_⟩;obtain⟨b1,b2⟩:=back (NS hb m g c k' b) w' e f;exact⟨⟨b1,h.a,h.t⟩,b2⟩
theorem dV.Vw(h:dV F w hb m g c k rs q oz D E):∃G,(∀b,F b->G b)/\bV G w hb m g c k rs/\∀(k':Kv) (d:List Rm) (B:Option aJ) (w':aA),(∀b,aY B=some b->w.heap.size<=b)->bV (cE G B) w' hb m g c k' d->Kp G w w'->dV (cE F B) w' hb m g c k' d q oz D E/\Kp F w w':=by
 obtain⟨G,hs,f,back⟩:=h.ob.UM 0 _ rfl;refine⟨G,hs,f,λk' d B w' i e j=>?_⟩;obtain⟨b1,b2⟩:=back (NS hb m g c k' d) w' (λb=>aY B=some b) i e e.fl j;exact⟨⟨b1,h.a,h.t⟩,b2⟩
theorem dV.st(h:dV F w hb m g c k rs q oz D E):∃G,(∀b,F b->G b)/\gF G w m g c k/\∀(k':Kv) (B:Option aJ) (w':aA),(∀b,aY B=some b->w.heap.size<=b)->gF (cE G B) w' m g c k'->Kp G w w'->dV (cE F B) w' hb m g c k' rs q oz D E/\Kp F w w':=by
 obtain⟨o,s1,h1,b1⟩:=h.Vw;obtain⟨d,s2,e,b2⟩:=h1.Zb;refine⟨d,λb hb=>s2 b (s1 b hb),e,λk' B w' a f i=>?_⟩;obtain⟨j,l⟩:=b2 k' B w' a f i;exact b1 k' rs B w' a j l
theorem Ob.single{p:Pt}(h:p.X F w)(fl:Ol F w):Ob [p] F w:=by
 refine⟨λb=> @ite Nat (F b) (Classical.propDecidable _) 0 1,λb hb=>⟨fl b hb,Zz hb⟩,λi d hp=>?_⟩;cases i with
 |succ i=>simp at hp
 |zero=>
  simp at hp;subst hp;refine p.cD F (λ_=>True) _ w w h (Kp.refl _ _) (λ_ _ _=>trivial) (Fo.ol _ _ _) (λr e a hf=>?_);have:=hf.2;simp only at this;rw[aaA a] at this;exact this rfl
theorem dV.start(h:bV F w hb m g c k rs)(t:Int):dV F (w.alloc (aI (jW (sL t)).toArray 79)) hb m g c k rs w (sL t) [] []/\Kp F w (w.alloc (aI (jW (sL t)).toArray 79)):=by
 have a:=aX w (aI (jW (sL t)).toArray 79);have h1:=(Ob.single (p:=NS hb m g c k rs) h h.fl).add (p:=PB w.heap.size 79 (jW (sL t)).toArray) (PB.mk (bF.new w _ _) (λb hb=>Zy hb a.size) (abX _)) a;have e:=Ob.Ho [PR eI 1 45 none 0 [],PR M9 5 167 none 0 []] _ h1 (λp hp G d=>by
  simp only[acQ,List.not_mem_nil,or_false] at hp;rcases hp with rfl|rfl
  .exact gP.nil d
  .exact gP.nil d)
 exact⟨⟨e,rfl,rfl⟩,(h.below a).2⟩
theorem dV.put(h:dV F w hb m g c k rs q oz D E)(b:Ou)(d:b.A=oz.A)(e:b.T=oz.T)(f:bF w' q 79 (jW b).toArray)(i:w.grownBy w' (some q)):dV F w' hb m g c k rs q b D E/\Kp F w w':=by
 obtain⟨G,j,back⟩:=h.ob.use 1 _ rfl;obtain⟨s1,s2⟩:=oF.eQ j f i;obtain⟨b1,b2⟩:=back (PB q 79 (jW b).toArray) w' s1 s2;refine⟨⟨?_,by rw[d];exact h.a,by rw[e];exact h.t⟩,b2⟩;unfold Vl at b1⊢;rw[d,e];exact b1
theorem dV.C9(h:dV F w hb m g c k rs q oz D E):bI eI 1 w 0 45 oz.A.A oz.A.c D:=by
 obtain⟨a,h1⟩:=h.ob;exact(h1.get 2 (p:=PR eI 1 45 oz.A.A oz.A.c D) rfl).o
theorem dV.yD(h:dV F w hb m g c k rs q oz D E):bI M9 5 w 0 167 oz.T.A oz.T.c E:=by
 obtain⟨a,h1⟩:=h.ob;exact(h1.get 3 (p:=PR M9 5 167 oz.T.A oz.T.c E) rfl).o
theorem dV.Ff(h:dV F w hb m g c k rs q oz D E){v:Int}(d:bI eI 1 w9 0 45 A9 c9 (D++ [v]))(i:w.grownBy w9 (aY oz.A.A))(ha:aY A9=aY oz.A.A\/aY A9=some w.heap.size)(j:n=(D++ [v]).length):(∃v,w9.cell? (q,5)=some v)/\w9.frozen? (q,5)=false/\dV F (w9.setCell (q,5) (.slice A9 n c9)) hb m g c k rs q (oz.sA ⟨A9,n,c9⟩) (D++ [v]) E/\Kp F w (w9.setCell (q,5) (.slice A9 n c9)):=by
 obtain⟨G,l,back⟩:=h.ob.use 2 _ rfl;obtain⟨s1,s2⟩:=gP.eQ l d i ha;obtain⟨b1,b2⟩:=back (PR eI 1 45 A9 c9 (D++ [v])) w9 s1 s2;have f:bF w9 q 79 (jW oz).toArray:=by
  obtain⟨s,h1⟩:=b1;exact(h1.get 1 (p:=PB q 79 (jW oz).toArray) rfl).b
 obtain⟨u,e,a⟩:=b1.use 1 (PB q 79 (jW oz).toArray) rfl;obtain⟨t1,t2⟩:=oF.set (cs':=(jW (oz.sA ⟨A9,n,c9⟩)).toArray) e 5 (.slice A9 n c9) (by rw[Zx];rfl);obtain⟨o,r⟩:=a (PB q 79 (jW (oz.sA ⟨A9,n,c9⟩)).toArray) _ t1 t2;exact⟨⟨_,f.cell 5 _ rfl⟩,f.frozen 5,⟨o,j,h.t⟩,b2.trans r⟩
theorem dV.Dj(h:dV F w hb m g c k rs q oz D E){v:Int×Ev}(e:bI M9 5 w9 0 167 A9 c9 (E++ [v]))(j:w.grownBy w9 (aY oz.T.A))(ha:aY A9=aY oz.T.A\/aY A9=some w.heap.size)(l:n=(E++ [v]).length):(∃v,w9.cell? (q,8)=some v)/\w9.frozen? (q,8)=false/\dV F (w9.setCell (q,8) (.slice A9 n c9)) hb m g c k rs q (oz.sT ⟨A9,n,c9⟩) D (E++ [v])/\Kp F w (w9.setCell (q,8) (.slice A9 n c9)):=by
 obtain⟨G,o,back⟩:=h.ob.use 3 _ rfl;obtain⟨s1,s2⟩:=gP.eQ o e j ha;obtain⟨b1,b2⟩:=back (PR M9 5 167 A9 c9 (E++ [v])) w9 s1 s2;have i:bF w9 q 79 (jW oz).toArray:=by
  obtain⟨t,h1⟩:=b1;exact(h1.get 1 (p:=PB q 79 (jW oz).toArray) rfl).b
 obtain⟨u,f,d⟩:=b1.use 1 (PB q 79 (jW oz).toArray) rfl;obtain⟨t1,t2⟩:=oF.set (cs':=(jW (oz.sT ⟨A9,n,c9⟩)).toArray) f 8 (.slice A9 n c9) (by rw[Zx];rfl);obtain⟨r,s⟩:=d (PB q 79 (jW (oz.sT ⟨A9,n,c9⟩)).toArray) _ t1 t2;exact⟨⟨_,i.cell 8 _ rfl⟩,i.frozen 8,⟨r,h.a,l⟩,b2.trans s⟩
theorem dV.o(h:dV F w hb m g c k rs q oz D E):bV (cE F oz.A.A) w hb m g c k rs:=by
 obtain⟨d,h1⟩:=h.ob;have j:bV (Fo w d 1) w hb m g c k rs:=h1.get 0 (p:=NS hb m g c k rs) rfl;have f:gP eI 1 45 oz.A.A oz.A.c D (Fo w d 3) w:=h1.get 2 (p:=PR eI 1 45 oz.A.A oz.A.c D) rfl;refine j.less λb hb=>?_
 rcases hb with hb|hb
 .have a:=h1.1 b hb;exact⟨a.1,by rw[a.2];omega⟩
 .have a:=f.nf b hb;have i:=(f.o.lt b hb).2;refine⟨i,λe=>a ⟨i,by rw[e];omega⟩⟩
end
section
variable{F F3 H:Nat->Prop}{w w' w9 w6 wr wE:aA}{hb m g q:Nat}{c:Int}{k:Kv}{rs:List Rm}{oz:Ou}{D:List Int}{E:List (Int×Ev)}{S:Option aJ}
theorem dV.grow(h:dV F w hb m g c k rs q oz D E)(hw:aD w w w'):dV (Nw F w w') w' hb m g c k rs q oz D E:=⟨dN.grow (Ob.cD _) h.ob h.ob.fl hw,h.a,h.t⟩
theorem dV.gr(h:dV F w hb m g c k rs q oz D E)(d:w.grownBy w' r)(e:∀q,r=some q->F q)(fl:Ol H w')(hH:∀b,b<w.heap.size->H b->F b):dV H w' hb m g c k rs q oz D E:=⟨dN.gr (Ob.cD _) h.ob d e fl hH,h.a,h.t⟩
theorem BU.up{rs:List Int}{xs:List Wd}(h:BU F w AR rs AW ws AX xs)(a:∀b,F b->G b):BU G w AR rs AW ws AX xs:=
 ⟨h.r,λq hq=>a q (h.rF q hq),h.wt,λq hq=>a q (h.wF q hq),h.x,λq hq=>a q (h.xF q hq),λz d=>⟨(h.y z d).1,λq hq=>a q ((h.y z d).2.1 q hq),(h.y z d).2.2⟩⟩
theorem Qh(h:dV (cE (Nw F3 wr wr.drew) S) w6 hb m g c k rs q oz D E)(a:Kp (Nw F3 wr wr.drew) wr.drew w6)(x:Obj):dV (Fb (cE F3 S) w6.heap.size) (w6.alloc x) hb m g c k rs q oz D E/\Kp F3 wr (w6.alloc x):=by
 have h1:dV (cE F3 S) w6 hb m g c k rs q oz D E:=h.less λb hb=>hb.elim (λh=> .inl (.inl h)) .inr
 exact⟨h1.box x,((Kp.refl F3 wr).drew.trans (a.mono λb hb=> .inl hb)).trans ((h1.below (aX w6 x)).2.mono λb hb=> .inl hb)⟩
theorem Qv{x:Obj}(fl:Ol F3 wr)(h:dV (cE (Nw F3 wr (wr.alloc x).drew) S) w6 hb m g c k rs q oz D E)(f:Kp (Nw F3 wr (wr.alloc x).drew) (wr.alloc x).drew w6)(a:w6.grownBy wE (some wr.heap.size)):dV (Fb (cE F3 S) wr.heap.size) wE hb m g c k rs q oz D E/\Kp F3 wr wE:=by
 have i:Nw F3 wr (wr.alloc x).drew wr.heap.size:= .inr ⟨Zw _,(show wr.heap.size<(wr.alloc x).heap.size by simp)⟩;have j:(wr.alloc x).heap.size<=w6.heap.size:=f.size;have d:wr.heap.size<w6.heap.size:=Zy aT j;refine⟨h.gr a (λq hq=>by injection hq with hq;exact .inl (hq ▸ i)) (λb hb=>?_) (λb _ hb=>?_),((Kp.cB (aX wr x).drew fl).trans (f.mono λb hb=> .inl hb)).trans (Kp.grown a λb hb=>⟨by have:=fl b hb;omega,λe=>by injection e with e;have:=fl b hb;omega⟩)⟩
 .refine Zy ?_ a.size;rcases hb with(hb|hb)|rfl
  .have:=fl b hb;omega
  .exact h.ob.fl b (.inr hb)
  .exact d
 .rcases hb with(hb|hb)|rfl
  .exact .inl (.inl hb)
  .exact .inr hb
  .exact .inl i
end
theorem Uk{α:Type}{enc:α->List aC}{c:Nat}{e:aN}{xs:List α}{x:Obj}(h:bI enc sz w6 (wr.alloc x).drew.heap.size e A c xs)(a:w6.grownBy wE (some wr.heap.size))(hq:q1<=wr.heap.size):bI enc sz wE q1 e A c xs:=by
 have hs:(wr.alloc x).drew.heap.size=wr.heap.size+1:=(show(wr.alloc x).heap.size=_ by simp)
 refine(h.kept a ?_).from_ aQ;cases b:aY A with
 |none=>exact .inl rfl
 |some r=>exact .inr (λe=>by injection e with e;have:=(h.lt r b).1;omega)
def gD(rs:List Rm)(qs:List (Int×Int×Int)):List Rm:=qs.foldl (λrs a=>pX rs a.1 a.2.1 a.2.2) rs
def lM(rs:List Rm):List (Int×Int×Int)->List Int
 | []=> []
 |a::qs=>CO rs a.1 a.2.1 a.2.2::lM (pX rs a.1 a.2.1 a.2.2) qs
theorem Ba(rs:List Rm)(qs:List (Int×Int×Int))(a:Int×Int×Int):gD rs (qs++ [a])=pX (gD rs qs) a.1 a.2.1 a.2.2:=by unfold gD;rw[acC];rfl
theorem MS(a:Int×Int×Int):∀(qs:List (Int×Int×Int)) (rs:List Rm),lM rs (qs++ [a])=lM rs qs++ [CO (gD rs qs) a.1 a.2.1 a.2.2]
 | [],rs=>rfl
 |x::qs,rs=>by
  show CO rs x.1 x.2.1 x.2.2::lM (pX rs x.1 x.2.1 x.2.2) (qs++ [a])=_;rw[MS a qs];rfl
theorem CP:∀(qs:List (Int×Int×Int)) (rs:List Rm),(lM rs qs).length=qs.length
 | [],rs=>rfl
 |x::qs,rs=>by
  show(lM (pX rs x.1 x.2.1 x.2.2) qs).length+1=_;rw[CP qs];rfl
def nV(rs:List Rm)(n:Nat)(T:Int):Prop:=∀i x,(bE rs i).l=some x->kT x n/\x.nw<=T
theorem kT.up(h:kT x n)(a:n<=n'):kT x n':=dZ.mono h (λ_=>a) (λ_=>a) a aQ aQ
theorem nV.up(h:nV rs n T)(b:n<=n')(d:T<=T'):nV rs n' T':=λi x a=>⟨(h i x a).1.up b,by have:=(h i x a).2;omega⟩
theorem Ng(x:Lb)(t d:Int):(jD x t d).2.nw=x.nw:=by
 unfold jD;split
 .rfl
 .split
  .rfl
  .split <;> rfl
theorem nV.ask(h:nV rs n T)(f:rs.length=8)(e t d:Int):nV (pX rs e t d) (n+1) T:=by
 unfold pX;split
 .split
  .exact h.up (abP _) (ab3 _)
  .rename_i he x b;intro i y a;unfold rS at a;by_cases hi:e.toNat=i
   .subst hi;rw[iM aQ] at a;injection a with a;subst a;exact⟨(h _ x b).1.ask t d,by rw[Ng];exact(h _ x b).2⟩
   .rw[rI hi] at a;exact⟨(h i y a).1.up (abP _),(h i y a).2⟩
 .exact h.up (abP _) (ab3 _)
theorem PU(rs:List Rm)(e t d:Int):(pX rs e t d).length=rs.length:=by
 unfold pX;split
 .split
  .rfl
  .unfold rS;rw[aaL]
 .rfl
theorem IB(qs:List (Int×Int×Int)):∀rs:List Rm,(gD rs qs).length=rs.length:=by
 induction qs with
 |nil=>intro rs;rfl
 |cons a qs b=>intro rs;exact(b _).trans (PU ..)
theorem nV.asks(qs:List (Int×Int×Int)):∀{rs:List Rm} {n:Nat},nV rs n T->rs.length=8->nV (gD rs qs) (n+qs.length) T:=by
 induction qs with
 |nil=>intro rs n h _;exact h
 |cons a qs d=>
  intro rs n h b;have:=d (h.ask b a.1 a.2.1 a.2.2) ((PU ..).trans b);exact this.up (by simp only[aa9];omega) (ab3 _)
def jZ(s:Sd)(rs:List Rm):Nat->Sd
 |0=>s
 |i+1=>match(bE rs i).l with
  |none=>jZ s rs i
  |some x=>jY (jZ s rs i) i (mV x).isSome
theorem xY(h:gQ s)(hp:s.P.length=4)(rs:List Rm):∀n,gQ (jZ s rs n)/\(jZ s rs n).P.length=4/\(jZ s rs n).nw=s.nw
 |0=>⟨h,hp,rfl⟩
 |i+1=>by
  obtain⟨h1,a,b⟩:=xY h hp rs i;unfold jZ;split
  .exact⟨h1,a,b⟩
  .obtain⟨d,e⟩:=vI h1 a i (mV _).isSome;exact⟨d,e,(xZ _ _ _).trans b⟩
def rW(rs:List Rm)(i:Nat)(x:Lb):List Rm:=P5 rs i (wrap64 ((bE rs i).sn+(vP rs i x).length))
def TF(rs:List Rm)(e:Int)(i:Nat)(x:Lb):List Rm:=rS (rW rs i x) i (gG x (decide (e=i)))
def CY(rs:List Rm)(e:Int)(i:Nat):List Rm:=match(bE rs i).l with
 |none=>rs
 |some x=>rW (TF rs e i x) i (gG x (decide (e=i)))
def Bz(rs:List Rm)(e:Int)(i:Nat):List (Int×Ev):=match(bE rs i).l with
 |none=> []
 |some x=>(vP (TF rs e i x) i (gG x (decide (e=i)))).map λv=>((i:Int),v)
def M1(rs:List Rm)(e:Int)(i:Nat)(p:Int×Int):Int×Int:=match(bE rs i).l with
 |none=>p
 |some x=>if e=i then iV x (gY x (decide (e=i))) else p
def iI(rs:List Rm)(e:Int):Nat->List Rm
 |0=>rs
 |i+1=>CY (iI rs e i) e i
def kV(rs:List Rm)(e:Int):Nat->List (Int×Ev)
 |0=> []
 |i+1=>kV rs e i++Bz (iI rs e i) e i
def lN(rs:List Rm)(e:Int):Nat->Int×Int
 |0=>(-1,0)
 |i+1=>M1 (iI rs e i) e i (lN rs e i)
theorem JM(hi:i<rs.length):(bE (rW rs i x) j).l=(bE rs j).l/\(bE (rW rs i x) j).ru=(bE rs j).ru/\(bE (rW rs i x) j).g=(bE rs j).g:=by
 unfold rW P5;by_cases h:i=j
 .subst h;rw[iM hi];exact⟨rfl,rfl,rfl⟩
 .rw[rI h];exact⟨rfl,rfl,rfl⟩
theorem Ly(rs:List Rm)(e:Int)(i:Nat):(CY rs e i).length=rs.length:=by
 unfold CY rW TF rS rW P5;split
 .rfl
 .rw[aaL,aaL,aaL]
theorem I1(rs:List Rm)(e:Int):∀n,(iI rs e n).length=rs.length
 |0=>rfl
 |i+1=>(Ly _ _ _).trans (I1 rs e i)
theorem Ss{e:Int}(hi:i<rs.length):(bE (CY rs e i) j).l=(if j=i then(bE rs i).l.map λx=>gG x (decide (e=i)) else(bE rs j).l)/\(bE (CY rs e i) j).ru=(bE rs j).ru:=by
 unfold CY;cases hl:(bE rs i).l with
 |none=>
  simp only;refine⟨?_,by first|rfl|trivial⟩;split
  .rename_i h;subst h;rw[hl];rfl
  .rfl
 |some x=>
  simp only;have h1:i<(rW rs i x).length:=by unfold rW P5;rw[aaL];exact hi
  have b:i<(TF rs e i x).length:=by unfold TF rS;rw[aaL];exact h1
  have a:=JM (j:=j) (x:=gG x (decide (e=i))) b;have a2:=JM (j:=j) (x:=x) hi;rw[a.1,a.2.1];unfold TF rS;by_cases h:i=j
  .subst h;rw[iM h1,Zz rfl];exact⟨rfl,(JM (j:=i) (x:=x) hi).2.1⟩
  .rw[rI h,aaA (acT h)];exact⟨a2.1,a2.2.1⟩
theorem yA{rs:List Rm}{e:Int}(j:Nat):∀n,n<=rs.length->(bE (iI rs e n) j).l=(if j<n then(bE rs j).l.map λx=>gG x (decide (e=j)) else(bE rs j).l)/\(bE (iI rs e n) j).ru=(bE rs j).ru
 |0,_=>⟨by rw[aaA aQ];rfl,rfl⟩
 |n+1,hn=>by
  obtain⟨h1,d⟩:=yA (rs:=rs) (e:=e) j n aQ;have a:=Ss (rs:=iI rs e n) (e:=e) (i:=n) (j:=j) (by rw[I1];omega);show(bE (CY (iI rs e n) e n) j).l=_/\(bE (CY (iI rs e n) e n) j).ru=_;rw[a.1,a.2,d];refine⟨?_,rfl⟩;by_cases b:j=n
  .subst b;rw[Zz rfl,Zz aQ,h1,aaA aQ]
  .rw[aaA b,h1];by_cases hl:j<n
   .rw[Zz hl,Zz aQ]
   .rw[aaA hl,aaA aQ]
theorem Ic(rs:List Rm)(n:Nat)(x:Lb):(vP rs n x).length<=x.lg.length:=by
 unfold vP AP;split
 .exact aaH _
 .rw[acM];omega
section
variable{F:Nat->Prop}{w w':aA}{hb m g q:Nat}{c:Int}{k:Kv}{rs:List Rm}{oz:Ou}{D:List Int}{E:List (Int×Ev)}{n:Nat}{x:Lb}
theorem dV.r0(h:dV F w hb m g c k rs q oz D E)(a:n<8)(hl:(bE rs n).l=some x):w.cell? (hb,2+n *15)=some (.pointer (some ⟨(bE rs n).g,0,none⟩)):=by
 obtain⟨G,b,_⟩:=h.ho;exact b.U6 a hl
theorem dV.news(h:dV F w hb m g c k rs q oz D E)(a:n<8)(hl:(bE rs n).l=some x)(e:x.lg.length<=4000000000):aG prog 46 #[.pointer (some ⟨hb,2+n *15,none⟩)] w λr w'=>∃B d,r= .returned (.slice B (vP rs n x).length d)/\bI qW 4 w' w.heap.size 165 B d (vP rs n x)/\dV (cE F B) w' hb m g c k (rW rs n x) q oz D E/\Kp F w w':=by
 obtain⟨G,_,f,back⟩:=h.Vw;refine(Y8 f a hl e).mono ?_;rintro r w' ⟨B,d,rfl,own,i,j⟩;obtain⟨b1,b2⟩:=back _ _ B w' (λb hb=>(own.lt b hb).1) i j;exact⟨B,d,rfl,own,b1,b2⟩
theorem dV.Tv(h:dV F w hb m g c k rs q oz D E)(d:n<8)(hl:(bE rs n).l=some x)(e:kT x nl)(hk:nl<=2800)(hw:x.nw<1048576)(gv:Bool):aG prog 28 #[.pointer (some ⟨(bE rs n).g,0,none⟩),gv] w λr w'=>r= .returned (.tuple #[.int .i64 (iV x (gY x gv)).1, .int .i64 (iV x (gY x gv)).2,true])/\dV F w' hb m g c k (rS rs n (gG x gv)) q oz D E/\Kp F w w':=by
 obtain⟨G,f,back⟩:=h.ho;obtain⟨o,y,b,a⟩:=f.Jt d hl;refine(M7 b e hk hw gv).mono ?_;rintro r w' ⟨rfl,i,j⟩;obtain⟨b1,b2⟩:=a _ w' i j;exact⟨rfl,back _ _ w' b1 b2⟩
end
theorem Fh(s:Sd):(gH s).1.env= -1\/∃i:Nat,(gH s).1.env=i/\i<s.P.length:=by
 unfold gH;cases a:iO (dY s).P s.P.length with
 |some q=>
  obtain⟨i,d⟩:=q;exact .inr ⟨i,rfl,(BW _ _ _ _ a).1⟩
 |none=>
  simp only;cases b:yQ (dY s).P s.tu.toNat with
  |none=>exact .inl rfl
  |some e=>exact .inr ⟨e,rfl,by have:=(Ah b).1;rw[wW] at this;exact this⟩
theorem sO.Fu{c:Int}{xs:List Wd}{D:List (Int×Int)}(h:sO k c ws xs rn D k')(a:KI k n):rn.env= -1\/∃i:Nat,rn.env=i/\i<4:=by
 obtain⟨b,hb,rfl,_⟩:=h;have d:=(hb.ki (zQ ws a)).p4;rcases Fh b.s with h|⟨i,h,hi⟩
 .exact .inl h
 .exact .inr ⟨i,h,aQ⟩
theorem below_drewN(w:aA)(n:Nat):aD w w (w.drewN n):=⟨rfl,rfl,rfl,Zw _,λ_ _=>rfl⟩
theorem uA.len{c e:Int}{ws:List Int}{D:List (Int×Int)}(h:uA c e k ws D k'):D.length=ws.length:=by
 induction h with
 |nil=>rfl
 |snoc _ _ _ a=>rw[aaM,aaM,a];rfl
theorem sO.Xt{c:Int}{xs:List Wd}{D:List (Int×Int)}{M:Nat}(h:sO k c ws xs rn D k')(a:∀z∈xs,z.xs.length<=M):D.length<=M:=by
 obtain⟨e,_,_,⟨i,z,_,b,ha⟩|⟨_,d,_⟩⟩:=h
 .rw[ha.len];exact a z (abV b)
 .rw[d];exact aaH _
theorem results_cell_tmp{a t:Tmp}{ty:aN}(h:fn.results=#[.cell a ty, .tmp t])(tmps:Array aC)(w:aA)(g:Nat)(M:List aC)(d:TypeDesc)(ha:tmps.getD a undef= .pointer g)(hc:w.rangeAt g 0 M)(hu:P.underlying ty=some d)(hd:d.isRow=true)(hi:(P.info? ty).map (·.size)=some M.length):
 (results fn tmps).run P w= .ok (.tuple #[.agg M.toArray,tmps.getD t undef]) w:=by
 have:=run_loadVar_mid (P:=P) w g 0 ty M d hc hu hd hi;rw[adW] at ha;simp[results,h,ha,asAddr,this]
theorem Le(oz:Ou):(prog.info? 79).map (·.size)=some (jW oz).length:=by
 have:(prog.info? 79).map (·.size)=some 13:=aV;exact this
theorem Rr(oz:Ou):(jW oz).toArray.all (·.oneCell')=true:=by
 rw[Array.all_eq_true];intro i hi;have hi:i<13:=hi;have:i=0\/i=1\/i=2\/i=3\/i=4\/i=5\/i=6\/i=7\/i=8\/i=9\/i=10\/i=11\/i=12:=aQ;rcases this with rfl|rfl|rfl|rfl|rfl|rfl|rfl|rfl|rfl|rfl|rfl|rfl|rfl <;> rfl
theorem Aq{A:Array aC}{M:List aC}(h:A.size=M.length):lay A 0 M=M.toArray:=by
 have:=TZ [] A.toList M [] (by simpa using h);simpa using this
theorem bF.laid{t:aN}{A:Array aC}{M:List aC}(h:bF w g t A)(hs:A.size=M.length):bF (w.setCells g 0 M) g t M.toArray:=by
 have:=iX g t M 0 w _ h;rw[Aq hs] at this;exact this
end
variable{v:aC}{w':aA}{AQ:Option aJ}{nR cR nX cX:Nat}{qs:List (Int×Int×Int)}
section
theorem Xv:jS prog 82 172 3 24:=fU (z:= .agg #[aU,aU,aU]) underlying82 aV (by simp[Value.cells]) aQ
theorem Xy:jS prog 85 126 3 24:=fU (z:= .agg #[aU,aU,aU]) underlying85 aV (by simp[Value.cells]) aQ
theorem OM{a:Tmp}{ty:aN}(h:fn.results=#[.cell a ty])(tmps:Array aC)(w:aA)(g:Nat)(M:List aC)(d:TypeDesc)(ha:tmps.getD a undef= .pointer g)(hc:w.rangeAt g 0 M)(hu:P.underlying ty=some d)(hd:d.isRow=true)(hi:(P.info? ty).map (·.size)=some M.length):
 (results fn tmps).run P w= .ok (.agg M.toArray) w:=by
 have:=run_loadVar_mid (P:=P) w g 0 ty M d hc hu hd hi;rw[adW] at ha;simp[results,h,ha,asAddr,this]
def W3(x:Int×Int×Int)(N:Nat)(v:aC)(w:aA):Prop:=∃G,v= .slice (some ⟨G,0,none⟩) 1 1/\N<=G/\Sl mB 3 w (some ⟨G,0,none⟩) [x]
theorem W3.keep{x:Int×Int×Int}(h:W3 x g v w)(a:bS w w'):W3 x g v w':=by obtain⟨G,h1,b,c⟩:=h;exact⟨G,h1,b,c.keep a⟩
structure C8(w wr:aA)(q:Nat)(AR:Option aJ)(nR cR:Nat)(AW:Option aJ)(nW cW:Nat)(AX:Option aJ)(nX cX:Nat)(AQ:Option aJ)(nQ cQ:Nat)(W:uY)(ws:List (Int×Int×Int))(Q:uY)(qs:List (Int×Int×Int)):Prop where
 b0:bF wr q 42 #[(AR,nR,cR),(AW,nW,cW),(AX,nX,cX),(AQ,nQ,cQ)]
 b1:bF wr (q+1) 87 #[bH,bH,bH,bH]
 b2:bF wr (q+1+1) 87 #[(AR,nR,cR),(W.A,W.n,W.c),(AX,nX,cX),(Q.A,Q.n,Q.c)]
 oW:bI mB 3 wr (q+1+1+1) 172 W.A W.c ws
 oQ:bI mB 3 wr (q+1+1+1) 126 Q.A Q.c qs
 nW:W.n=ws.length
 nQ:Q.n=qs.length
 ap:∀b,aY W.A=some b->aY Q.A≠some b
 bl:aD q w wr
 sz:q+1+1+1<=wr.heap.size
section
variable{w wr w9:aA}{q nR cR nW cW nX cX nQ cQ:Nat}{AR AW AX AQ:Option aJ}{W Q:uY}{ws qs:List (Int×Int×Int)}
theorem C8.below(h:C8 w wr q AR nR cR AW nW cW AX nX cX AQ nQ cQ W ws Q qs)(hb:aD wr wr w9):C8 w w9 q AR nR cR AW nW cW AX nX cX AQ nQ cQ W ws Q qs:=
 ⟨h.b0.keep hb,h.b1.keep hb,h.b2.keep hb,h.oW.keep hb,h.oQ.keep hb,h.nW,h.nQ,h.ap,h.bl.trans (hb.mono (by have:=h.sz;omega)),aaC h.sz hb.size⟩
theorem C8.Xg(h:C8 w wr q AR nR cR AW nW cW AX nX cX AQ nQ cQ W ws Q qs){x:Int×Int×Int}(a:bI mB 3 w9 (q+1+1+1) 172 A9 c9 (ws++ [x]))(d:wr.grownBy w9 (aY W.A))(ha:aY A9=aY W.A\/aY A9=some wr.heap.size)(i:n=(ws++ [x]).length):(∃v,w9.cell? (q+1+1,1)=some v)/\w9.frozen? (q+1+1,1)=false/\C8 w (w9.setCell (q+1+1,1) (.slice A9 n c9)) q AR nR cR AW nW cW AX nX cX AQ nQ cQ ⟨A9,n,c9⟩ (ws++ [x]) Q qs:=by
 have hl:∀b,aY W.A=some b->q+1+1+1<=b:=λb hb=>(h.oW.lt b hb).1
 have hk:∀b,b<q+1+1+1->w9.heap[b]?=wr.heap[b]?:=λb hb=>d.block b (Zy hb h.sz) (λe=>by have:=hl b e.symm;omega)
 have b2:bF w9 (q+1+1) 87 _:=(hk _ aQ).trans h.b2;have gs:w9.grownBy (w9.setCell (q+1+1,1) (.slice A9 n c9)) (some (q+1+1)):=aZ (bK _ _) 1 _;have g:∀b,aY A9=some b->q+1+1+1<=b:=λb hb=>(a.lt b hb).1
 have f:bI mB 3 w9 (q+1+1+1) 126 Q.A Q.c qs:=h.oQ.kept d (by
  cases j:aY Q.A with
  |none=>exact .inl rfl
  |some r=>exact .inr (λe=>h.ap r e.symm (by rw[j])))
 refine⟨⟨_,b2.cell 1 _ rfl⟩,b2.frozen 1,(gs.block q (by have:=h.sz;have:=d.size;omega) (λe=>by injection e with e;omega)).trans ((hk _ aQ).trans h.b0),(gs.block (q+1) (by have:=h.sz;have:=d.size;omega) (λe=>by injection e with e;omega)).trans ((hk _ aQ).trans h.b1),b2.bX 1 _,a.kept gs (.inr λe=>by have:=g _ e;omega),f.kept gs (.inr λe=>by have:=(f.lt _ e).1;omega),i,h.nQ,λb hb e=>?_,(h.bl.grown d (by have:=h.sz;omega) (λk hk=>by have:=hl k hk;omega)).grown gs (by have:=h.sz;have:=d.size;omega) (λk hk=>by injection hk with hk;omega),aaC h.sz (aaC d.size gs.size)⟩;rcases ha with ha|ha
 .exact h.ap b (ha.symm.trans hb) e
 .rw[ha] at hb;injection hb with hb;have:=(h.oQ.lt b e).2;omega
theorem C8.Xd(h:C8 w wr q AR nR cR AW nW cW AX nX cX AQ nQ cQ W ws Q qs){x:Int×Int×Int}(a:bI mB 3 w9 (q+1+1+1) 126 A9 c9 (qs++ [x]))(d:wr.grownBy w9 (aY Q.A))(ha:aY A9=aY Q.A\/aY A9=some wr.heap.size)(i:n=(qs++ [x]).length):(∃v,w9.cell? (q+1+1,3)=some v)/\w9.frozen? (q+1+1,3)=false/\C8 w (w9.setCell (q+1+1,3) (.slice A9 n c9)) q AR nR cR AW nW cW AX nX cX AQ nQ cQ W ws ⟨A9,n,c9⟩ (qs++ [x]):=by
 have hl:∀b,aY Q.A=some b->q+1+1+1<=b:=λb hb=>(h.oQ.lt b hb).1
 have hk:∀b,b<q+1+1+1->w9.heap[b]?=wr.heap[b]?:=λb hb=>d.block b (Zy hb h.sz) (λe=>by have:=hl b e.symm;omega)
 have b2:bF w9 (q+1+1) 87 _:=(hk _ aQ).trans h.b2;have gs:w9.grownBy (w9.setCell (q+1+1,3) (.slice A9 n c9)) (some (q+1+1)):=aZ (bK _ _) 3 _;have g:∀b,aY A9=some b->q+1+1+1<=b:=λb hb=>(a.lt b hb).1
 have f:bI mB 3 w9 (q+1+1+1) 172 W.A W.c ws:=h.oW.kept d (by
  cases j:aY W.A with
  |none=>exact .inl rfl
  |some r=>exact .inr (λe=>h.ap r j e.symm))
 refine⟨⟨_,b2.cell 3 _ rfl⟩,b2.frozen 3,(gs.block q (by have:=h.sz;have:=d.size;omega) (λe=>by injection e with e;omega)).trans ((hk _ aQ).trans h.b0),(gs.block (q+1) (by have:=h.sz;have:=d.size;omega) (λe=>by injection e with e;omega)).trans ((hk _ aQ).trans h.b1),b2.bX 3 _,f.kept gs (.inr λe=>by have:=(f.lt _ e).1;omega),a.kept gs (.inr λe=>by have:=g _ e;omega),h.nW,i,λb hb e=>?_,(h.bl.grown d (by have:=h.sz;omega) (λk hk=>by have:=hl k hk;omega)).grown gs (by have:=h.sz;have:=d.size;omega) (λk hk=>by injection hk with hk;omega),aaC h.sz (aaC d.size gs.size)⟩;rcases ha with ha|ha
 .exact h.ap b hb (ha.symm.trans e)
 .have e:aY A9=some b:=e;rw[ha] at e;injection e with e;have:=(h.oW.lt b hb).2;omega
end
theorem Mn(cW cQ:Nat)(w:aA)(P:Sl mB 3 w AW ws)(hQ:Sl mB 3 w AQ qs)(lW:ws.length<=1000)(lQ:qs.length<=1000):
 aG prog 17 #[.agg #[(AR,nR,cR),(AW,ws.length,cW),(AX,nX,cX),(AQ,qs.length,cQ)]] w λr w'=>∃W Q:uY,r= .returned (.agg #[(AR,nR,cR), .slice W.A W.n W.c,(AX,nX,cX), .slice Q.A Q.n Q.c])/\bI mB 3 w' w.heap.size 172 W.A W.c ws/\bI mB 3 w' w.heap.size 126 Q.A Q.c qs/\W.n=ws.length/\Q.n=qs.length/\aD w w w':=by
 have h0:aH (C8 w (((w.alloc (aI #[(AR,nR,cR),(AW,ws.length,cW),(AX,nX,cX),(AQ,qs.length,cQ)] 42)).alloc (aI #[bH,bH,bH,bH] 87)).alloc (aI #[(AR,nR,cR),bH,(AX,nX,cX),bH] 87)) w AR nR cR AW ws.length cW AX nX cX AQ qs.length cQ GL [] GL []):=
  ⟨((bF.new w _ _).alloc _).alloc _,(bF.fI _ _ _ aT).alloc _,bF.fI _ _ _ aT,bI.nil _ _ _,bI.nil _ _ _,rfl,rfl,λb hb=>absurd (show(none:Option Nat)=some b from hb) aT,((aX w _).alloc aT _).alloc (by simp only[World.size_alloc];omega) _,aT⟩
 have HS:=bN P hQ;clear P hQ;go_enter func17,ntmps17
 go_upto_region 2 with(fail)
 generalize (((w.alloc (aI #[(AR,nR,cR),(AW,ws.length,cW),(AX,nX,cX),(AQ,qs.length,cQ)] 42)).alloc (aI #[bH,bH,bH,bH] 87)).alloc (aI #[(AR,nR,cR),bH,(AX,nX,cX),bH] 87))=w3 at *;generalize hq:w.heap.size=q at *;have HQ:=aP hq;have S:aH (∀W,aD q w W->Sl mB 3 W AW ws/\Sl mB 3 W AQ qs):=λW P=>by
  rw[<-HQ.o] at P;exact⟨HS.o.1.keep P,HS.o.2.keep P⟩
 clear hq;go_wp2_with fail
 go_loopw [4] (λv4 wr=>∃i:Nat,v4= .int .i64 i/\i<=ws.length/\aH (∃A c,C8 w wr q AR nR cR AW ws.length cW AX nX cX AQ qs.length cQ ⟨A,i,c⟩ (ws.take i) GL [])) (λv4 _=>ws.length - (aL v4).toNat)
 case atStart=>exact⟨0,rfl,aaH _,none,0,h0.o⟩
 case round=>
  clear h0;obtain⟨i,rfl,hi,E⟩:=hrel;obtain⟨A,c,a⟩:=E.o;have E:=aP a;have b1:=a.b0.cell 1 (.slice AW ws.length cW) rfl;by_cases u:i<ws.length
  .obtain⟨b,off,rfl,g,j,l⟩:=(S.o wr a.bl).1.FG u;have j0:(0:Int)<=i:=aQ;have Z:(i:Int)<(ws.length:Int):=aQ;have HT:aH (ws.take (i+1)=ws.take i++ [ws[i]]):=(aa3 u).symm;generalize ws[i]=x at *;obtain⟨p,s,t⟩:=x;simp only at g j l;have hX:=a.below (aX wr (aI #[p,s,t] 171));have Y:=bF.new wr 171 #[p,s,t];have y0:=Y.cell 0 p rfl;have y1:=Y.cell 1 s rfl;have y2:=Y.cell 2 t rfl;have d1:=hX.b2.cell 1 (.slice A i c) rfl;have N:=aP hX;have y:aH ((ws.take i).length=i):=by unfold aH;rw[abJ];omega
   clear a hX Y;go_upto_region 6 with(fail)
   clear b1 g j l;generalize wr.alloc (aI #[p,s,t] 171)=wx at *;go_wp2_with(refine bP _ rfl (.tmp 31) (.tmp 39) rfl Xv uE (base:=q+1+1+1) (xs:=ws.take i) (N.o.oW.alloc _) (n:=i) y.o rfl (m:=1) rfl (ys:= [(p,s,t)]) rfl (Sl.fI uE wx (p,s,t) _ rfl _ aT) dI aQ (aaC N.o.sz aT) _ rfl (i+1) rfl ?_;intro A9 c9 w9 f F H;(obtain⟨T,f9,I⟩:=(N.o.below (aX wx (aI #[p,s,t] 172))).Xg f F H (n:=i+1) (by rw[aaM,y.o];rfl));obtain⟨b9v,T⟩:=T)
   exact⟨⟨i+1,rfl,aQ,A9,c9,by rw[HT.o];exact I⟩,by simp only[aL];omega⟩
  .obtain rfl:i=ws.length:=aQ;have J:ws.take ws.length=ws:=ab9;rw[J] at a;have U:=aP a;clear a E J;have Z:¬(ws.length:Int)<(ws.length:Int):=aQ;go_wp2_with fail
   go_loopw [6] (λv6 wr=>∃i:Nat,v6= .int .i64 i/\i<=qs.length/\aH (∃B d,C8 w wr q AR nR cR AW ws.length cW AX nX cX AQ qs.length cQ ⟨A,ws.length,c⟩ ws ⟨B,i,d⟩ (qs.take i))) (λv6 _=>qs.length - (aL v6).toNat)
   case atStart=>exact⟨0,rfl,aaH _,none,0,U.o⟩
   case round=>
    clear U b1;obtain⟨i,rfl,hi,E⟩:=hrel;obtain⟨B,d,a⟩:=E.o;have E:=aP a;have b3:=a.b0.cell 3 (.slice AQ qs.length cQ) rfl;by_cases u:i<qs.length
    .obtain⟨b,off,rfl,g,j,l⟩:=(S.o wr a.bl).2.FG u;have j0:(0:Int)<=i:=aQ;have Z:(i:Int)<(qs.length:Int):=aQ;have HT:aH (qs.take (i+1)=qs.take i++ [qs[i]]):=(aa3 u).symm;generalize qs[i]=x at *;obtain⟨p,s,t⟩:=x;simp only at g j l;have d3:=a.b2.cell 3 (.slice B i d) rfl;have HY:aH (∀(W:aA),Sl mB 3 (W.alloc (aI #[p,s,t] 126)) (some ⟨W.heap.size,0,none⟩) [(p,s,t)]):=λW=>Sl.fI uE W (p,s,t) _ rfl _ rfl
     have y:aH ((qs.take i).length=i):=by unfold aH;rw[abJ];omega
     clear a;go_upto_region 10 with(fail)
     have K:=bD b3;have z:=bD g;have C:=bD j;have D:=bD l;have L:=bD d3;refine bO (bS _) (λ_=>bS) [71] (λ_ v w=>W3 (p,s,t) wr.heap.size v w) [22,24] [[22,21,20,7,6,5,3], [22,21,20,7], [22,21,20,13,12,11,9], [22,21,20,13], [22,21,20,19,18,17,15], [22,21,20,19]] 75 (bY _) (λ_ _ _ h hz=>bU h hz) (λ_ d hd _ v w w' _ h hz=>h.keep hz) aV aV bL ?_;repeat (first|(refine eA ?_)|(refine uG 71 [] bL bL bL bL (λγ w hC J=>?_) ?_;(simp only[cO];go_simp;exact p5 (aX w _) ⟨_,rfl,Below.size hC,HY.o w⟩);(try refine dE ?_)))
     refine dC ?_;intro γ w5 V J;clear K z C D L;simp only[cO,Act.put,Zx,aaE,aaD];refine dP ?_;obtain⟨G,hv,hG,X⟩:=J 71 aT;rw[hv];have N:=aP (E.o.below V);have HG:=aP X;clear b3 g j l d3 V J E hv X hG HY;refine bP w5 rfl (.tmp 51) (.tmp 71) rfl Xy uE (base:=q+1+1+1) (xs:=qs.take i) N.o.oQ (n:=i) y.o rfl (m:=1) rfl (ys:= [(p,s,t)]) rfl HG.o dI aQ N.o.sz _ rfl (i+1) rfl ?_;intro A9 c9 w9 f F H;obtain⟨T,f9,I⟩:=N.o.Xd f F H (n:=i+1) (by rw[aaM,y.o];rfl);obtain⟨b9v,T⟩:=T;have HO:=aP I;clear I f F H;go_wp2_with fail
     simp only[qA];go_wp2_with fail
     exact⟨⟨i+1,rfl,aQ,A9,c9,by rw[HT.o];exact HO.o⟩,by simp only[aL];omega⟩
    .obtain rfl:i=qs.length:=aQ;have J:qs.take qs.length=qs:=ab9;rw[J] at a;have R:=aP a;have hrg:=aP a.b2.range;have g0:=a.b1.cell 0 (.slice none 0 0) rfl;have g1:=a.b1.cell 1 (.slice none 0 0) rfl;have g2:=a.b1.cell 2 (.slice none 0 0) rfl;have g3:=a.b1.cell 3 (.slice none 0 0) rfl;have f0:=a.b1.frozen 0;have f1:=a.b1.frozen 1;have f2:=a.b1.frozen 2;have f3:=a.b1.frozen 3;have hbz:aH (bF ((((wr.setCell (q+1,0) (.slice AR nR cR)).setCell (q+1,1) (.slice A ws.length c)).setCell (q+1,2) (.slice AX nX cX)).setCell (q+1,3) (.slice B qs.length d)) (q+1) 87 [.slice AR nR cR, .slice A ws.length c, .slice AX nX cX, .slice B qs.length d].toArray):=(((a.b1.bX 0 _).bX 1 _).bX 2 _).bX 3 _;have O:aH (wr.grownBy ((((wr.setCell (q+1,0) (.slice AR nR cR)).setCell (q+1,1) (.slice A ws.length c)).setCell (q+1,2) (.slice AX nX cX)).setCell (q+1,3) (.slice B qs.length d)) (some (q+1))):=aZ (aZ (aZ (aZ (bK _ _) 0 _) 1 _) 2 _) 3 _;have M:aH ((prog.info? 87).map (·.size)=some 4):=by unfold aH;kernel_rfl
     have Z:¬(qs.length:Int)<(qs.length:Int):=aQ;clear a E J;go_wp2_with(first|(refine wpList_load_mid rfl 87 _ rfl (q+1+1) 0 rfl [.slice AR nR cR, .slice A ws.length c, .slice AX nX cX, .slice B qs.length d] _ hrg.o underlying87 rfl M.o ?_))
     refine bodyPost_ret (OM rfl _ _ (q+1) [.slice AR nR cR, .slice A ws.length c, .slice AX nX cX, .slice B qs.length d] _ rfl hbz.o.range underlying87 rfl M.o) rfl ⟨⟨A,ws.length,c⟩,⟨B,qs.length,d⟩,rfl,?_,?_,rfl,rfl,?_⟩
     .rw[HQ.o];exact(R.o.oW.kept O.o (.inr λe=>by have:=(R.o.oW.lt _ e).1;omega)).from_ aQ
     .rw[HQ.o];exact(R.o.oQ.kept O.o (.inr λe=>by have:=(R.o.oQ.lt _ e).1;omega)).from_ aQ
     .rw[HQ.o];exact R.o.bl.grown O.o (by have:=R.o.sz;omega) (λk hk=>by injection hk with hk;omega)
end
section
structure Ac where
 kd:Int
 env:Int
 n:Int
 bu:Int
 pe:Int
 TA:Option aJ
 Tc:Nat
 ts:List Tm
 od:Int
 CA:Option aJ
 Cc:Nat
 cs:List Int
 RA:Option aJ
 Rc:Nat
 rs:List Int
 WA:Option aJ
 Wc:Nat
 ws:List (Int×Int×Int)
 XA:Option aJ
 Xc:Nat
 xs:List Wd
 QA:Option aJ
 Qc:Nat
 qs:List (Int×Int×Int)
def MQ(a:Ac):List aC:= [.int .i64 a.kd, .int .i64 a.env, .int .u8 a.n, .int .i64 a.bu, .int .i64 a.pe, .slice a.TA a.ts.length a.Tc, .int .u8 a.od, .slice a.CA a.cs.length a.Cc, .slice a.RA a.rs.length a.Rc, .slice a.WA a.ws.length a.Wc, .slice a.XA a.xs.length a.Xc, .slice a.QA a.qs.length a.Qc]
theorem Qo:eL MQ 12:=⟨λ_=>rfl,λx u hu=>by simp[MQ] at hu;rcases hu with rfl|rfl|rfl|rfl|rfl|rfl|rfl|rfl|rfl|rfl|rfl|rfl <;> rfl⟩
structure pB(F:Nat->Prop)(w:aA)(a:Ac):Prop where
 t:Sl pI 5 w a.TA a.ts
 tF:∀q,mK a.TA a.ts.length=some q->F q
 se:∀x∈a.ts,Sl lP 3 w x.A x.t.se/\∀q,mK x.A x.t.se.length=some q->F q
 c:Sl eU 1 w a.CA a.cs
 cF:∀q,mK a.CA a.cs.length=some q->F q
 cr:∀v∈a.cs,0<=v/\v<18446744073709551616
 i:BU F w a.RA a.rs a.WA a.ws a.XA a.xs
 q:Sl mB 3 w a.QA a.qs
 qF:∀q,mK a.QA a.qs.length=some q->F q
 n:0<=a.n/\a.n<=255
 od:0<=a.od/\a.od<=255
theorem pB.kp{a:Ac}(h:pB F w a)(k:Kp F w w'):pB F w' a:=
 ⟨h.t.AG k h.tF,h.tF,λx b=>⟨(h.se x b).1.AG k (h.se x b).2,(h.se x b).2⟩,h.c.AG k h.cF,h.cF,h.cr,h.i.kp k,h.q.AG k h.qF,h.qF,h.n,h.od⟩
theorem pB.up{a:Ac}(h:pB F w a)(d:∀b,F b->G b):pB G w a:=
 ⟨h.t,λq hq=>d q (h.tF q hq),λx e=>⟨(h.se x e).1,λq hq=>d q ((h.se x e).2 q hq)⟩,h.c,λq hq=>d q (h.cF q hq),h.cr,h.i.up d,h.q,λq hq=>d q (h.qF q hq),h.n,h.od⟩
theorem bV.Qn{c:Int}(h:bV F w hb m g c k rs)(b:aD w w w'):bV F w' hb m g c k rs:=(h.below b).1
structure qI(a:Ac):Prop where
 t:a.ts.length<=12
 c:a.cs.length<=300
 q:a.qs.length<=20
 r:a.rs.length<=20
 w:a.ws.length<=20
 x:a.xs.length<=10
 se:∀x∈a.ts,x.t.se.length<=12
 xs:∀z∈a.xs,z.xs.length<=60
theorem Sl.cells{α:Type}{enc:α->List aC}{xs:List α}(h:Sl enc sz w A xs)(hi:i<xs.length):∃b off,A=some ⟨b,off,none⟩/\∀(j:Nat) (u:aC),(enc xs[i])[j]?=some u->w.cell? ⟨b,off+i *sz+j,none⟩=some u:=by
 obtain⟨b,off,a,hc⟩:=h.at_ hi;exact⟨b,off,a,λj u hu=>by rw[abD];exact hc j u hu⟩
def Uj(l:List Ac)(w:aA)(r:Ending)(w':aA):Prop:=∃b:Bool,r= .returned (.bool b)/\(b=true->l.length<=60/\∀a∈l,qI a)/\aD w w w'
theorem WI{l:List Ac}(c:Nat)(w:aA)(h:Sl MQ 12 w A l)(M:∀a∈l,pB (λb=>b<w.heap.size) w a):aG prog 9 #[(A,l.length,c)] w (Uj l w):=by
 have N:=bN h M;have v:aH (aD w w w):=Below.refl _ _;clear h M;go_enter func9,ntmps9
 go_wp2_with fail
 go_loopw [3] (λv3 wr=>∃i:Nat,v3= .int .i64 i/\i<=l.length/\i<=60/\aH (aD w w wr/\∀a∈l.take i,qI a)) (λv3 _=>60 - (aL v3).toNat)
 case atStart=>exact⟨0,rfl,aaH _,aaH _,v.o,λa ha=>by simp at ha⟩
 case round=>
  clear v;obtain⟨i,rfl,hi,y,g⟩:=hrel;have j0:(0:Int)<=i:=aQ;by_cases r:i<l.length
  .by_cases Q:i<60
   .obtain⟨b,off,rfl,hc⟩:=(N.o.1.keep g.o.1).cells r;have R:aH (l.take (i+1)=l.take i++ [l[i]]):=(aa3 r).symm;have S:aH (pB (λb=>b<w.heap.size) wr l[i]):=(N.o.2 _ (aaF r)).kp (Kp.cB g.o.1 λ_ hb=>hb);generalize l[i]=a at *;obtain⟨kd,env,n,bu,pe,TA,Tc,ts,od,CA,Cc,cs,RA,Rc,rs,WA,Wc,ws,XA,Xc,xs,QA,Qc,qs⟩:=a;have c0:=hc 0 (.int .i64 kd) rfl;have c1:=hc 1 (.int .i64 env) rfl;have c2:=hc 2 (.int .u8 n) rfl;have c3:=hc 3 (.int .i64 bu) rfl;have c4:=hc 4 (.int .i64 pe) rfl;have c5:=hc 5 (.slice TA ts.length Tc) rfl;have c6:=hc 6 (.int .u8 od) rfl;have c7:=hc 7 (.slice CA cs.length Cc) rfl;have c8:=hc 8 (.slice RA rs.length Rc) rfl;have c9:=hc 9 (.slice WA ws.length Wc) rfl;have wV:=hc 10 (.slice XA xs.length Xc) rfl;have G:=hc 11 (.slice QA qs.length Qc) rfl;rw[aaU] at c0;have O:(i:Int)<(l.length:Int):=aQ;have T:(i:Int)<60:=aQ;clear hc;go_upto_region 5 with(fail)
    have u:=aP (bF.new wr 44 #[kd,env, .int .u8 n,bu,pe,(TA,ts.length,Tc), .int .u8 od,(CA,cs.length,Cc),(RA,rs.length,Rc),(WA,ws.length,Wc),(XA,xs.length,Xc),(QA,qs.length,Qc)]);have j:aH (aD w w (wr.alloc (aI #[kd,env, .int .u8 n,bu,pe,(TA,ts.length,Tc), .int .u8 od,(CA,cs.length,Cc),(RA,rs.length,Rc),(WA,ws.length,Wc),(XA,xs.length,Xc),(QA,qs.length,Qc)] 44))):=g.o.1.alloc g.o.1.size _;have B:=aP (S.o.kp (Kp.cB (aX wr (aI #[kd,env, .int .u8 n,bu,pe,(TA,ts.length,Tc), .int .u8 od,(CA,cs.length,Cc),(RA,rs.length,Rc),(WA,ws.length,Wc),(XA,xs.length,Xc),(QA,qs.length,Qc)] 44)) (F:=λb=>b<w.heap.size) λb hb=>Zy hb g.o.1.size));have y5:=u.o.cell 5 (.slice TA ts.length Tc) rfl;have y7:=u.o.cell 7 (.slice CA cs.length Cc) rfl;have y8:=u.o.cell 8 (.slice RA rs.length Rc) rfl;have y9:=u.o.cell 9 (.slice WA ws.length Wc) rfl;have U:=u.o.cell 10 (.slice XA xs.length Xc) rfl;have V:=u.o.cell 11 (.slice QA qs.length Qc) rfl;have H:aH (∀x∈l.take i,qI x):=g.o.2;clear c0 c1 c2 c3 c4 c5 c6 c7 c8 c9 wV G u g;have P:aH (Sl pI 5 (wr.alloc (aI #[kd,env, .int .u8 n,bu,pe,(TA,ts.length,Tc), .int .u8 od,(CA,cs.length,Cc),(RA,rs.length,Rc),(WA,ws.length,Wc),(XA,xs.length,Xc),(QA,qs.length,Qc)] 44)) TA ts/\Sl PL 1 (wr.alloc (aI #[kd,env, .int .u8 n,bu,pe,(TA,ts.length,Tc), .int .u8 od,(CA,cs.length,Cc),(RA,rs.length,Rc),(WA,ws.length,Wc),(XA,xs.length,Xc),(QA,qs.length,Qc)] 44)) XA xs):=⟨B.o.t,B.o.i.x⟩
    generalize (wr.alloc (aI #[kd,env, .int .u8 n,bu,pe,(TA,ts.length,Tc), .int .u8 od,(CA,cs.length,Cc),(RA,rs.length,Rc),(WA,ws.length,Wc),(XA,xs.length,Xc),(QA,qs.length,Qc)] 44))=wx at *;go_cut [61] (λs W=>∃bv:Bool,s= .bool bv/\aH (bv=false->ts.length<=12/\cs.length<=300/\qs.length<=20/\rs.length<=20/\ws.length<=20/\xs.length<=10)/\W=wx)
    case first=>
     by_cases g1:(12:Int)<(ts.length:Int)
     .go_wp2_with fail
      go_meet
      exact⟨true,rfl,λh=>(by cases h),rfl⟩
     by_cases g2:(300:Int)<(cs.length:Int)
     .go_wp2_with fail
      go_meet
      exact⟨true,rfl,λh=>(by cases h),rfl⟩
     by_cases g3:(20:Int)<(qs.length:Int)
     .go_wp2_with fail
      go_meet
      exact⟨true,rfl,λh=>(by cases h),rfl⟩
     by_cases g4:(20:Int)<(rs.length:Int)
     .go_wp2_with fail
      go_meet
      exact⟨true,rfl,λh=>(by cases h),rfl⟩
     by_cases g5:(20:Int)<(ws.length:Int)
     .go_wp2_with fail
      go_meet
      exact⟨true,rfl,λh=>(by cases h),rfl⟩
     by_cases g6:(10:Int)<(xs.length:Int)
     .go_wp2_with fail
      go_meet
      exact⟨true,rfl,λh=>(by cases h),rfl⟩
     go_wp2_with fail
     go_meet
     exact⟨false,rfl,λ_=>by omega,rfl⟩
    case rest=>
    obtain⟨bv,rfl,C,rfl⟩:=hcut;cases bv with
    |true=>
     go_wp2_with fail
     go_ret
     exact⟨false,rfl,λh=>(by cases h),j.o⟩
    |false=>
     have e:=aP (C.o rfl);have X:ts.length<=12:=e.o.1;have Y:xs.length<=10:=e.o.2.2.2.2.2;clear C;go_wp2_with fail
     go_loopw [5] (λv5 I=>∃k:Nat,v5= .int .i64 k/\k<=ts.length/\aH (∀x∈ts.take k,x.t.se.length<=12)/\I=wc) (λv5 _=>ts.length - (aL v5).toNat)
     case atStart=>exact⟨0,rfl,aaH _,λx d=>by simp at d,rfl⟩
     case round=>
      obtain⟨k,rfl,hk,q,rfl⟩:=hrel;have Z:(0:Int)<=k:=aQ;by_cases m:k<ts.length
      .obtain⟨b2,D,rfl,f⟩:=P.o.1.cells m;have p:aH (ts.take (k+1)=ts.take k++ [ts[k]]):=(aa3 m).symm;generalize ts[k]=tk at *;have d2:=f 2 (.int .i64 tk.t.de) rfl;have d3:=f 3 (.slice tk.A tk.t.se.length tk.c) rfl;have k1:(k:Int)<(ts.length:Int):=aQ;clear f;by_cases s1:(12:Int)<(tk.t.se.length:Int)
       .go_wp2_with fail
        go_ret
        exact⟨false,rfl,λh=>(by cases h),j.o⟩
       .by_cases s2:(600:Int)<tk.t.de
        .by_cases s3:tk.t.de<=(1048576:Int)
         .go_wp2_with fail
          go_ret
          exact⟨false,rfl,λh=>(by cases h),j.o⟩
         .go_wp2_with fail
          exact⟨⟨k+1,rfl,aQ,λx d=>by
           rw[p.o] at d;rcases aaO.1 d with d|d
           .exact q.o x d
           .rw[aaK.1 d];omega,by first|rfl|trivial⟩,by simp only[aL];omega⟩
        .go_wp2_with fail
         exact⟨⟨k+1,rfl,aQ,λx d=>by
          rw[p.o] at d;rcases aaO.1 d with d|d
          .exact q.o x d
          .rw[aaK.1 d];omega,by first|rfl|trivial⟩,by simp only[aL];omega⟩
      .obtain rfl:k=ts.length:=aQ;have J:aH (∀x∈ts,x.t.se.length<=12):=by have:=q.o;rw[ab9] at this;exact this
       have k1:¬(ts.length:Int)<(ts.length:Int):=aQ;clear q;go_wp2_with fail
       go_loopw [6] (λv6 I=>∃k:Nat,v6= .int .i64 k/\k<=xs.length/\aH (∀z∈xs.take k,z.xs.length<=60)/\I=wr) (λv6 _=>xs.length - (aL v6).toNat)
       case atStart=>exact⟨0,rfl,aaH _,λx d=>by simp at d,rfl⟩
       case round=>
        obtain⟨k,rfl,hk,q,rfl⟩:=hrel;have Z:(0:Int)<=k:=aQ;by_cases m:k<xs.length
        .obtain⟨b2,D,rfl,f⟩:=P.o.2.cells m;have p:aH (xs.take (k+1)=xs.take k++ [xs[k]]):=(aa3 m).symm;generalize xs[k]=z at *;have d0:=f 0 (.slice z.A z.xs.length z.c) rfl;rw[acD,aaU] at d0;have K:(k:Int)<(xs.length:Int):=aQ;clear f;by_cases s1:(60:Int)<(z.xs.length:Int)
         .go_wp2_with fail
          go_ret
          exact⟨false,rfl,λh=>(by cases h),j.o⟩
         .go_wp2_with fail
          exact⟨⟨k+1,rfl,aQ,λx d=>by
           rw[p.o] at d;rcases aaO.1 d with d|d
           .exact q.o x d
           .rw[aaK.1 d];omega,by first|rfl|trivial⟩,by simp only[aL];omega⟩
        .obtain rfl:k=xs.length:=aQ;have L:aH (∀z∈xs,z.xs.length<=60):=by have:=q.o;rw[ab9] at this;exact this
         have K:¬(xs.length:Int)<(xs.length:Int):=aQ;clear q;go_wp2_with fail
         refine⟨⟨i+1,rfl,aQ,aQ,j.o,λa ha=>?_⟩,by simp only[aL];omega⟩;rw[R.o] at ha;rcases aaO.1 ha with ha|ha
         .exact H.o a ha
         .rw[aaK.1 ha];exact⟨e.o.1,e.o.2.1,e.o.2.2.1,e.o.2.2.2.1,e.o.2.2.2.2.1,e.o.2.2.2.2.2,J.o,L.o⟩
   .obtain rfl:i=60:=aQ;have O:(60:Int)<(l.length:Int):=aQ;have E:=aP g.o.1;clear g;go_wp2_with fail
    go_ret
    exact⟨_,rfl,λh=>absurd (abQ h) aQ,E.o⟩
  .obtain rfl:i=l.length:=aQ;have O:¬(l.length:Int)<(l.length:Int):=aQ;have T:(l.length:Int)<=60:=aQ;have E:aH (aD w w wr/\∀a∈l,qI a):=by have:=g.o;rw[ab9] at this;exact this
   clear g;go_wp2_with fail
   go_ret
   exact⟨_,rfl,λ_=>⟨y,E.o.2⟩,E.o.1⟩
end
end
end Go.Proofs.YtacgiflhgdaeaaaGreat
