/- Texts laid as one. -/
import Derived.Laws.BytesArg
import Derived.Test.YtacgiflhgdaeaaaGreatSZ1
import Derived.Test.YtacgiflhgdaeaaaGreatSZ6
import Derived.Test.YtacgiflhgdaeaaaGreatSZ10
import Derived.Test.YtacgiflhgdaeaaaGreatSZ12
set_option linter.unusedVariables false
set_option linter.unusedSimpArgs false
set_option maxRecDepth 100000
set_option maxHeartbeats 20000000
namespace Go.Proofs.YtacgiflhgdaeaaaGreat
open Go.Proofs.Tryz
open Go renaming World->aA,Value->aC,Addr->aJ,Ending->aM,Calls->aG
open Go.RowKit renaming Below->aD,Hid->aH,intOf->aL
open Go.Obj renaming cells->aI
section
open Go.RowKit Go.Lib Go.Shelf dL Fr Up Nt
variable{i n0:Nat}
section
variable{F:Nat->Prop}{w w0 w':aA}{hb m g:Nat}{c:Int}{k:Kv}{rs:List Rm}
def Vr(F:Nat->Prop)(hb m g:Nat)(c:Int)(k:Kv)(rs:List Rm)(i:Nat)(r:Pa.Cp.Tp×Nat×Pa.Cp.St)(w:aA)(e:aM)(w':aA):Prop:=e= .returned (.tuple #[.agg #[r.1.k,r.1.p, .int .u64 r.1.x],r.2.1])/\Pa.Cp.FN r.2.2.R/\∃L,(qC L/\L.length<=16/\Pa.Cp.nH L=Pa.Cp.nH k.t)/\bY F w' hb m g c {k with t:=L,f:=r.2.2.s} (FQ rs i r.2.2.R r.2.2.pc)/\Kp F w w'
theorem Gl(hi:i<rs.length):FQ rs i (bJ rs i).R (bJ rs i).pc=rs:=by
 unfold FQ;rw[<-lS hi];exact List.set_getElem_self hi
theorem bY.tf(h:bY F w hb m g c k rs):w.cell? (g,1)=some (.pointer k.p.1)/\w.cell? (g,0)=some (.pointer k.p.2):=by
 obtain⟨G,a,hk,_⟩:=h.kn;have h1:=hk.pt;have b:=hk.pf;rw[hk.pp];exact⟨h1,b⟩
theorem Ea(h:bY F w hb m g c k rs)(hI:KI k n0)(hi:i<8)(e:Int)(n:Nat)(hn:n<=1000):
 aG prog 81 #[.pointer (some ⟨hb,2+i *15+5,none⟩), .slice (bJ rs i).cA (bJ rs i).C.length (bJ rs i).cc, .agg #[e, .pointer k.p.1, .pointer k.p.2],n] w
  (Vr F hb m g c k rs i (Pa.Cp.nB (Pa.Cp.nH k.t e) (bJ rs i).C n 0 ⟨(bJ rs i).R,(bJ rs i).pc,k.f⟩) w):=by
 have d:i<rs.length:=by rw[h.l8];exact hi
 obtain⟨Q,S⟩:=h.cdX d;obtain⟨G1,⟨bs,a,hA⟩,b1⟩:=h.st;obtain⟨G2,hk,b2⟩:=hA.kn;obtain⟨G3,hf,b3⟩:=hk.fr;obtain⟨G4,⟨A,ca,th,tm,B,D,E,L⟩,b4⟩:=hk.tb;have hp:=hk.pp;have e1:k.p.1=a.gt:=by rw[hp]
 have e2:k.p.2=a.gf:=by rw[hp]
 rw[e1,e2];have l:=h.bk;have n1:a.gt≠a.gf:=zM B.1 hf.m.at_ cE;have n2:a.gt≠hb:=zM B.1 l cE;have T:a.gf≠hb:=zM hf.m.at_ l cE;have n4:aY A≠some a.gf:=CN B.2 hf.m.at_ cE;have n5:aY A≠some hb:=CN B.2 l cE;have ok:=h.B7 hi;have q:Pa.Cp.Mo (λb=>b<w.heap.size/\b≠a.gt/\b≠a.gf/\b≠hb/\aY A≠some b) w a.gt a.gf (Ly hb m c rs i) (Pa.Cp.nH k.t) ⟨(bJ rs i).R,(bJ rs i).pc,k.f⟩:=
  ⟨A,ca,k.t,th,tm,B,hf.m,by rw[Lc hb m c h.ok d,Gl d];exact l,ok.rg,by
   show 2+i *15+5<=(iD m c rs).size;have:=ab3.1 ((acE ..).symm ▸ (W8 m c h.ok d (j:=5) aQ).trans (abL (by rw[pS (h.ok _ (abV d))];omega)));simpa using Nat.le_of_lt this.1,hI.tu,hI.tl,rfl,n1,n2,T,n4,n5,λb hb=>hb⟩
 have hc:Pa.Cp.Cd (λb=>b<w.heap.size/\b≠a.gt/\b≠a.gf/\b≠hb/\aY A≠some b) w (bJ rs i).cA (bJ rs i).C:=⟨by rw[<-lS d];exact Q,ok.cr,by have:=ok.cl;omega,λ_ b hb=>by
  rw[<-lS d] at hb;obtain⟨cs,M⟩:=S b hb;exact⟨M.lt,zM M B.1 cE,zM M hf.m.at_ cE,zM M l cE,CN B.2 M cE⟩⟩
 refine(Pa.Cp.Uu _ a.gt a.gf (Ly hb m c rs i) (bJ rs i).cA (bJ rs i).cc (bJ rs i).C e _ _ n w q hc hn).mono ?_;generalize Pa.Cp.nB (Pa.Cp.nH k.t e) (bJ rs i).C n 0 ⟨(bJ rs i).R,(bJ rs i).pc,k.f⟩=r;rintro v w' ⟨rfl,⟨A2,c2,L2,P,m2,q2⟩,kp⟩;have N:bE w' hb 139 (iD m c (FQ rs i r.2.2.R r.2.2.pc)):=by rw[<-Lc hb m c h.ok d];exact q2.cp
 have U:(FQ rs i r.2.2.R r.2.2.pc).length=rs.length:=ab1;have V:∀x∈FQ rs i r.2.2.R r.2.2.pc,pX x:=λx W=>by
  rcases acT W with W|rfl
  .exact h.ok x W
  .exact⟨q2.rg,ok.cl,ok.cr⟩
 have jM:(iD m c (FQ rs i r.2.2.R r.2.2.pc)).size=(iD m c rs).toList.length:=by
  unfold iD NR;simp only[aeN,ab2,F0 V,F0 h.ok,U]
 have bA:=N.fill (iD m c rs).toList jM;have z:=fF hb (iD m c rs).toList 0 w' w' (bL w' hb);have X:=QT (w:=w') (g:=hb) 0 (iD m c rs).toList;rw[Array.toArray_toList] at bA;generalize w'.setCells hb 0 (iD m c rs).toList=o at *;have fA:bE o a.gf 150 (fc r.2.2.s).toArray:=q2.fm.at_.grown z (λe=>T (by injection e));have tA:=q2.tb.only z n2 q2.ac;have Y:(fc r.2.2.s).toArray.size=(fc k.f).length:=by
  simp[fc,q2.fm.t,q2.fm.b,hf.m.t,hf.m.b]
 have bB:=fA.fill (fc k.f) Y;have G:=fF a.gf (fc k.f) 0 o o (bL o a.gf);have Z:=QT (w:=o) (g:=a.gf) 0 (fc k.f);generalize o.setCells a.gf 0 (fc k.f)=wB at *;have tB:=tA.only G n1 q2.af;have k4:Kp G4 w wB:=⟨G.os.trans (z.os.trans kp.os),G.tape.trans (z.tape.trans kp.tape),G.output.trans (z.output.trans kp.output),abT kp.size (abT z.size G.size),λb H=>by
  have u:=D b H;have P:=abO u kp.size;have h3:=abO P z.size;by_cases K:b=a.gf
  .rw[K];exact bB.trans hf.m.at_.symm
  .by_cases I:b=hb
   .rw[I];exact(G.block hb (I ▸ h3) (λe=>T (by injection e with e;exact e.symm))).trans (bA.trans l.symm)
   .exact(G.block b h3 (λe=>K (by injection e))).trans ((z.block b P (λe=>I (by injection e))).trans (kp.block b ⟨u,λe=>E (e ▸ H),K,I,λe=>L b e H⟩))⟩
 obtain⟨x1,x2⟩:=b4 L2 wB ⟨A2,c2,P,m2,tB,D.kp k4,E,λb J hG=>by
  have u:=D b hG;by_cases K:b=a.gf
  .exact q2.af (by rw[J,K])
  .by_cases I:b=hb
   .exact q2.ac (by rw[J,I];rfl)
   .exact(q2.off b ⟨u,λe=>E (e ▸ hG),K,I,λe=>L b e hG⟩).2.2.2.2 J⟩ k4
 obtain⟨y1,y2⟩:=b2 a _ wB x1 x2;obtain⟨G5,hk5,b5⟩:=y1.kn;obtain⟨G6,y,b6⟩:=hk5.fr;have k6:Kp G6 wB o:=Kp.grown Z λb O=>⟨y.ol b O,λe=>y.nf (by injection e with e;exact e ▸ O)⟩
 obtain⟨z1,z2⟩:=b6 r.2.2.s o ⟨⟨q2.fm.n0,q2.fm.t,q2.fm.b,fA⟩,y.ol.kp k6,y.nf⟩ k6;obtain⟨u1,u2⟩:=b5 a _ o z1 z2;obtain⟨v1,v2⟩:=b1 _ o ⟨bs,a,u1⟩ (y2.trans u2);obtain⟨s1,s2⟩:=v1.Yq hi {bJ rs i with R:=r.2.2.R,pc:=r.2.2.pc} ⟨q2.rg,ok.cl,ok.cr⟩ rfl rfl N X;exact⟨rfl,q2.rg,L2,⟨q2.DO,q2.len,q2.tt⟩,s1,v2.trans s2⟩
end
variable{k k':Kv}{e op N E:Int}
section
theorem TR(k:Kv)(e:Int):(dQ k e).p=k.p:=by unfold dQ;split <;> rfl
theorem kD.p_{o:Int}(r:kD k o k'):k'.p=k.p:=by
 obtain⟨L,_,rfl⟩:=r;rfl
theorem gC.p_{l:List cP}(r:gC l k k'):k'.p=k.p:=by
 induction r with
 |nil k=>rfl
 |skip h r a=>exact a
 |fY h r1 r a=>exact a.trans r1.p_
theorem lH.p_{A B C D:Int}(r:lH k e op A B C D N E k'):k'.p=k.p:=by
 cases r with
 |alloc _=>
  unfold lJ;split
  .rfl
  .split
   .rfl
   .split
    .rfl
    .split <;> rfl
 |free _ r=>
  unfold rM at r;split at r
  .rw[r.2]
  .exact r.2.p_
 |read _=>rfl
 |write _=>
  unfold oD;split
  .rfl
  .split <;> rfl
 |load _=>
  unfold mP;split
  .rfl
  .split <;> rfl
 |zG _=>rfl
 |hand _ r=>
  unfold gT at r;split at r
  .rw[(af3 r).2]
  .split at r
   .split at r
    .rw[(af3 r).2]
    .rw[r.2]
   .split at r
    .unfold pW at r;split at r
     .rw[r.2]
     .obtain⟨_,L,_,rfl⟩:=r;rfl
    .unfold wP at r;split at r
     .rw[r.2]
     .obtain⟨_,L,_,r⟩:=r;exact r.p_
 |line _=>rfl
 |p7 _ _=>rfl
 |time _ r=>
  unfold mQ at r;split at r
  .rw[r.2]
  .split at r
   .rw[r.2]
   .rcases r with r|r <;> rw[r]
 |send _ r=>
  rcases r with r|⟨o,r⟩
  .rw[r]
  .rw[r,TR]
 |next _ _=>rfl
 |null _=>rfl
theorem iM.p_{c:Int}{x:Int}(r:iM c e i x k N E k'):k'.p=k.p:=by
 unfold iM at r;split at r
 .rw[r.2.2]
 .split at r
  .rcases r with r|r
   .exact r.p_
   .rw[r.2.2]
  .rw[r.2.2]
inductive zX (t:Int->Option (Int×Bool)) (s:dU):dU->Prop
 |refl:zX t s s
 |put {s1:dU} (r:zX t s s1) (p f a v:Int) (h:t p=some (f,true)):zX t s (iV s1 f a v)
theorem zX.trans{t:Int->Option (Int×Bool)}{a b c:dU}(h:zX t a b)(d:zX t b c):zX t a c:=by
 induction d with
 |refl=>exact h
 |put r p f a v hp e=>exact .put e p f a v hp
theorem zX.n_{t:Int->Option (Int×Bool)}{a b:dU}(h:zX t a b):b.n=a.n/\b.T=a.T:=by
 induction h with
 |refl=>exact⟨rfl,rfl⟩
 |put r p f a v hp c=>
  unfold iV;split
  .exact c
  .exact c
open Pa.Cp in
theorem Ry{t:Int->Option (Int×Bool)}{s s':dU}{ad v:Int}(h:Pa.Cp.stM t s ad v= .ok s'):zX t s s':=by
 unfold Pa.Cp.stM J9 at h;cases ht:t (ad /16) with
 |none=>rw[ht] at h;cases h
 |some q=>
  obtain⟨f,b⟩:=q;rw[ht] at h;simp only at h;cases b with
  |false=>simp at h
  |true=>
   simp only[ae1,and_false,acG] at h;split at h
   .injection h with h;rw[<-h];exact .put .refl (ad /16) f _ _ ht
   .cases h
open Pa.Cp in
theorem Uh{t:Int->Option (Int×Bool)}{i:In}{m:St}{q:St×Tp}(h:kV t i m= .ok q):zX t m.s q.1.s/\(q.2.k=1->∃a,q.2.x=rat q.1.R a):=by
 unfold kV at h;simp only at h;by_cases h0:i.op=0
 .rw[abP h0] at h;cases h
 rw[abQ h0] at h;by_cases h1:i.op=1
 .rw[abP h1] at h;injection h with h;subst h;exact⟨.refl,λh=>by simp at h⟩
 rw[abQ h1] at h;by_cases h2:i.op=12
 .rw[abP h2] at h;split at h
  .cases h
  .injection h with h;subst h;exact⟨.refl,λh=>by simp at h⟩
 rw[abQ h2] at h;by_cases h3:i.op=13
 .rw[abP h3] at h;split at h
  .cases h
  .rename_i hs;injection h with h;subst h;exact⟨Ry hs,λh=>by simp at h⟩
 rw[abQ h3] at h;by_cases h4:i.op=14
 .rw[abP h4] at h;injection h with h;subst h;exact⟨.refl,λh=>by simp at h⟩
 rw[abQ h4] at h;by_cases h5:i.op=15
 .rw[abP h5] at h;injection h with h;subst h;exact⟨.refl,λh=>by simp at h⟩
 rw[abQ h5] at h;by_cases h6:i.op=16
 .rw[abP h6] at h;injection h with h;subst h;exact⟨.refl,λ_=>⟨i.a,rfl⟩⟩
 rw[abQ h6] at h;by_cases h7:i.op=17
 .rw[abP h7] at h;injection h with h;subst h;exact⟨.refl,λh=>by simp at h⟩
 rw[abQ h7] at h;by_cases h8:i.op=18
 .rw[abP h8] at h;split at h
  .cases h
  .injection h with h;subst h;exact⟨.refl,λh=>by simp at h⟩
 rw[abQ h8] at h;split at h
 .cases h
 .injection h with h;subst h;exact⟨.refl,λh=>by simp at h⟩
open Pa.Cp in
theorem YT{t:Int->Option (Int×Bool)}{ad:Int}{b:Bool}{z:Int×Int}(h:J9 t ad b= .error z):z.1≠1:=by
 unfold J9 at h;split at h
 .injection h with h;subst h;show(5:Int)≠1;decide
 .split at h
  .injection h with h;subst h;show(6:Int)≠1;decide
  .cases h
open Pa.Cp in
theorem Ty{t:Int->Option (Int×Bool)}{i:In}{m:St}{z:Int×Int}(h:kV t i m= .error z):z.1≠1:=by
 unfold kV at h;simp only at h;by_cases hc:i.op=0
 .rw[abP hc] at h;injection h with h;subst h;show(2:Int)≠1;decide
 rw[abQ hc] at h;clear hc;by_cases hc:i.op=1
 .rw[abP hc] at h;cases h
 rw[abQ hc] at h;clear hc;by_cases hc:i.op=12
 .rw[abP hc] at h;cases hl:IG t m.s (vN (rat m.R i.b) i.n) with
  |ok v=>rw[hl] at h;cases h
  |error y=>
   rw[hl] at h;injection h with h;subst h;unfold IG at hl;split at hl
   .rename_i hf;injection hl with hl;subst hl;exact YT hf
   .split at hl
    .cases hl
    .injection hl with hl;subst hl;show(5:Int)≠1;decide
 rw[abQ hc] at h;clear hc;by_cases hc:i.op=13
 .rw[abP hc] at h;cases hl:Pa.Cp.stM t m.s (vN (rat m.R i.b) i.n) (rat m.R i.a) with
  |ok v=>rw[hl] at h;cases h
  |error y=>
   rw[hl] at h;injection h with h;subst h;unfold Pa.Cp.stM at hl;split at hl
   .rename_i hf;injection hl with hl;subst hl;exact YT hf
   .split at hl
    .cases hl
    .injection hl with hl;subst hl;show(5:Int)≠1;decide
 rw[abQ hc] at h;clear hc;by_cases hc:i.op=14
 .rw[abP hc] at h;cases h
 rw[abQ hc] at h;clear hc;by_cases hc:i.op=15
 .rw[abP hc] at h;cases h
 rw[abQ hc] at h;clear hc;by_cases hc:i.op=16
 .rw[abP hc] at h;cases h
 rw[abQ hc] at h;clear hc;by_cases hc:i.op=17
 .rw[abP hc] at h;cases h
 rw[abQ hc] at h;clear hc;by_cases hc:i.op=18
 .rw[abP hc] at h;split at h
  .injection h with h;subst h;show(3:Int)≠1;decide
  .cases h
 rw[abQ hc] at h;clear hc;split at h
 .injection h with h;subst h;show(4:Int)≠1;decide
 .cases h
open Pa.Cp in
theorem Gy(t:Int->Option (Int×Bool))(C:List Int)(m:St):zX t m.s (mG t C m).2.s/\((mG t C m).1.k=1->∃a,(mG t C m).1.x=rat (mG t C m).2.R a):=by
 unfold mG;split
 .exact⟨.refl,λh=>by simp at h⟩
 .split
  .exact⟨.refl,λh=>by simp at h⟩
  .rename_i i _;split
   .rename_i z hz;refine⟨.refl,λh=>?_⟩;exact absurd h (Ty hz)
   .rename_i q hq;exact Uh hq
open Pa.Cp in
theorem UN(t:Int->Option (Int×Bool))(C:List Int):∀(k n:Nat) (m:St),zX t m.s (nB t C k n m).2.2.s/\((nB t C k n m).1.k=1->n+1<=(nB t C k n m).2.1/\∃a,(nB t C k n m).1.x=rat (nB t C k n m).2.2.R a)
 |0,n,m=>⟨.refl,λh=>by simp[nB] at h⟩
 |k+1,n,m=>by
  have hs:=Gy t C m;unfold nB;split
  .have:=UN t C k (n+1) (mG t C m).2;exact⟨hs.1.trans this.1,λh=>⟨by have:=(this.2 h).1;omega,(this.2 h).2⟩⟩
  .split
   .exact⟨hs.1,λh=>⟨abM _,hs.2 h⟩⟩
   .rename_i hne;exact⟨hs.1,λh=>absurd h hne⟩
end
variable{rs oa:List Rm}{j hb m g q1:Nat}{R:List Int}{F F3:Nat->Prop}{w wr w6 wE wx:aA}
section
inductive lY (e:Int) (k:Kv):Kv->Prop
 |refl:lY e k k
 |run {k1:Kv} (r:lY e k k1) (L:List En) (s:dU) (hL:qC L/\L.length<=16/\Pa.Cp.nH L=Pa.Cp.nH k1.t) (hs:zX (Pa.Cp.nH k1.t e) k1.f s):lY e k {k1 with t:=L,f:=s}
 |Cj {k1 k2:Kv} (r:lY e k k1) (l x N E:Int) (h:iM l e 0 x k1 N E k2):lY e k k2
 |EY {k1:Kv} (r:lY e k k1) (b:Bool):lY e k {k1 with s:=jZ k1.s e b}
 |tell {k1:Kv} (r:lY e k k1):lY e k (dQ k1 e)
theorem lY.p_(r:lY e k k'):k'.p=k.p:=by
 induction r with
 |refl=>rfl
 |run r L s d hs a=>exact a
 |Cj r l x N E h a=>rw[h.p_,a]
 |EY r b a=>exact a
 |tell r a=>rw[TR,a]
structure vZ(rs rs':List Rm)(i:Nat):Prop where
 l:∀j,(bJ rs' j).l=(bJ rs j).l
 g:∀j,(bJ rs' j).g=(bJ rs j).g
 sn:∀j,(bJ rs' j).sn=(bJ rs j).sn
 C:∀j,(bJ rs' j).C=(bJ rs j).C
 ru:∀j,j≠i->(bJ rs' j).ru=(bJ rs j).ru
 cA:(bJ rs' i).cA=(bJ rs i).cA
 cc:(bJ rs' i).cc=(bJ rs i).cc
theorem vZ.refl(rs:List Rm)(i:Nat):vZ rs rs i:=⟨λ_=>rfl,λ_=>rfl,λ_=>rfl,λ_=>rfl,λ_ _=>rfl,rfl,rfl⟩
theorem vZ.set(h:vZ rs oa i)(hi:i<oa.length)(R:List Int)(p:Int)(b:Bool):vZ rs (oa.set i {bJ oa i with R:=R,pc:=p,ru:=b}) i:=by
 refine⟨λj=>?_,λj=>?_,λj=>?_,λj=>?_,λj a=>?_,?_,?_⟩;iterate 4
  by_cases e:i=j
  .subst e;rw[l9 hi];first|exact h.l i|exact h.g i|exact h.sn i|exact h.C i
  .rw[vT e];first|exact h.l j|exact h.g j|exact h.sn j|exact h.C j
 .rw[vT (aeC a)];exact h.ru j a
 .rw[l9 hi];exact h.cA
 .rw[l9 hi];exact h.cc
theorem TZ(r:Rm)(h:r.R.length=8)(a:j<8)(v:Int):gE {r with R:=r.R.set j v}=(gE r).set (5+j) (.int .u64 v):=by
 unfold gE;rw[ab7 _ _ aT,adT _ _ (by simp[h];omega),adP];simp
theorem GM(h:Pa.Cp.FN R)(j:Nat){v:Int}(b:0<=v/\v<18446744073709551616):Pa.Cp.FN (R.set j v):=⟨by rw[ab1];exact h.1,λx a=>by
 rcases acT a with a|rfl
 .exact h.2 x a
 .exact b⟩
theorem bY.Yk{c:Int}(h:bY F w hb m g c k rs)(hi:i<8)(x y:Int)(a:0<=x/\x<18446744073709551616)(b:0<=y/\y<18446744073709551616):bY F ((w.setCell (hb,2+i *15+5) (.int .u64 x)).setCell (hb,2+i *15+5+1) (.int .u64 y)) hb m g c k (rs.set i {bJ rs i with R:=((bJ rs i).R.set 0 x).set 1 y,pc:=(bJ rs i).pc,ru:=(bJ rs i).ru})/\Kp F w ((w.setCell (hb,2+i *15+5) (.int .u64 x)).setCell (hb,2+i *15+5+1) (.int .u64 y)):=by
 have hl:i<rs.length:=by rw[h.l8];exact hi
 have ok:=h.B7 hi;have r1:=GM ok.rg 0 a;obtain⟨d,a2⟩:=h.XD hi (j:=5) aQ (.int .u64 x) {bJ rs i with R:=(bJ rs i).R.set 0 x} (TZ _ ok.rg.1 (j:=0) aQ x) ⟨r1,ok.cl,ok.cr⟩ rfl rfl;have e:bJ (rs.set i {bJ rs i with R:=(bJ rs i).R.set 0 x}) i={bJ rs i with R:=(bJ rs i).R.set 0 x}:=l9 hl _;obtain⟨b1,b2⟩:=d.XD hi (j:=6) aQ (.int .u64 y) {bJ rs i with R:=((bJ rs i).R.set 0 x).set 1 y} (by rw[e];exact TZ {bJ rs i with R:=(bJ rs i).R.set 0 x} r1.1 (j:=1) aQ y) ⟨GM r1 1 b,ok.cl,ok.cr⟩ (by rw[e];rfl) (by rw[e];rfl);rw[List.set_set] at b1;exact⟨b1,a2.trans b2⟩
def Vy(F:Nat->Prop)(hb m g:Nat)(c:Int)(k:Kv)(rs:List Rm)(i:Nat)(n0:Nat)(w:aA)(e:aM)(w':aA):Prop:=∃(s x y z:Int) (k':Kv) (rs':List Rm),e= .returned (.tuple #[s, .agg #[x,y, .int .u64 z]])/\lY i k k'/\KI k' (n0+40)/\vZ rs rs' i/\bY F w' hb m g c k' rs'/\Kp F w w'
section
variable{F:Nat->Prop}{w w0 w':aA}{hb m g:Nat}{c:Int}{k:Kv}{rs:List Rm}
theorem oM(W:aA)(p:aJ):W.drew.cell? p=W.cell? p:=rfl
theorem Zt{o:Obj}(h:bY (Nw F3 wr wr.drew) w6 hb m g c k rs/\Kp (Nw F3 wr wr.drew) wr.drew w6):bY (Fb F3 w6) (w6.alloc o) hb m g c k rs/\Kp F3 wr (w6.alloc o)/\wr.heap.size<=w6.heap.size:=by
 have h1:bY F3 w6 hb m g c k rs:=h.1.less λb hb=> .inl hb
 exact⟨(bY.cH hb m g c k rs).box h1 h1.fl o,((Kp.refl F3 wr).drew.trans (h.2.mono λb hb=> .inl hb)).trans (h1.below (aX w6 o)).2,h.2.size⟩
theorem Zd{o:Obj}(fl:Ol F3 wr)(h:bY (Nw F3 wr (wr.alloc o).drew) w6 hb m g c k rs/\Kp (Nw F3 wr (wr.alloc o).drew) (wr.alloc o).drew w6)(a:w6.grownBy wE (some wr.heap.size)):bY (Fb F3 wr) wE hb m g c k rs/\Kp F3 wr wE/\wr.heap.size<=wr.heap.size:=by
 have d:Nw F3 wr (wr.alloc o).drew wr.heap.size:= .inr ⟨abM _,(show wr.heap.size<(wr.alloc o).heap.size by simp)⟩;have f:(wr.alloc o).heap.size<=w6.heap.size:=h.2.size;have i:wr.heap.size<w6.heap.size:=abO aT f;refine⟨dV.gr (bY.cH hb m g c k rs) h.1 a (λq hq=>by injection hq with hq;exact hq ▸ d) (λb hb=>?_) (λb _ hb=>?_),((Kp.cD (aX wr o).drew fl).trans (h.2.mono λb hb=> .inl hb)).trans (Kp.grown a λb hb=>⟨by have:=fl b hb;omega,λe=>by injection e with e;have:=fl b hb;omega⟩),abM _⟩
 .rcases hb with hb|rfl
  .have:=fl b hb;have:=a.size;omega
  .have:=a.size;omega
 .rcases hb with hb|rfl
  .exact .inl hb
  .exact d
theorem VD(a:∀b,F b->F3 b)(j:F3 q1)(hq:∀b,F b->b≠q1)(kw:Kp F w wr)(h:bY F3 wx hb m g c k rs)(l:Kp F3 wr wx)(i:wx.grownBy wE (some q1)):bY F wE hb m g c k rs/\Kp F w wE:=by
 have f:∀b,F b->b<wx.heap.size:=λb hb=>h.fl b (a b hb)
 exact⟨dV.gr (bY.cH hb m g c k rs) h i (λq d=>by injection d with d;exact d ▸ j) (λb hb=>abO (f b hb) i.size) (λb _ hb=>a b hb),(kw.trans (l.mono a)).trans (Kp.grown i λb hb=>⟨f b hb,λe=>hq b hb (by injection e)⟩)⟩
theorem V6(h:bY F w hb m g c k rs)(hI:KI k n0)(hn:n0+40<999999)(hi:i<4)(l:Int)(hl: -100000<=l/\l<=100000):aG prog 47 #[.pointer hb,i,l] w (Vy F hb m g c k rs i n0 w):=by
 have hb1:=aX w (aI #[aU,aU,bC] 77);have bk:=bE.new w 77 #[aU,aU,bC];have hx:bY (Fb F w) (w.alloc (aI #[aU,aU,bC] 77)) hb m g c k rs:=(bY.cH hb m g c k rs).box h h.fl _;have H1:=aP (And.intro hx (h.below hb1).2);have HI:=aP hI;have HQ:aH (∀b,F b->b≠w.heap.size):=λb hb e=>by have:=h.fl b hb;omega
 have c0:(w.alloc (aI #[aU,aU,bC] 77)).cell? (hb,0)=some (.pointer m):=hx.c0;obtain⟨G0,a0,_,d0,_⟩:=hx.kn;obtain⟨t1,t0⟩:=hx.tf;have hp1:=aP (show k.p=(k.p.1,k.p.2) from rfl);generalize k.p.1=gt at *;generalize k.p.2=gf at *;have i0:(0:Int)<=i:=aQ;have i1:(i:Int)<8:=aQ;have i2:i<8:=aQ;clear h hx hI hb1;go_enter func47,ntmps47
 go_upto_region 1 with(fail)
 generalize w.alloc (aI #[aU,aU,bC] 77)=w1 at *;generalize w.heap.size=q1 at *;go_wp2_with(go_at_call 11;(refine aS (lR d0) ?_);rintro x w2 ⟨rfl,rfl⟩)
 go_cut [10] (λs10 wx=>∃q,s10= .pointer (some ⟨q,0,none⟩)/\w1.heap.size<=q/\bE wx q 241 #[i, .pointer gt, .pointer gf]/\aD w1 w1 wx)
 case first=>
  go_region_held3 (λW=>W.cell? (g,1)=some (.pointer gt)/\W.cell? (g,0)=some (.pointer gf)) (first|exact⟨t1,t0⟩|exact⟨bK (aX w1 _).drew t1,bK (aX w1 _).drew t0⟩|exact⟨bK (aX _ _) t1,bK (aX _ _) t0⟩|fail) (fail)
  all_goals
   go_wp2_with fail
   go_meet
   first
    |exact⟨_,rfl,abM _,bE.new w1 _ _,aX w1 _⟩
    |exact⟨_,rfl,abM _,(bE.new w1 _ _).drewN 1,(aX w1 _).drew⟩
 case rest=>
 obtain⟨I,rfl,hq10,bp,hbc⟩:=hcut;obtain⟨T,hF3⟩:∃T:Nat->Prop,T=λb=>Fb F q1 b\/b=I:=⟨_,rfl⟩
 have B:aH (bY T wc hb m g c k rs/\Kp F w wc/\(∀b,F b->T b)/\T q1/\T I):=by
  have h1:=dV.grow (bY.cH hb m g c k rs) H1.o.1 H1.o.1.fl hbc;subst hF3;exact⟨h1.less λb hb=>by
   rcases hb with hb|rfl
   .exact .inl hb
   .exact .inr ⟨hq10,bp.lt⟩,H1.o.2.trans ((H1.o.1.below hbc).2.unbox),λb hb=> .inl (.inl hb), .inl (.inr rfl), .inr rfl⟩
 have BP:=aP bp;have BK:aH (bE wc q1 77 #[aU,aU,bC]):=bk.keep hbc;clear hF3 bp bk hbc hq10 H1 c0 d0 t1 t0;go_wp2_with fail
 go_loopw [2,11] (λv2 v11 wr=>∃(j:Nat) (lv:Int) (O:Kv) (d:List Rm),j<=32/\v11= .int .i64 j/\v2= .int .i64 lv/\(-100000<=lv+j/\lv<=100000)/\aH (lY i k O/\KI O (n0+j)/\vZ rs d i/\bY T wr hb m g c O d/\Kp F w wr/\Kp T wc wr)) (λ_ v11 _=>32 - (aL v11).toNat)
 case atStart=>exact⟨0,l,k,rs,aQ,rfl,rfl,aQ, .refl,HI.o,vZ.refl rs i,B.o.1,B.o.2.1,Kp.refl _ _⟩
 case round=>
  obtain⟨j,lv,O,d,hj,rfl,rfl,hlv,D⟩:=hrel;by_cases hlt:j<32
  .have h4:=D.o.2.2.2.1;have e4:=h4.Km (n:=i) i2;have p0:=D.o.2.2.2.2.2.cell (BP.o.cell 0 _ rfl) B.o.2.2.2.2;have p1:=D.o.2.2.2.2.2.cell (BP.o.cell 1 _ rfl) B.o.2.2.2.2;have p2:=D.o.2.2.2.2.2.cell (BP.o.cell 2 _ rfl) B.o.2.2.2.2;simp only[aeT,ac6,acZ] at p0 p1 p2;have hsub:((32 - j:Nat):Int)=32 - (j:Int):=aQ;have HL:aH (∀W,aD wr wr W->aG prog 81 #[.pointer (some ⟨hb,2+i *15+5,none⟩), .slice (bJ d i).cA (bJ d i).C.length (bJ d i).cc, .agg #[i, .pointer gt, .pointer gf], .int .i64 (32 - (j:Int))] W λr w'=>∃(K pp G:Int) (n:Nat) (M:Kv) (y:List Rm),r= .returned (.tuple #[.agg #[K,pp, .int .u64 G],n])/\aH (j+n<=32/\(K=1->1<=n/\0<=G/\G<18446744073709551616))/\aH (lY i k M/\KI M (n0+j)/\vZ rs y i)/\bY (Nw T wr W) w' hb m g c M y/\Kp (Nw T wr W) W w'/\w'.cell? (hb,2+i *15+4)=some (.slice (bJ d i).cA (bJ d i).C.length (bJ d i).cc)/\w'.cell? (I,0)=some (.int .i64 i)/\w'.cell? (I,1)=some (.pointer gt)/\w'.cell? (I,2)=some (.pointer gf)):=λW hW=>by
    have h5:=dV.grow (bY.cH hb m g c O d) h4 h4.fl hW;have hk1:O.p=(gt,gf):=D.o.1.p_.trans hp1.o;have hr:=Ea h5 D.o.2.1 i2 i (32 - j) aQ;rw[hk1,hsub] at hr;refine hr.mono ?_;rintro r w' ⟨rfl,hR,L,hL,h6,J⟩;have hle:=Pa.Cp.US (Pa.Cp.nH O.t i) (bJ d i).C (32 - j) 0 ⟨(bJ d i).R,(bJ d i).pc,O.f⟩;have hch:=UN (Pa.Cp.nH O.t i) (bJ d i).C (32 - j) 0 ⟨(bJ d i).R,(bJ d i).pc,O.f⟩;generalize Pa.Cp.nB (Pa.Cp.nH O.t i) (bJ d i).C (32 - j) 0 ⟨(bJ d i).R,(bJ d i).pc,O.f⟩=z at *;have hl1:i<d.length:=by rw[h4.l8];exact i2
    have hcr:vZ rs (FQ d i z.2.2.R z.2.2.pc) i:=by
     have:=D.o.2.2.1.set hl1 z.2.2.R z.2.2.pc (bJ d i).ru;exact this
    have e6:=h6.Km (n:=i) i2;unfold FQ at e6;rw[l9 hl1] at e6;have U:=D.o.2.1;refine⟨_,_,_,z.2.1,_,_,rfl,⟨aQ,λhk=>?_⟩,⟨.run D.o.1 L _ hL hch.1,⟨U.sd,U.p4,U.cn,hL.2.1,hL.1,U.bb,U.bu,hch.1.n_.1.trans U.f6,U.an⟩,hcr⟩,h6,J,e6,J.cell (bK hW p0) (.inl B.o.2.2.2.2),J.cell (bK hW p1) (.inl B.o.2.2.2.2),J.cell (bK hW p2) (.inl B.o.2.2.2.2)⟩;obtain⟨q1,a,q2⟩:=hch.2 hk;rw[q2];exact⟨aQ,Pa.Cp.GD hR a⟩
   generalize (bJ d i).cA=cA at *;generalize (bJ d i).C.length=cl at *;generalize (bJ d i).cc=cc at *;have HBA:aH (∀o,aD wr wr (wr.alloc o).drew):=λo=>(aX wr o).drew
   have hgA:hb≠wr.heap.size:=by have:=h4.bk.lt;omega
   have hqA:I≠wr.heap.size:=by have:=World.block_lt_of_cell? wr _ p0;simp only at this;omega
   have j1:(j:Int)<32:=aQ;have HF3:aH (Ol T wr):=h4.fl;have hwr:IntKind.i64.wrap (32 - (j:Int))=32 - (j:Int):=by rw[IntKind.wrap_i64];omega
   clear h4 hsub hlt hj;go_upto_region 6 with(fail)
   go_cut [12,13] from 36 to 112 (λs12 s13 wx=>∃(A:Nat) (K pp G:Int) (n:Nat) (M:Kv) (y:List Rm),s12= .pointer A/\s13= .int .i64 n/\aH (j+n<=32/\(K=1->1<=n/\0<=G/\G<18446744073709551616))/\aH (lY i k M/\KI M (n0+j)/\vZ rs y i)/\aH (bE wx A 77 #[K,pp, .int .u64 G])/\aH (bY (Fb T A) wx hb m g c M y/\Kp T wr wx/\wr.heap.size<=A))
   case first=>
    go_region_held3 (λW=>W.cell? (hb,2+i *15+4)=some (.slice cA cl cc)/\W.cell? (I,0)=some (.int .i64 i)/\W.cell? (I,1)=some (.pointer gt)/\W.cell? (I,2)=some (.pointer gf)) (first|with_reducible exact⟨‹_›,‹_›,‹_›,‹_›⟩|exact⟨by simp only[dP hgA,dP hgB];with_reducible assumption,by simp only[dP hqA,dP hqB];with_reducible assumption,by simp only[dP hqA,dP hqB];with_reducible assumption,by simp only[dP hqA,dP hqB];with_reducible assumption⟩|exact⟨bK (aX wr _).drew e4,bK (aX wr _).drew p0,bK (aX wr _).drew p1,bK (aX wr _).drew p2⟩|exact⟨bK (aX _ _) e4,bK (aX _ _) p0,bK (aX _ _) p1,bK (aX _ _) p2⟩|exact⟨bK (aX _ _) ‹_›,bK (aX _ _) ‹_›,bK (aX _ _) ‹_›,bK (aX _ _) ‹_›⟩|exact⟨e4,p0,p1,p2⟩|fail) ((go_at_call 81;first|((refine aS (HL.o _ (Below.refl _ _).drew) ?_);rintro r P ⟨K,pp,G,n,M,y,rfl,HK,u,h6,J,e6,z0,z1,z2⟩;(have hgB:hb≠P.heap.size:=by have:=h6.bk.lt;omega);(have hqB:I≠P.heap.size:=by have:=World.block_lt_of_cell? P _ z0;simp only at this;omega);(have HM6:=bP h6 J);clear h6 J)|((refine aS (HL.o _ (HBA.o _)) ?_);rintro r P ⟨K,pp,G,n,M,y,rfl,HK,u,h6,J,e6,z0,z1,z2⟩;(have zb:bE P wr.heap.size 77 #[aU,aU,bC]:=J.aY (bE.new wr 77 #[aU,aU,bC]) (.inr ⟨abM _,(show wr.heap.size<(wr.alloc (aI #[aU,aU,bC] 77)).heap.size by simp)⟩));(have ZB:=aP zb);(have Q:=zb.cell 0 _ rfl);(have Z:=zb.cell 1 _ rfl);(have S:=zb.cell 2 _ rfl);(have f0:=zb.frozen 0);(have f1:=zb.frozen 1);(have f2:=zb.frozen 2);(have HM6:=bP h6 J);(have hgB:=hgA);(have hqB:=hqA);clear zb h6 J)|fail))
    all_goals
     go_wp2_with fail
     go_meet
     first
      |exact⟨_,K,pp,G,n,M,y,rfl,rfl,HK,u,bE.new P _ _,Zt HM6.o⟩
      |exact⟨_,K,pp,G,n,M,y,rfl,rfl,HK,u,((ZB.o.cB 0 _).cB 1 _).cB 2 _,Zd HF3.o HM6.o (aZ (aZ (aZ (bL _ _) 0 _) 1 _) 2 _)⟩
   case rest=>
   obtain⟨A,K,pp,G,n,M,y,rfl,rfl,HK,u,ZT,HX⟩:=hcut;have a1:aH (bY T _ hb m g c M y):=HX.o.1.less λb hb=> .inl hb
   have V:=HX.o.2.1.aY (D.o.2.2.2.2.2.aY BK.o B.o.2.2.2.1) B.o.2.2.2.1;have Q:=ZT.o.cell 0 _ rfl;have Z:=ZT.o.cell 1 _ rfl;have S:=ZT.o.cell 2 _ rfl;have b0:=V.cell 0 _ rfl;have b1:=V.cell 1 _ rfl;have b2:=V.cell 2 _ rfl;have f0:=V.frozen 0;have f1:=V.frozen 1;have f2:=V.frozen 2;have n0':(0:Int)<=n:=aQ;have hjn:=HK.o.1;have n1':(j:Int)+(n:Int)<=32:=aQ;clear hjn e4 p0 p1 p2 HL HBA hgA hqA HF3 hwr;simp only[aeT,ac6,acZ] at Q Z S b0 b1 b2;by_cases e0:K=0
   .subst e0;go_wp2_with fail
    exact bodyPost_ret (v:= .tuple #[.int .i64 ((j:Int)+n), .agg #[aU,aU,bC]]) (by simp[results,results47,go_sem, *]) rfl ⟨_,0,0,0,M,y,rfl,u.o.1,u.o.2.1.mono aQ,u.o.2.2,VD B.o.2.2.1 B.o.2.2.2.1 HQ.o D.o.2.2.2.2.1 a1.o HX.o.2.1 (aZ (aZ (aZ (bL _ _) 0 _) 1 _) 2 _)⟩
   .have hl2:i<y.length:=by rw[a1.o.l8];exact i2
    by_cases e2:K=2
    .subst e2;have g14:=a1.o.V5 (n:=i) i2;have fz14:=a1.o.fz (2+i *15+14);have HS:=aP (HX.o.1.W9 (i:=i) i2 false);have X:A≠q1:=by have:=(D.o.2.2.2.2.2.aY BK.o B.o.2.2.2.1).lt;have:=HX.o.2.2;omega
     obtain⟨G4,gs,hs,d0,d6,back⟩:=HS.o.1.sd;have HRd:=aP (xD hs u.o.2.1.p8 i false);have HB:=aP (λs' w' h k=>(back s' w' h k).1);go_upto_region 20 with(fail)
     generalize wc.setCell (hb,2+i *15+14) (.bool false)=w5 at *;clear Q Z S b0 b1 b2 f0 f1 f2 g14 fz14 hs back;go_wp2_with fail
     refine aR HRd ?_;rintro r P ⟨rfl,hs6,J⟩;have Y:=aP (HB.o _ _ hs6 J);have K6:=aP (HS.o.2.trans Y.o.2);have zt:=K6.o.aY ZT.o (.inr rfl);have bq:=K6.o.aY V (.inl B.o.2.2.2.1);have Q:=zt.cell 0 _ rfl;have Z:=zt.cell 1 _ rfl;have S:=zt.cell 2 _ rfl;have b0:=bq.cell 0 _ rfl;have b1:=bq.cell 1 _ rfl;have b2:=bq.cell 2 _ rfl;have f0:=bq.frozen 0;have f1:=bq.frozen 1;have f2:=bq.frozen 2;simp only[aeT,ac6,acZ] at Q Z S b0 b1 b2;clear hs6 J HRd HB d0 d6;go_upto_region 21 with(fail)
     go_region_held3 (λW=>W.cell? (A,0)=some (.int .i64 2)/\W.cell? (A,1)=some (.int .i64 pp)/\W.cell? (A,2)=some (.int .u64 G)) (first|exact⟨Q,Z,S⟩|exact⟨by simp only[oM,dP X];exact Q,by simp only[oM,dP X];exact Z,by simp only[oM,dP X];exact S⟩|exact⟨‹_›,‹_›,‹_›⟩|fail) (fail)
     all_goals go_wp2_with fail
     have H:=aZ (aZ (aZ (bL P q1) 0 (.int .i64 2)) 1 (.int .i64 pp)) 2 (.int .u64 G);have HE:=aP (VD B.o.2.2.1 B.o.2.2.2.1 HQ.o D.o.2.2.2.2.1 (Y.o.1.less λb hb=> .inl hb) (HX.o.2.1.trans (K6.o.mono λb hb=> .inl hb)) (wE:=(((P.setCell (⟨q1,0,none⟩) (.int .i64 2)).setCell (⟨q1,1,none⟩) (.int .i64 pp)).setCell (⟨q1,2,none⟩) (.int .u64 G)).drew) ⟨H.os,H.tape,H.output,H.size,H.block⟩);have HKI:aH (KI {M with s:=jZ M.s i false} (n0+40)):=(u.o.2.1.mono aQ).EG (vV u.o.2.1.sd u.o.2.1.p4 i false).1 (vV u.o.2.1.sd u.o.2.1.p4 i false).2;exact bodyPost_ret (v:= .tuple #[.int .i64 ((j:Int)+n), .agg #[.int .i64 2,pp, .int .u64 G]]) (by simp[results,results47,go_sem,oM, *]) rfl ⟨_,_,_,_,_,_,rfl, .EY u.o.1 false,HKI.o,u.o.2.2.set hl2 (bJ y i).R (bJ y i).pc false,HE.o⟩
    .by_cases e1:K=1
     .subst e1;obtain⟨hn1,hx0,hx1⟩:=HK.o.2 rfl;have HAs:=aP (Er HX.o.1 u.o.2.1 aQ (i:Int) G lv ⟨hx0,hx1⟩);clear hx0 hx1 b0 b1 b2 f0 f1 f2;go_wp2_with fail
      refine aR HAs ?_;rintro r P ⟨N,E,k3,hW,hN,rfl,h6,J⟩;have Y:=bP h6 J;clear h6 J HAs Q Z S;go_upto_region 16 with(fail)
      have g0:∃v,P.cell? (hb,2+i *15+5)=some v:=⟨_,Y.o.1.RV (n:=i) i2 (j:=5) aQ (abL (by rw[pS (Y.o.1.B7 i2)];omega))⟩
      have g1:∃v,P.cell? (hb,2+i *15+5+1)=some v:=⟨_,Y.o.1.RV (n:=i) i2 (j:=6) aQ (abL (by rw[pS (Y.o.1.B7 i2)];omega))⟩
      obtain⟨v0,g0⟩:=g0;obtain⟨v1,g1⟩:=g1;have z0:=Y.o.1.fz (2+i *15+5);have z1:=Y.o.1.fz (2+i *15+5+1);go_region_held3 (λ_=>True) (exact trivial) (fail)
      have HG:=aP (Y.o.1.Yk (i:=i) i2 N (IntKind.u64.wrap E) hN ⟨by rw[IntKind.wrap_u64];omega,by rw[IntKind.wrap_u64];omega⟩);have hlw:IntKind.i64.wrap (lv - 1)=lv - 1:=by rw[IntKind.wrap_i64];omega
      generalize (P.setCell (hb,2+i *15+5) (.int .u64 N)).setCell (hb,2+i *15+5+1) (.int .u64 (IntKind.u64.wrap E))=w7 at *;clear g0 g1 z0 z1;go_wp2_with fail
      have hd:=HG.o.1.below (Below.refl w7 w7).drew;have O:Kp T wr w7.drew:=HX.o.2.1.trans (((Y.o.2.trans HG.o.2).trans hd.2).mono λb hb=> .inl hb);refine⟨⟨j+n,lv - 1,k3,_,aQ,rfl,rfl,aQ, .Cj u.o.1 lv G N E hW,(hW.ki u.o.2.1).mono aQ,u.o.2.2.set hl2 _ (bJ y i).pc (bJ y i).ru,hd.1.less λb hb=> .inl hb,D.o.2.2.2.2.1.trans (O.mono B.o.2.2.1),D.o.2.2.2.2.2.trans O⟩,by simp only[aL];omega⟩
     .have e0':¬K=0:=e0;have g14:=a1.o.V5 (n:=i) i2;have fz14:=a1.o.fz (2+i *15+14);have HS:=aP (HX.o.1.W9 (i:=i) i2 false);have X:A≠q1:=by have:=(D.o.2.2.2.2.2.aY BK.o B.o.2.2.2.1).lt;have:=HX.o.2.2;omega
      obtain⟨G4,a4,hk4,d0,back⟩:=HS.o.1.kn;have HRd:=aP (tU hk4 u.o.2.1.p8 i 8 K G aQ);have HB:=aP (λk' w' h k=>back k' w' h k);go_upto_region 10 with(fail)
      generalize wc.setCell (hb,2+i *15+14) (.bool false)=w5 at *;clear Q Z S b0 b1 b2 f0 f1 f2 g14 fz14 hk4 back;have zt5:=HS.o.2.aY ZT.o (.inr rfl);have Q:=zt5.cell 0 _ rfl;have S:=zt5.cell 2 _ rfl;simp only[aeT,ac6,acZ] at Q S;go_wp2_with fail
      refine aR HRd ?_;rintro r P ⟨vv,rfl,hs6,J⟩;have Y:=aP (HB.o _ _ ⟨_,hs6⟩ J);have K6:=aP (HS.o.2.trans Y.o.2);clear Q S zt5;have zt:=K6.o.aY ZT.o (.inr rfl);have bq:=K6.o.aY V (.inl B.o.2.2.2.1);have Q:=zt.cell 0 _ rfl;have Z:=zt.cell 1 _ rfl;have S:=zt.cell 2 _ rfl;have b0:=bq.cell 0 _ rfl;have b1:=bq.cell 1 _ rfl;have b2:=bq.cell 2 _ rfl;have f0:=bq.frozen 0;have f1:=bq.frozen 1;have f2:=bq.frozen 2;simp only[aeT,ac6,acZ] at Q Z S b0 b1 b2;clear hs6 J HRd HB d0;go_upto_region 11 with(fail)
      go_region_held3 (λW=>W.cell? (A,0)=some (.int .i64 K)/\W.cell? (A,1)=some (.int .i64 pp)/\W.cell? (A,2)=some (.int .u64 G)) (first|exact⟨Q,Z,S⟩|exact⟨by simp only[oM,dP X];exact Q,by simp only[oM,dP X];exact Z,by simp only[oM,dP X];exact S⟩|exact⟨‹_›,‹_›,‹_›⟩|fail) (fail)
      all_goals go_wp2_with fail
      have H:=aZ (aZ (aZ (bL P q1) 0 (.int .i64 K)) 1 (.int .i64 pp)) 2 (.int .u64 G);have HE:=aP (VD B.o.2.2.1 B.o.2.2.2.1 HQ.o D.o.2.2.2.2.1 (Y.o.1.less λb hb=> .inl hb) (HX.o.2.1.trans (K6.o.mono λb hb=> .inl hb)) (wE:=(((P.setCell (⟨q1,0,none⟩) (.int .i64 K)).setCell (⟨q1,1,none⟩) (.int .i64 pp)).setCell (⟨q1,2,none⟩) (.int .u64 G)).drew) ⟨H.os,H.tape,H.output,H.size,H.block⟩);have HKI:aH (KI (dQ M i) (n0+40)):=(u.o.2.1.mono aQ).tell i;exact bodyPost_ret (v:= .tuple #[.int .i64 ((j:Int)+n), .agg #[K,pp, .int .u64 G]]) (by simp[results,results47,go_sem,oM, *]) rfl ⟨_,_,_,_,_,_,rfl, .tell u.o.1,HKI.o,u.o.2.2.set hl2 (bJ y i).R (bJ y i).pc false,HE.o⟩
  .obtain rfl:j=32:=aQ;have V:=D.o.2.2.2.2.2.aY BK.o B.o.2.2.2.1;have b0:=V.cell 0 _ rfl;have b1:=V.cell 1 _ rfl;have b2:=V.cell 2 _ rfl;have f0:=V.frozen 0;have f1:=V.frozen 1;have f2:=V.frozen 2;simp only[aeT,ac6,acZ] at b0 b1 b2;go_wp2_with fail
   exact bodyPost_ret (v:= .tuple #[.int .i64 32, .agg #[aU,aU,bC]]) (by simp[results,results47,go_sem, *]) rfl ⟨_,0,0,0,O,d,rfl,D.o.1,D.o.2.1.mono aQ,D.o.2.2.1,VD B.o.2.2.1 B.o.2.2.2.1 HQ.o D.o.2.2.2.2.1 D.o.2.2.2.1 (Kp.refl _ _) (aZ (aZ (aZ (bL _ _) 0 _) 1 _) 2 _)⟩
end
end
end
section
open Go.RowKit
end
section
open Go.RowKit Go.Lib Go.Shelf dL Fr Up Nt
structure kH(c:Int)(k:Kv)(rs:List Rm)(ws:List (Int×Int×Int))(xs:List Wd)(qs:List (Int×Int×Int))(rn:Rn)(D:List (Int×Int))(AS:List Int)(tk nu:Int)(nT:Nat)(k':Kv)(rs':List Rm):Prop where
 as_:AS=tI rs qs
 t:∃k2,sV {k with s:=kA k.s (iF rs qs) 8} c ws xs rn D k2/\((∃i:Nat,rn.env=i/\i<4/\(bJ (iF rs qs) i).ru=true/\lY i k2 k'/\vZ (iW (iF rs qs) rn.env 8) rs' i)\/((rn.env<0\/∃i:Nat,rn.env=i/\i<4/\(bJ (iF rs qs) i).ru=false)/\k'=k2/\rs'=iW (iF rs qs) rn.env 8))
 j:(tk,nu)=mJ (iF rs qs) rn.env 8
 n:nT=(kU (iF rs qs) rn.env 8).length
def Jz(F:Nat->Prop)(hb m g:Nat)(c:Int)(k:Kv)(rs:List Rm)(n0 M:Nat)(ws:List (Int×Int×Int))(xs:List Wd)(qs:List (Int×Int×Int))(w:aA)(e:aM)(w':aA):Prop:=
 ∃(o:Ou) (D:List (Int×Int)) (AS:List Int) (k':Kv) (rs':List Rm),e= .returned (.tuple #[.agg (jX o).toArray,aU])/\kH c k rs ws xs qs o.rn D AS o.tk o.nu o.T.n k' rs'/\KI k' (n0+M+40)/\o.S.n=D.length/\o.A.n=AS.length/\
  bI vL 2 w' w.heap.size 227 o.S.A o.S.c D/\bI eI 1 w' 0 45 o.A.A o.A.c AS/\(∀b,aY o.A.A=some b->w.heap.size<=b)/\bY (cI (cI F o.S.A) o.A.A) w' hb m g c k' rs'/\Kp F w w'
variable{n0 nl cR cX cQ:Nat}{AR AW AX AQ:Option aJ}{ls:List Int}{ws qs:List (Int×Int×Int)}
section
variable{F:Nat->Prop}{w w0 w':aA}{hb m g:Nat}{c:Int}{k:Kv}{rs:List Rm}
theorem NU(h:bY F w hb m g c k rs){M:Nat}(hI:KI k n0)(hM:n0+M+40<999999/\M<=50000)(hc:1<=c/\c<=64)(hnw:k.s.nw<1048576){cW:Nat}{xs:List Wd}(O:CM F w AR ls AW ws AX xs)(hq:Sl mC 3 w AQ qs)(hqF:∀b,kW AQ qs.length=some b->F b)
 (hlr:ls.length<=1000/\ws.length<=1000/\xs.length<=1000) (hxM:∀z∈xs,z.xs.length<=M) (hL:n9 rs nl k.s.nw) (hn:nl+qs.length<=2700):
 aG prog 16 #[.pointer hb, .agg #[(AR,ls.length,cR),(AW,ws.length,cW),(AX,xs.length,cX),(AQ,qs.length,cQ)]] w (Jz F hb m g c k rs n0 M ws xs qs w):=by
 have hb1:=aX w (aI #[(AR,ls.length,cR),(AW,ws.length,cW),(AX,xs.length,cX),(AQ,qs.length,cQ)] 87);have hb2:=hb1.alloc hb1.size (aI (jX (sQ 0)).toArray 79);have hz2:((w.alloc (aI #[(AR,ls.length,cR),(AW,ws.length,cW),(AX,xs.length,cX),(AQ,qs.length,cQ)] 87)).alloc (aI (jX (sQ 0)).toArray 79)).heap.size=w.heap.size+1+1:=aT;have ib:=(bE.new w 87 #[(AR,ls.length,cR),(AW,ws.length,cW),(AX,xs.length,cX),(AQ,qs.length,cQ)]).keep (aX _ (aI (jX (sQ 0)).toArray 79));have rb:=bE.fL (w.alloc (aI #[(AR,ls.length,cR),(AW,ws.length,cW),(AX,xs.length,cX),(AQ,qs.length,cQ)] 87)) 79 (jX (sQ 0)).toArray (g:=w.heap.size+1) aT;have HIn:=dH O hq hqF;have HKI:=dH hI hM.1 hxM;have HLb:=bP hL hn;have HB2:=aP hb2;have U:aH (bY (Gk F w) ((w.alloc (aI #[(AR,ls.length,cR),(AW,ws.length,cW),(AX,xs.length,cX),(AQ,qs.length,cQ)] 87)).alloc (aI (jX (sQ 0)).toArray 79)) hb m g c k rs/\Kp F w ((w.alloc (aI #[(AR,ls.length,cR),(AW,ws.length,cW),(AX,xs.length,cX),(AQ,qs.length,cQ)] 87)).alloc (aI (jX (sQ 0)).toArray 79))):=by
  refine⟨(dV.grow (bY.cH hb m g c k rs) h h.fl hb2).less λb hb=>?_,(h.below hb2).2⟩;rcases hb with hb|hb|hb
  .exact .inl hb
  .exact .inr ⟨aQ,aQ⟩
  .exact .inr ⟨aQ,aQ⟩
 have H8:=aP h.l8;have HNW:=aP hnw;have HMM:=aP hM.2;have HZ:aH (∀b,(F b\/b=w.heap.size\/b=w.heap.size+1)->b<w.heap.size+1+1):=λb hb=>by
  rcases hb with hb|rfl|rfl
  .have:=h.fl b hb;omega
  .omega
  .omega
 have HN1:aH (¬F w.heap.size/\¬F (w.heap.size+1)):=⟨λhb=>by have:=h.fl _ hb;omega,λhb=>by have:=h.fl _ hb;omega⟩
 have hin0:=ib.cell 3 (.slice AQ qs.length cQ) rfl;have HX2:=bP ib rb;simp only[jX,sQ,G9] at U hb2 hz2 HB2 HX2 hin0;obtain⟨l1,l2,l3⟩:=hlr;obtain⟨c1,c2⟩:=hc;clear h hb1 hb2 ib rb O hq hqF hI hM hL hn hxM;go_enter func16,ntmps16
 go_upto_region 1 with(fail)
 generalize ((w.alloc (aI #[(AR,ls.length,cR),(AW,ws.length,cW),(AX,xs.length,cX),(AQ,qs.length,cQ)] 87)).alloc (aI #[aU,false,bH,bH,bH,bH,aU,aU,bH,aU,aU,aU,bC] 79))=w2 at *;have c0:=U.o.1.c0;unfold pA at c0;obtain⟨G0,gs,hs,d0,d6,_⟩:=U.o.1.sd;have HNw:=aP (tV hs);clear hs;go_wp2_with(go_at_call 11;(refine aS (lR d0) ?_);rintro x w3 ⟨rfl,rfl⟩)
 refine aR HNw ?_;rintro x w3 ⟨rfl,rfl⟩;clear HNw;have HT:=aP (eG.start U.o.1 (-1));simp only[jX,sQ,G9] at HT;go_upto_region 7 with(fail)
 generalize w2.alloc (aI #[aU,false,bH,bH,bH,bH, .int .i64 (-1),aU,bH,aU,aU,aU,bC] 79)=w3 at *;have H3:aH (eG (Gk F w) w3 hb m g c k rs w2 (sQ (-1)) [] []/\Kp (Gk F w) w2 w3):=HT.o;rw[hz2] at H3;have HK2:aH (Kp F w w2):=U.o.2;have hlw:w2.heap.size<=w3.heap.size:=H3.o.2.size;rw[hz2] at hlw;clear HT U hin0 c0 d0 d6 hz2 hnw HB2;generalize hq1:w.heap.size=q1 at *;have HQ1:=aP hq1;clear hq1;have HX3:aH (bE w3 q1 87 #[(AR,ls.length,cR),(AW,ws.length,cW),(AX,xs.length,cX),(AQ,qs.length,cQ)]/\bE w3 (q1+1) 79 #[aU,false,bH,bH,bH,bH,aU,aU,bH,aU,aU,aU,bC]):=⟨H3.o.2.aY HX2.o.1 (.inr (.inl rfl)),H3.o.2.aY HX2.o.2 (.inr (.inr rfl))⟩
 have HK3:aH (Kp F w w3):=HK2.o.trans (H3.o.2.mono λb hb=> .inl hb);have HIn3:aH (CM F w3 AR ls AW ws AX xs/\Sl mC 3 w3 AQ qs/\∀b,kW AQ qs.length=some b->F b):=⟨HIn.o.1.kp HK3.o,HIn.o.2.1.BI HK3.o HIn.o.2.2,HIn.o.2.2⟩
 have HKF:aH (∀W W',Kp (Gk F q1) W W'->Kp F W W'):=λW W' h=>h.mono λb hb=> .inl hb
 have i3:=HX3.o.1.cell 3 (.slice AQ qs.length cQ) rfl;clear HX2 HIn HK2;go_wp2_with fail
 go_loopw [48] (λv48 wr=>∃i:Nat,v48= .int .i64 i/\i<=qs.length/\aH (∃A cA,eG (Gk F q1) wr hb m g c k (iF rs (qs.take i)) (q1+1+1) ((sQ (-1)).sA ⟨A,i,cA⟩) (tI rs (qs.take i)) []/\Kp (Gk F q1) w3 wr/\∀b,aY A=some b->q1<=b)) (λv48 _=>qs.length - (aL v48).toNat)
 case atStart=>exact⟨0,rfl,abX _,none,0,H3.o.1,Kp.refl _ _,λb h=>by cases h⟩
 case round=>
  clear H3 i3;obtain⟨i,rfl,hi,HR⟩:=hrel;obtain⟨A,cA,hR,hkR,hnR⟩:=HR.o;have HR:=dH hR hkR hnR;by_cases O:i<qs.length
  .obtain⟨b,off,rfl,hc0,hc1,hc2⟩:=(HIn3.o.2.1.BI (HKF.o _ _ hkR) HIn3.o.2.2).FZ O;have j0:(0:Int)<=i:=aQ;have j1:(i:Int)<(qs.length:Int):=aQ;have HT:aH (qs.take (i+1)=qs.take i++ [qs[i]]):=(acL O).symm;generalize qs[i]=x at *;obtain⟨xe,xo,xg⟩:=x;simp only at hc0 hc1 hc2;have c5:=hR.bk.cell 5 (.slice A i cA) rfl;clear hR hkR hnR;go_upto_region 10 with(fail)
   have c6:(wr.alloc (aI #[xe,xo,xg] 126)).cell? (q1+1+1,5)=some (.slice A i cA):=bK (aX wr _) c5;have a6:=aP (bE.new wr 126 #[xe,xo,xg]);have y0:=a6.o.cell 0 xe rfl;have y1:=a6.o.cell 1 xo rfl;have y2:=a6.o.cell 2 xg rfl;have HBx:aH (aD wr wr (wr.alloc (aI #[xe,xo,xg] 126))):=aX wr _;have HLi:aH (∀x,(bJ (iF rs (qs.take i)) xe.toNat).l=some x->∃n,n<=2900/\lA x n):=λx hx=>by
    have:=HLb.o.1.asks (qs.take i) H8.o _ x hx;exact⟨_,by rw[acQ];have:=HLb.o.2;omega,this.1⟩
   clear hc0 hc1 hc2 c5 a6;generalize (wr.alloc (aI #[xe,xo,xg] 126))=wx at *;have HRs:aH (∀W,aD wx wx W->aG prog 42 #[.pointer hb, .agg #[xe,xo,xg]] W λr w'=>∃v:Int,r= .returned (.int .i64 v)/\aH (v=JD (iF rs (qs.take i)) xe xo xg/\eG (Gk F q1) w' hb m g c k (iF rs (qs.take (i+1))) (q1+1+1) ((sQ (-1)).sA ⟨A,i,cA⟩) (tI rs (qs.take i)) []/\Kp (Gk F q1) w3 w')/\w'.cell? (q1+1+1,5)=some (.slice A i cA)/\∀o,(w'.alloc o).cell? (q1+1+1,5)=some (.slice A i cA)):=λW hW=>by
    have hbb:=HR.o.1.below (HBx.o.trans (hW.mono HBx.o.size));obtain⟨G,L,back⟩:=hbb.1.ho;refine(Jv L xe xo xg HLi.o).mono ?_;rintro r w' ⟨rfl,h2,C⟩;obtain⟨b1,b2⟩:=back _ _ w' h2 C;have this:=b1.bk.cell 5 (.slice A i cA) rfl;rw[HT.o,Bx];exact⟨_,rfl,⟨rfl,b1,HR.o.2.1.trans (hbb.2.trans b2)⟩,this,λo=>bK (aX w' o) this⟩
   have HDl:aH ((tI rs (qs.take i)).length=i):=(RZ _ _).trans (by rw[acQ];omega);have hil:i<=1000000:=by have:=HLb.o.2;omega
   clear HLi HBx;go_region_law (first|(refine kS _ rfl (.tmp 53) (.tmp 57) rfl Gn gJ (base:=0) (xs:=tI rs (qs.take i)) (HR6.o.2.1.DS.alloc _) (n:=i) HDl.o rfl (m:=1) rfl (ys:= [v]) rfl (Sl.fL gJ w6 v _ rfl _ aT) dN aQ (abX _) _ rfl (i+1) rfl ?_;intro A9 c9 w9 own9 hg9 at9;(obtain⟨b9,f9,HO9,HK9⟩:=(HR6.o.2.1.below (aX w6 (aI #[v] 45))).1.Gh own9 hg9 at9 (n:=i+1) (by rw[ab2,HDl.o];rfl));obtain⟨b9v,b9⟩:=b9)|(go_simp;(refine aS (HRs.o _ (Below.refl _ _).drew) ?_);rintro r w6 ⟨v,rfl,HR6,c36,c37⟩))
   all_goals (
    have HO:aH (eG (Gk F q1) (w9.setCell (q1+1+1,5) (.slice A9 (i+1) c9)) hb m g c k (iF rs (qs.take (i+1))) (q1+1+1) ((sQ (-1)).sA ⟨A9,i+1,c9⟩) (tI rs (qs.take (i+1))) []/\Kp (Gk F q1) w3 (w9.setCell (q1+1+1,5) (.slice A9 (i+1) c9))/\∀b,aY A9=some b->q1<=b):=by
     refine⟨?_,HR6.o.2.2.trans ((HR6.o.2.1.below (aX w6 _)).2.trans HK9),λb hb=>?_⟩
     .have e:tI rs (qs.take (i+1))=tI rs (qs.take i)++ [v]:=by rw[HT.o,ND,HR6.o.1]
      rw[e];exact HO9
     .rcases at9 with e|e
      .exact HR.o.2.2 b (e.symm.trans hb)
      .rw[e] at hb;injection hb with hb;have:=HR6.o.2.2.size;simp at hb;omega
    clear HO9 HK9 b9 f9 hg9 at9 own9 HR6 HRs c36 c37 c6 y0 y1 y2;generalize (w9.setCell (q1+1+1,5) (.slice A9 (i+1) c9))=w10 at *;clear w9;go_wp2_with fail
    exact⟨⟨i+1,rfl,aQ,A9,c9,HO.o⟩,by simp only[aL];omega⟩)
  .have j1:¬(i:Int)<(qs.length:Int):=aQ;have hT:qs.take i=qs:=ab8 aQ;rw[hT] at hR HR;obtain rfl:i=qs.length:=aQ;obtain⟨f,hrs1⟩:∃r,r=iF rs qs:=⟨_,rfl⟩
   have HRS:=aP hrs1;have HL1:aH (n9 f (nl+qs.length) k.s.nw/\f.length=8):=by rw[hrs1];exact⟨HLb.o.1.asks qs H8.o,(P0 _ _).trans H8.o⟩
   obtain⟨DA,hDA⟩:∃r,r=tI rs qs:=⟨_,rfl⟩
   have HDA:=aP hDA;rw[<-hrs1,<-hDA] at HR;have HLb2:aH (nl+qs.length<=2700):=HLb.o.2;clear hR hT hrs1 hDA O hi HLb;go_wp2_with fail
   go_loopw [61] (λv61 wr2=>∃j:Nat,v61= .int .i64 j/\j<=8/\aH (eG (Gk F q1) wr2 hb m g c {k with s:=kA k.s f j} f (q1+1+1) ((sQ (-1)).sA ⟨A,qs.length,cA⟩) DA []/\Kp (Gk F q1) w3 wr2)) (λv61 _=>8 - (aL v61).toNat)
   case atStart=>exact⟨0,rfl,aQ,HR.o.1,HR.o.2.1⟩
   case round=>
    obtain⟨j,rfl,hj,U⟩:=hrel;by_cases hj8:j<8
    .obtain⟨G,L,_⟩:=U.o.1.ho;have r0:=L.OY (n:=j) hj8;have jj0:(0:Int)<=j:=aQ;have jj1:(j:Int)<8:=aQ;cases hl:(bJ f j).l with
     |none=>
      have HE:aH (kA k.s f (j+1)=kA k.s f j):=by unfold aH;show(match(bJ f j).l with|none=>_|some x=>_)=_;rw[hl]
      rw[hl] at r0;simp only[xH,adM] at r0;clear L;go_wp2_with fail
      exact⟨⟨j+1,rfl,aQ,by rw[HE.o];exact U.o⟩,by simp only[aL];omega⟩
     |some x=>
      have HE:aH (kA k.s f (j+1)=jZ (kA k.s f j) j (mW x).isSome):=by unfold aH;show(match(bJ f j).l with|none=>_|some x=>_)=_;rw[hl]
      have HLx:=HL1.o.1 j x hl;rw[hl] at r0;simp only[xH,acO] at r0;obtain⟨_,gs2,_,_,d6,_⟩:=L.sd;have HRd:aH (∀W,aD wr wr W->aG prog 44 #[.pointer (some ⟨(bJ f j).g,0,none⟩)] W λr w'=>r= .returned (.bool (mW x).isSome)/\aD W.heap.size W w'):=λW hW=>by
       obtain⟨G3,y3,hlb,_⟩:=(L.below hW).1.Kw hj8 hl;exact XO hlb HLx.1.RY (by have:=HLb2.o;omega)
      have HSR:aH (∀W,aD wr wr W->aG prog 43 #[.pointer gs2,j, .bool (mW x).isSome] W λr w'=>∃v:Int,r= .returned (.int .i64 v)/\aH (eG (Gk F q1) w' hb m g c {k with s:=kA k.s f (j+1)} f (q1+1+1) ((sQ (-1)).sA ⟨A,qs.length,cA⟩) DA []/\Kp (Gk F q1) w3 w')/\w'.cell? (g,6)=some (.pointer gs2)):=λW hW=>by
       have hbb:=U.o.1.below hW;obtain⟨G3,h3,back3⟩:=hbb.1.ho;obtain⟨G4,gs4,hs4,_,e6,back4⟩:=h3.sd;have e:=(bK hW d6).symm.trans e6;injection e with e;injection e with e;injection e with e;injection e with e;subst e;refine(xD hs4 (by have:=(yL HKI.o.1.sd HKI.o.1.p4 f j).2.1;show(kA k.s f j).P.length<=8;omega) j _).mono ?_;rintro r w' ⟨rfl,hs5,k5⟩;obtain⟨⟨b1,b2⟩,_,b6⟩:=back4 _ w' hs5 k5;obtain⟨u1,u2⟩:=back3 _ _ w' b1 b2;exact⟨_,rfl,⟨by rw[HE.o];exact u1,U.o.2.trans (hbb.2.trans u2)⟩,b6⟩
      clear L hl HLx HE;generalize (bJ f j).g=gl at *;generalize (mW x).isSome=bv at *;go_upto_region 17 with(fail)
      clear r0;go_region_held3 (λW=>W.cell? (g,6)=some (.pointer gs2)) (first|exact d6|assumption) ((first|(go_at_call 44;(refine aS (HRd.o _ (Below.refl _ _).drew) ?_);rintro r w4 ⟨rfl,hb4⟩;(have B4:aD wr wr w4:=(Below.refl wr wr).drew.trans hb4);(have d64:w4.cell? (g,6)=some (.pointer gs2):=bK hb4 d6))|(go_at_call 43;(refine aS (HSR.o _ B4) ?_);rintro r w5 ⟨v,rfl,N,d65⟩)))
      go_wp2_with fail
      exact⟨⟨j+1,rfl,aQ,N.o⟩,by simp only[aL];omega⟩
    .obtain rfl:j=8:=aQ;have E:aH (eG (Gk F q1) wr hb m g c {k with s:=kA k.s f 8} f (q1+1+1) ((sQ (-1)).sA ⟨A,qs.length,cA⟩) DA []/\Kp (Gk F q1) w3 wr/\∀b,aY A=some b->q1<=b):=⟨U.o.1,U.o.2,HR.o.2.2⟩
     clear HR U;go_wp2_with fail
     have HKN:aH (KI {k with s:=kA k.s f 8} n0/\({k with s:=kA k.s f 8}:Kv).s.nw<1048576):=by
      obtain⟨z1,z2,z3⟩:=yL HKI.o.1.sd HKI.o.1.p4 f 8;exact⟨HKI.o.1.EG z1 z2,by show(kA k.s f 8).nw<_;rw[z3];exact HNW.o⟩
     obtain⟨kN,hkN⟩:∃r,r=({k with s:=kA k.s f 8}:Kv):=⟨_,rfl⟩
     have HkN:=aP hkN;rw[<-hkN] at E HKN;clear hkN;obtain⟨o1,ho1⟩:∃r,r=(sQ (-1)).sA ⟨A,qs.length,cA⟩:=⟨_,rfl⟩
     have HO1:=aP ho1;rw[<-ho1] at E;clear ho1;have p:=E.o.2.1.aY HX3.o.1 (.inr (.inl rfl));have p0:=p.cell 0 (.slice AR ls.length cR) rfl;have p1:=p.cell 1 (.slice AW ws.length cW) rfl;have p2:=p.cell 2 (.slice AX xs.length cX) rfl;obtain⟨G,L,_⟩:=E.o.1.ho;have e0:=L.c0;unfold pA at e0;have HFL:aH (Ol (Gk F q1) wr):=E.o.1.ob.fl;have hgA:hb≠wr.heap.size:=by have:=L.bk.lt;omega
     have hqA:q1≠wr.heap.size:=by have:=p.lt;omega
     have hqs:q1+1+1<=wr.heap.size:=abT hlw E.o.2.1.size;have HTc:aH (∀W,aD wr wr W->aG prog 45 #[.pointer m, .agg #[(AR,ls.length,cR),(AW,ws.length,cW),(AX,xs.length,cX)]] W λr w'=>∃(rn:Rn) (S t u:vJ) (D:List (Int×Int)) (C:Kv),r= .returned (.tuple #[.agg #[rn.env,rn.ch,(S.A,S.n,S.c),(t.A,t.n,t.c),(u.A,u.n,u.c)],aU])/\aH (S.n=D.length/\sV kN c ws xs rn D C/\KI C (n0+M))/\aH (bI vL 2 w' W.heap.size 227 S.A S.c D/\eG (cI (Nw (Gk F q1) wr.heap.size W) S.A) w' hb m g c C f (q1+1+1) o1 DA []/\Kp (Nw (Gk F q1) wr.heap.size W) W w')/\w'.cell? (hb,0)=some (.pointer m)/\w'.cell? (q1,0)=some (.slice AR ls.length cR)/\w'.cell? (q1,1)=some (.slice AW ws.length cW)/\w'.cell? (q1,2)=some (.slice AX xs.length cX)):=λW hW=>by
      have hg:=E.o.1.grow hW;obtain⟨G3,sG,h3,back3⟩:=hg.st;have NV:Kp F w3 W:=HKF.o _ _ (E.o.2.1.trans (E.o.1.below hW).2);have hi:=(HIn3.o.1.kp NV).up (λb hb=>sG b (.inl (.inl hb)));refine(Pg h3 HKN.o.1 (by have:=HKI.o.2.1;omega) HKN.o.2 hi ⟨l1,l2,l3⟩ HKI.o.2.2).mono ?_;rintro r w' ⟨rn,SA,A2,A3,nA,cA2,n2,c2',n3,c3,D,C,rfl,hnA,ht,hki,own,hst,kp⟩;obtain⟨b1,b2⟩:=back3 C SA w' (λb hb=>(own.lt b hb).1) hst kp;obtain⟨G4,h4,_⟩:=b1.ho;have hc0:=h4.c0;have hF1:Nw (Gk F q1) wr.heap.size W q1:= .inl (.inr (.inl rfl));exact⟨rn,⟨SA,nA,cA2⟩,⟨A2,n2,c2'⟩,⟨A3,n3,c3⟩,D,C,rfl,⟨hnA,ht,hki⟩,⟨own,b1,b2⟩,hc0,b2.cell (bK hW p0) hF1,b2.cell (bK hW p1) hF1,b2.cell (bK hW p2) hF1⟩
     have hqs':q1<=wr.heap.size:=aQ;have HBA:aH (∀o,aD wr wr (wr.alloc o).drew):=λo=>(aX wr o).drew
     clear L p;go_cut [12,13] (λs12 s13 wx=>∃(Q:Nat) (rn:Rn) (S t u:vJ) (D:List (Int×Int)) (C:Kv),s12= .pointer Q/\s13= .int .i64 0/\aH (S.n=D.length/\sV kN c ws xs rn D C/\KI C (n0+M))/\aH (bE wx Q 73 #[rn.env,rn.ch,(S.A,S.n,S.c),(t.A,t.n,t.c),(u.A,u.n,u.c)])/\aH (bI vL 2 wx q1 227 S.A S.c D/\eG (Fb (cI (Gk F q1) S.A) Q) wx hb m g c C f (q1+1+1) o1 DA []/\Kp (Gk F q1) wr wx/\wr.heap.size<=Q))
     case first=>
      go_region_held3 (λW=>W.cell? (hb,0)=some (.pointer m)/\W.cell? (q1,0)=some (.slice AR ls.length cR)/\W.cell? (q1,1)=some (.slice AW ws.length cW)/\W.cell? (q1,2)=some (.slice AX xs.length cX)) (first|with_reducible exact⟨‹_›,‹_›,‹_›,‹_›⟩|exact⟨by simp only[dP hgA,dP hgB];with_reducible assumption,by simp only[dP hqA,dP hqB];with_reducible assumption,by simp only[dP hqA,dP hqB];with_reducible assumption,by simp only[dP hqA,dP hqB];with_reducible assumption⟩|exact⟨bK (aX wr _).drew e0,bK (aX wr _).drew p0,bK (aX wr _).drew p1,bK (aX wr _).drew p2⟩|exact⟨bK (aX _ _) e0,bK (aX _ _) p0,bK (aX _ _) p1,bK (aX _ _) p2⟩|exact⟨bK (aX _ _) ‹_›,bK (aX _ _) ‹_›,bK (aX _ _) ‹_›,bK (aX _ _) ‹_›⟩|exact⟨e0,p0,p1,p2⟩|fail) ((go_at_call 45;first|((refine aS (HTc.o _ (Below.refl _ _).drew) ?_);rintro r w6 ⟨rn,S,t,u,D,C,rfl,HD6,I,g0,z0,z1,z2⟩;(have hgB:hb≠w6.heap.size:=by have:=World.block_lt_of_cell? w6 _ g0;simp only at this;omega);(have hqB:q1≠w6.heap.size:=by have:=World.block_lt_of_cell? w6 _ z0;simp only at this;omega))|((refine aS (HTc.o _ (HBA.o _)) ?_);rintro r w6 ⟨rn,S,t,u,D,C,rfl,HD6,I,g0,z0,z1,z2⟩;(have zb:bE w6 wr.heap.size 73 #[aU,false,bH,bH,bH]:=I.o.2.2.aY (bE.new wr 73 #[aU,false,bH,bH,bH]) (.inr ⟨abM _,(show wr.heap.size<(wr.alloc (aI #[aU,false,bH,bH,bH] 73)).heap.size by simp)⟩));(have ZB:=aP zb);(have y0:=zb.cell 0 _ rfl);(have y1:=zb.cell 1 _ rfl);(have y2:=zb.cell 2 _ rfl);(have y3:=zb.cell 3 _ rfl);(have y4:=zb.cell 4 _ rfl);(have f0:=zb.frozen 0);(have f1:=zb.frozen 1);(have f2:=zb.frozen 2);(have f3:=zb.frozen 3);(have f4:=zb.frozen 4);(have hgB:=hgA);(have hqB:=hqA);clear zb)|fail))
      all_goals
       go_wp2_with fail
       go_meet
       first
        |(have:=ZB;exact⟨_,rn,S,t,u,D,C,rfl,rfl,HD6,((((ZB.o.cB 0 _).cB 1 _).cB 2 _).cB 3 _).cB 4 _,We I.o.1 (aZ (aZ (aZ (aZ (aZ (bL _ _) 0 _) 1 _) 2 _) 3 _) 4 _) hqs',(Tf HFL.o I.o.2.1 I.o.2.2 (aZ (aZ (aZ (aZ (aZ (bL _ _) 0 _) 1 _) 2 _) 3 _) 4 _)).1,(Tf HFL.o I.o.2.1 I.o.2.2 (aZ (aZ (aZ (aZ (aZ (bL _ _) 0 _) 1 _) 2 _) 3 _) 4 _)).2,abM _⟩)
        |exact⟨_,rn,S,t,u,D,C,rfl,rfl,HD6,bE.new w6 _ _,((I.o.1.from_ hqs').alloc _),(Sg I.o.2.1 I.o.2.2 _).1,(Sg I.o.2.1 I.o.2.2 _).2,I.o.2.2.size⟩
     case rest=>
     obtain⟨Q,rn,S,t,u,D,C,rfl,rfl,HD6,Y,HX⟩:=hcut;clear e0 p0 p1 p2 hgA hqA HTc HBA;have y:=HX.o.2.1;have x0:=Y.o.cell 0 rn.env rfl;have x1:=Y.o.cell 1 (.bool rn.ch) rfl;have x2:=Y.o.cell 2 (.slice S.A S.n S.c) rfl;have x3:=Y.o.cell 3 (.slice t.A t.n t.c) rfl;have x4:=Y.o.cell 4 (.slice u.A u.n u.c) rfl;have y0:=y.bk.cell 0 o1.rn.env rfl;have y1:=y.bk.cell 1 (.bool o1.rn.ch) rfl;have y2:=y.bk.cell 2 (.slice o1.S.A o1.S.n o1.S.c) rfl;have y3:=y.bk.cell 3 (.slice o1.R.A o1.R.n o1.R.c) rfl;have y4:=y.bk.cell 4 (.slice o1.W.A o1.W.n o1.W.c) rfl;have f0:=y.bk.frozen 0;have f1:=y.bk.frozen 1;have f2:=y.bk.frozen 2;have f3:=y.bk.frozen 3;have f4:=y.bk.frozen 4;clear y;go_upto_region 23 with(fail)
     have hgg:wc.grownBy (((((wc.setCell (q1+1+1,0) rn.env).setCell (q1+1+1,1) (.bool rn.ch)).setCell (q1+1+1,2) (.slice S.A S.n S.c)).setCell (q1+1+1,3) (.slice t.A t.n t.c)).setCell (q1+1+1,4) (.slice u.A u.n u.c)) (some (q1+1+1)):=aZ (aZ (aZ (aZ (aZ (bL _ _) 0 _) 1 _) 2 _) 3 _) 4 _;have H7:=aP (HX.o.2.1.put (o1.sS rn S t u) rfl rfl (((((HX.o.2.1.bk.cB 0 rn.env).cB 1 (.bool rn.ch)).cB 2 (.slice S.A S.n S.c)).cB 3 (.slice t.A t.n t.c)).cB 4 (.slice u.A u.n u.c)) hgg);have HS7:aH (bI vL 2 (((((wc.setCell (q1+1+1,0) rn.env).setCell (q1+1+1,1) (.bool rn.ch)).setCell (q1+1+1,2) (.slice S.A S.n S.c)).setCell (q1+1+1,3) (.slice t.A t.n t.c)).setCell (q1+1+1,4) (.slice u.A u.n u.c)) q1 227 S.A S.c D):=HX.o.1.kp H7.o.2 (λb hb=> .inl (.inr hb));have HB7:aH (bE (((((wc.setCell (q1+1+1,0) rn.env).setCell (q1+1+1,1) (.bool rn.ch)).setCell (q1+1+1,2) (.slice S.A S.n S.c)).setCell (q1+1+1,3) (.slice t.A t.n t.c)).setCell (q1+1+1,4) (.slice u.A u.n u.c)) Q 73 #[rn.env,rn.ch,(S.A,S.n,S.c),(t.A,t.n,t.c),(u.A,u.n,u.c)]):=H7.o.2.aY Y.o (.inr rfl);obtain⟨Z,hF5⟩:∃X,X=Fb (cI (Gk F q1) S.A) Q:=⟨_,rfl⟩
     have J:aH ((∀b,Gk F q1 b->Z b)/\(∀b,aY S.A=some b->Z b)/\Z Q):=by rw[hF5];exact⟨λb hb=> .inl (.inl hb),λb hb=> .inl (.inr hb), .inr rfl⟩
     rw[<-hF5] at H7;have HK7:aH (Kp (Gk F q1) w3 (((((wc.setCell (q1+1+1,0) rn.env).setCell (q1+1+1,1) (.bool rn.ch)).setCell (q1+1+1,2) (.slice S.A S.n S.c)).setCell (q1+1+1,3) (.slice t.A t.n t.c)).setCell (q1+1+1,4) (.slice u.A u.n u.c))/\q1+1+1<Q):=⟨(E.o.2.1.trans HX.o.2.2.1).trans (H7.o.2.mono J.o.1),by have:=HX.o.2.2.2;have:=E.o.1.bk.lt;omega⟩
     have HNA:aH (∀b,aY A=some b->q1<=b):=E.o.2.2;clear HX Y hF5 x0 x1 x2 x3 x4 y0 y1 y2 y3 y4 f0 f1 f2 f3 f4 hgg E HFL;generalize ((((wc.setCell (q1+1+1,0) rn.env).setCell (q1+1+1,1) (.bool rn.ch)).setCell (q1+1+1,2) (.slice S.A S.n S.c)).setCell (q1+1+1,3) (.slice t.A t.n t.c)).setCell (q1+1+1,4) (.slice u.A u.n u.c)=w7 at *;have HLT:aH (nl+qs.length<=2700/\k.s.nw<1048576):=⟨HLb2.o,HNW.o⟩
     go_wp2_with fail
     go_loopw [98] (λv98 wr=>∃j:Nat,v98= .int .i64 j/\j<=8/\aH (∃T cT,eG Z wr hb m g c C (iW f rn.env j) (q1+1+1) (((o1.sS rn S t u).sJ (mJ f rn.env j).1 (mJ f rn.env j).2).sT ⟨T,(kU f rn.env j).length,cT⟩) DA (kU f rn.env j)/\Kp Z w7 wr/\(kU f rn.env j).length<=4000000000 *j)) (λv98 _=>8 - (aL v98).toNat)
     case atStart=>exact⟨0,rfl,aQ,none,0,by have e:=HO1.o;subst e;exact H7.o.1,Kp.refl _ _,by simp[kU]⟩
     case round=>
      clear H7;obtain⟨j,rfl,hj,U⟩:=hrel;obtain⟨T,cT,h2,k27,hTl⟩:=U.o;have HTl:=aP hTl;have U:=bP h2 k27;by_cases hj8:j<8
      .obtain⟨G,L,_⟩:=h2.ho;have r0:=L.OY (n:=j) hj8;have jj0:(0:Int)<=j:=aQ;have jj1:(j:Int)<8:=aQ;have hle:(bJ (iW f rn.env j) j).l=(bJ f j).l:=by rw[(GA (rs:=f) (e:=rn.env) j j (by rw[HL1.o.2];omega)).1,abQ aQ]
       rw[hle] at r0;cases hl:(bJ f j).l with
       |none=>
        have HE:aH (iW f rn.env (j+1)=iW f rn.env j/\kU f rn.env (j+1)=kU f rn.env j/\mJ f rn.env (j+1)=mJ f rn.env j):=by
         rw[hl] at hle;refine⟨?_,?_,?_⟩
         .show DJ (iW f rn.env j) rn.env j=_;unfold DJ;rw[hle]
         .show kU f rn.env j++Cz (iW f rn.env j) rn.env j=_;unfold Cz;rw[hle];simp
         .show Y7 (iW f rn.env j) rn.env j (mJ f rn.env j)=_;unfold Y7;rw[hle]
        rw[hl] at r0;simp only[xH,adM] at r0;clear L h2 k27 hle hTl;go_wp2_with fail
        exact⟨⟨j+1,rfl,aQ,T,cT,by rw[HE.o.1,HE.o.2.1,HE.o.2.2];exact⟨U.o.1,U.o.2,by have:=HTl.o;omega⟩⟩,by simp only[aL];omega⟩
       |some x=>
        rw[hl] at hle;have HLx:=HL1.o.1 j x hl;have HX:aH (lA x (nl+qs.length)/\x.nw<1048576/\x.lg.length<=4000000000):=⟨HLx.1,by have:=HLx.2;have:=HLT.o.2;omega,by have:=HLx.1.lg;have:=HLT.o.1;omega⟩
        have x0:=(k27.aY HB7.o J.o.2.2).cell 0 rn.env rfl;rw[hl] at r0;simp only[xH,acO] at r0;have HT1:aH (∀gv,gv=decide (rn.env=(j:Int))->iW f rn.env (j+1)=rZ (uX (rZ (iW f rn.env j) j x) j (jJ x gv)) j (jJ x gv)/\kU f rn.env (j+1)=kU f rn.env j++(wG (uX (rZ (iW f rn.env j) j x) j (jJ x gv)) j (jJ x gv)).map (λv=>((j:Int),v))/\mJ f rn.env (j+1)=if gv=true then qN x (nO x gv) else mJ f rn.env j):=λgv hgv=>by
         subst hgv;refine⟨?_,?_,?_⟩
         .show DJ (iW f rn.env j) rn.env j=_;unfold DJ;rw[hle];rfl
         .show kU f rn.env j++Cz (iW f rn.env j) rn.env j=_;unfold Cz;rw[hle];rfl
         .show Y7 (iW f rn.env j) rn.env j (mJ f rn.env j)=_;unfold Y7;rw[hle];simp only[ad0]
        have HRl:aH ((iW f rn.env j).length=8):=(JG _ _ _).trans HL1.o.2;clear L hl h2 k27 HLx hTl;go_upto_region 28 with(fail)
        go_cut [16] (λs16 wx=>s16= .bool (decide (rn.env=(j:Int)))/\wx=wr)
        case first=>
         by_cases hgv:rn.env=(j:Int)
         .rw[hgv] at x0;go_wp2_with fail
          go_meet
          exact⟨by simp[hgv],rfl⟩
         .go_wp2_with fail
          go_meet
          exact⟨by simp[hgv],rfl⟩
        case rest=>
        obtain⟨rfl,rfl⟩:=hcut;obtain⟨gv,hgv⟩:∃gv,gv=decide (rn.env=(j:Int)):=⟨_,rfl⟩
        have HGV:=aP (HT1.o gv hgv);rw[<-hgv];clear HT1 hgv x0 r0;generalize iW f rn.env j=R at *;generalize kU f rn.env j=TT at *;generalize mJ f rn.env j=JJ at *;have HNs:=aP (U.o.1.news hj8 hle HX.o.2.2);go_wp2_with fail
        refine aR HNs ?_;rintro r w4 ⟨B4,d4,rfl,_,h4,k4⟩;have H4:aH (eG Z w4 hb m g c C (rZ R j x) (q1+1+1) (((o1.sS rn S t u).sJ JJ.1 JJ.2).sT ⟨T,TT.length,cT⟩) DA TT/\Kp Z w7 w4):=⟨h4.less λb hb=> .inl hb,U.o.2.trans k4⟩
        have hl4:(bJ (rZ R j x) j).l=some x:=by rw[(J3 (j:=j) (x:=x) (by rw[HRl.o];exact hj8)).1,hle]
        have r4:=H4.o.1.r0 hj8 hl4;have kH:=aP (H4.o.1.Vn hj8 hl4 HX.o.1 (by have:=HLT.o.1;omega) HX.o.2.1 gv);have HR4:aH ((rZ R j x).length=8):=by unfold aH rZ QN;rw[ab1];exact HRl.o
        clear h4 k4 HNs U;go_wp2_with fail
        refine aR kH ?_;rintro r w5 ⟨rfl,h5,k5⟩;have N:aH (eG Z w5 hb m g c C (uX (rZ R j x) j (jJ x gv)) (q1+1+1) (((o1.sS rn S t u).sJ JJ.1 JJ.2).sT ⟨T,TT.length,cT⟩) DA TT/\Kp Z w7 w5):=⟨h5,H4.o.2.trans k5⟩
        clear h5 k5 kH H4 r4;generalize qN x (nO x gv)=pp at *;obtain⟨pp1,pp2⟩:=pp;simp only;have hl5:(bJ (uX (rZ R j x) j (jJ x gv)) j).l=some (jJ x gv):=by unfold uX;rw[l9 (by rw[HR4.o];exact hj8)]
        have HX5:aH ((jJ x gv).lg.length<=4000000000):=by have:=(HX.o.1.tick HX.o.2.1 (by have:=HLT.o.1;omega) gv).lg;have:=HLT.o.1;unfold aH;omega
        clear HX HRl HR4 hl4 hle;generalize uX (rZ R j x) j (jJ x gv)=R5 at *;generalize jJ x gv=x5 at *;go_upto_if 128 with(fail)
        go_cut [] (λwx=>aH (eG Z wx hb m g c C R5 (q1+1+1) (((o1.sS rn S t u).sJ (if gv=true then(pp1,pp2) else JJ).1 (if gv=true then(pp1,pp2) else JJ).2).sT ⟨T,TT.length,cT⟩) DA TT/\Kp Z w7 wx))
        case first=>
         cases gv
         .go_wp2_with fail
          go_meet
          exact N.o
         .have y6:=N.o.1.bk.cell 6 JJ.1 rfl;have y7:=N.o.1.bk.cell 7 JJ.2 rfl;have f6:=N.o.1.bk.frozen 6;have f7:=N.o.1.bk.frozen 7;go_wp2_with fail
          go_meet
          have h6:=N.o.1.put (((o1.sS rn S t u).sJ pp1 pp2).sT ⟨T,TT.length,cT⟩) rfl rfl ((N.o.1.bk.cB 6 pp1).cB 7 pp2) (aZ (aZ (bL _ _) 6 _) 7 _);exact⟨h6.1,N.o.2.trans h6.2⟩
        case rest=>
        clear N;have HNs:=aP (hcut.o.1.news hj8 hl5 HX5.o);have HC:=aP hcut.o.2;clear hcut;generalize (if gv=true then(pp1,pp2) else JJ)=J2 at *;go_wp2_with fail
        refine aR HNs ?_;rintro r w6 ⟨B,d,rfl,own6,h6,k6⟩;have H6:=bP h6 (HC.o.trans k6);have HO6:=aP own6;have HVl:aH ((wG R5 j x5).length<=4000000000):=abT (Je _ _ _) HX5.o;clear h6 k6 own6 HNs HC hl5 HX5;generalize wG R5 j x5=V at *;generalize rZ R5 j x5=R6 at *;go_wp2_with fail
        go_loopw [136] (λv136 wr=>∃i:Nat,v136= .int .i64 i/\i<=V.length/\aH (∃T' cT',eG (cI Z B) wr hb m g c C R6 (q1+1+1) (((o1.sS rn S t u).sJ J2.1 J2.2).sT ⟨T',TT.length+i,cT'⟩) DA (TT++(V.take i).map (λv=>((j:Int),v)))/\Kp Z w7 wr/\Kp (cI Z B) w6 wr)) (λv136 _=>V.length - (aL v136).toNat)
        case atStart=>exact⟨0,rfl,abX _,T,cT,by rw[afH,List.map_nil,aeF];exact H6.o.1,H6.o.2,Kp.refl _ _⟩
        case round=>
         obtain⟨i,rfl,hi,HV⟩:=hrel;obtain⟨T',cT',hv,kv7,kv6⟩:=HV.o;have HV:=dH hv kv7 kv6;by_cases O:i<V.length
         .obtain⟨qB,hqB⟩:=wM HO6.o aQ;have HT:aH (V.take (i+1)=V.take i++ [V[i]]):=(acL O).symm;have ho:=HO6.o.kp kv6 (λb hb=> .inr hb);subst hqB;generalize hVi:V[i]=ev at *;have e0:=bN xG ho O (j:=0) (v:= .int .i64 ev.kd) (by rw[hVi];rfl);have e1:=bN xG ho O (j:=1) (v:= .int .i64 ev.tk) (by rw[hVi];rfl);have e2:=bN xG ho O (j:=2) (v:= .int .i64 ev.jb) (by rw[hVi];rfl);have e3:=bN xG ho O (j:=3) (v:= .int .i64 ev.at_) (by rw[hVi];rfl);rw[acC] at e0;have c8:=hv.bk.cell 8 (.slice T' (TT.length+i) cT') rfl;have ii0:(0:Int)<=i:=aQ;have ii1:(i:Int)<(V.length:Int):=aQ;clear ho hVi hv kv7 kv6;go_upto_region 36 with(fail)
          have a6:=aP (bE.new wr 165 #[ev.kd,ev.tk,ev.jb,ev.at_]);have y0:=a6.o.cell 0 ev.kd rfl;have y1:=a6.o.cell 1 ev.tk rfl;have y2:=a6.o.cell 2 ev.jb rfl;have y3:=a6.o.cell 3 ev.at_ rfl;have d8:=bK (aX wr (aI #[ev.kd,ev.tk,ev.jb,ev.at_] 165)) c8;have HRx:=aP (HV.o.1.below (aX wr (aI #[ev.kd,ev.tk,ev.jb,ev.at_] 165)));have HDl:aH ((TT++(V.take i).map (λv=>((j:Int),v))).length=TT.length+i):=by unfold aH;rw[ab2,acS,acQ];omega
          have hbd:TT.length+i<=40000000000:=by have:=HTl.o;have:=HVl.o;omega
          clear e0 e1 e2 e3 c8 a6;generalize wr.alloc (aI #[ev.kd,ev.tk,ev.jb,ev.at_] 165)=wx at *;go_wp2_with(refine bS _ rfl (.tmp 141) (.tmp 145) rfl Zi Aj (base:=0) (xs:=TT++(V.take i).map (λv=>((j:Int),v))) (HRx.o.1.yS.alloc _) (n:=TT.length+i) HDl.o rfl (m:=1) rfl (ys:= [((j:Int),ev)]) rfl (Sl.fL Aj wx ((j:Int),ev) _ rfl _ aT) dN aQ (abX _) _ rfl (TT.length+i+1) rfl ?_;intro A9 c9 w9 own9 hg9 at9;(obtain⟨b9,f9,HO9,HK9⟩:=(HRx.o.1.below (aX wx (aI #[j,ev.kd,ev.tk,ev.jb,ev.at_] 167))).1.Eg own9 hg9 at9 (n:=TT.length+i+1) (by rw[ab2,HDl.o];rfl));obtain⟨b9v,b9⟩:=b9)
          have HKx:=HRx.o.2.trans ((HRx.o.1.below (aX wx (aI #[j,ev.kd,ev.tk,ev.jb,ev.at_] 167))).2.trans HK9);exact⟨⟨i+1,rfl,aQ,A9,c9,by rw[HT.o,afA,<-acR];exact HO9,HV.o.2.1.trans (HKx.mono λb hb=> .inl hb),HV.o.2.2.trans HKx⟩,by simp only[aL];omega⟩
         .obtain rfl:i=V.length:=aQ;have hT:V.take V.length=V:=adS;rw[hT] at hv;have HE:aH (∃T cT,eG Z wr hb m g c C (iW f rn.env (j+1)) (q1+1+1) (((o1.sS rn S t u).sJ (mJ f rn.env (j+1)).1 (mJ f rn.env (j+1)).2).sT ⟨T,(kU f rn.env (j+1)).length,cT⟩) DA (kU f rn.env (j+1))/\Kp Z w7 wr/\(kU f rn.env (j+1)).length<=4000000000 *(j+1)):=by
           rw[HGV.o.1,HGV.o.2.1,HGV.o.2.2,ab2,acS];exact⟨T',cT',hv.less λb hb=> .inl hb,kv7,by have:=HTl.o;have:=HVl.o;omega⟩
          have ii1:¬(V.length:Int)<(V.length:Int):=aQ;clear hv kv7 kv6 hT HV HGV;go_wp2_with fail
          obtain⟨T9,cT9,z1,z2,z3⟩:=HE.o;exact⟨⟨_,_,_,_,_,_,_,_,⟨j+1,rfl,aQ,⟨T9,cT9,z1⟩,z2,z3⟩,rfl,rfl,rfl,rfl,rfl,rfl,rfl,rfl⟩,by simp only[aL];omega⟩
      .obtain rfl:j=8:=aQ;have H8T:aH (eG Z wr hb m g c C (iW f rn.env 8) (q1+1+1) (((o1.sS rn S t u).sJ (mJ f rn.env 8).1 (mJ f rn.env 8).2).sT ⟨T,(kU f rn.env 8).length,cT⟩) DA (kU f rn.env 8)/\Kp Z w7 wr):=⟨h2,k27⟩
       clear h2 k27 U hTl HTl;go_wp2_with fail
       have b12:=H8T.o.2.aY HB7.o J.o.2.2;have x0:=b12.cell 0 rn.env rfl;have x2:=b12.cell 2 (.slice S.A S.n S.c) rfl;obtain⟨G,L,_⟩:=H8T.o.1.ho;have c1':=L.c1;have HEN:=HD6.o.2.1.Gr HKN.o.1;have HRU:aH (∀n:Nat,n<8->wr.cell? ⟨hb,2+n *15+14,none⟩=some (.bool (bJ f n).ru)):=λn hn=>by
        have:=L.V5 (n:=n) hn;rw[(GA (rs:=f) (e:=rn.env) n 8 (by rw[HL1.o.2];omega)).2] at this;exact this
       clear L b12;go_cut [164] (λs wx=>∃bv:Bool,s= .bool bv/\aH ((bv=true/\∃i:Nat,rn.env=i/\i<4/\(bJ f i).ru=true)\/(bv=false/\(rn.env<0\/∃i:Nat,rn.env=i/\i<4/\(bJ f i).ru=false)))/\aD wr wr wx)
       case first=>
        rcases HEN with a1|⟨i,a1,hi4⟩
        .rw[a1] at x0;go_quiet (fail)
         go_wp2_with fail
         go_meet
         exact⟨false,rfl, .inr ⟨rfl, .inl aQ⟩,below_drewN _ _⟩
        .have r14:=HRU.o i aQ;have i0:(0:Int)<=i:=aQ;have i8:(i:Int)<8:=aQ;rw[a1] at x0;cases hru:(bJ f i).ru
         .rw[hru] at r14;have HH:=dH a1 hi4 hru;clear a1 hru;go_quiet (fail)
          go_wp2_with fail
          go_meet
          exact⟨false,rfl, .inr ⟨rfl, .inr ⟨i,HH.o⟩⟩,below_drewN _ _⟩
         .rw[hru] at r14;have HH:=dH a1 hi4 hru;clear a1 hru;go_quiet (fail)
          go_wp2_with fail
          go_meet
          exact⟨true,rfl, .inl ⟨rfl,i,HH.o⟩,below_drewN _ _⟩
       case rest=>
       obtain⟨bv,rfl,HBV,hbw⟩:=hcut;have H9:aH (eG Z wc hb m g c C (iW f rn.env 8) (q1+1+1) (((o1.sS rn S t u).sJ (mJ f rn.env 8).1 (mJ f rn.env 8).2).sT ⟨T,(kU f rn.env 8).length,cT⟩) DA (kU f rn.env 8)/\Kp Z w7 wc):=⟨(H8T.o.1.below hbw).1,H8T.o.2.trans (H8T.o.1.below hbw).2⟩
       replace x0:=bK hbw x0;replace x2:=bK hbw x2;replace c1':=bK hbw c1';have HKE:aH (KI C (n0+M)):=HD6.o.2.2;have hDl:S.n<=50000:=by rw[HD6.o.1];exact abT (HD6.o.2.1.Zn HKI.o.2.2) HMM.o
       clear hbw H8T HRU;obtain⟨e8,he8⟩:∃e,e=((o1.sS rn S t u).sJ (mJ f rn.env 8).1 (mJ f rn.env 8).2).sT ⟨T,(kU f rn.env 8).length,cT⟩:=⟨_,rfl⟩
       have HE8:=aP he8;rw[<-he8] at H9;clear he8;go_upto_if 164 with(fail)
       go_cut [] (λwx=>aH (∃(st x y z:Int) (k4:Kv) (K:List Rm),eG Z wx hb m g c k4 K (q1+1+1) (e8.sB st x y z) DA (kU f rn.env 8)/\Kp Z w7 wx/\KI k4 (n0+M+40)/\((∃i:Nat,rn.env=i/\i<4/\(bJ f i).ru=true/\lY i C k4/\vZ (iW f rn.env 8) K i)\/((rn.env<0\/∃i:Nat,rn.env=i/\i<4/\(bJ f i).ru=false)/\k4=C/\K=iW f rn.env 8))))
       case first=>
        rcases HBV.o with⟨rfl,i,a1,hi4,hru⟩|⟨rfl,hno⟩
        .have HH:=dH a1 hi4 hru;rw[a1] at x0;obtain⟨G,L,back⟩:=H9.o.1.ho;have HBu:=aP (V6 (L.below (Below.refl wc wc).drew).1 HKE.o (by have:=HKI.o.2.1;omega) hi4 (c - (S.n:Int)) aQ);have HBk:=aP (λk' rs' w' h k=>back k' rs' w' h k);have HKd:aH (Kp G wc wc.drew):=(L.below (Below.refl wc wc).drew).2;have hwr:IntKind.i64.wrap (c - (S.n:Int))=c - (S.n:Int):=by rw[IntKind.wrap_i64];omega
         have i0:(0:Int)<=i:=aQ;have i8:(i:Int)<8:=aQ;have hne1:hb≠q1+1+1:=zM L.bk H9.o.1.bk cE;have hne2:Q≠q1+1+1:=by have:=HK7.o.2;omega
         have HCh:aH (∀(W:aA) (k4:Kv) (K:List Rm),eG Z W hb m g c k4 K (q1+1+1) e8 DA (kU f rn.env 8)->W.cell? (hb,1)=some (.int .i64 c)):=λW k4 K hW=>by
          obtain⟨G,h,_⟩:=hW.ho;exact h.c1
         clear L back a1 hru hi4;go_upto_region 40 with(fail)
         go_region_held3 (λW=>W.cell? (hb,1)=some (.int .i64 c)/\W.cell? (Q,0)=some (.int .i64 i)/\W.cell? (Q,2)=some (.slice S.A S.n S.c)) (first|exact⟨c1',x0,x2⟩|exact⟨e1',z0,z2⟩|exact⟨by simp only[dP hne1];exact e1',by simp only[dP hne2];exact z0,by simp only[dP hne2];exact z2⟩|fail) ((go_at_call 47;(refine aR HBu ?_);rintro r w5 ⟨st,x,y,z,k4,K,rfl,hbu,hki,hcp,h5,k5⟩;(have N:=aP (HBk.o k4 K w5 h5 (HKd.o.trans k5)));(have HP5:=dH hbu hki hcp);(have y9:=N.o.1.bk.cell 9 e8.st rfl);(have y10:=N.o.1.bk.cell 10 e8.x rfl);(have y11:=N.o.1.bk.cell 11 e8.y rfl);(have y12:=N.o.1.bk.cell 12 (.int .u64 e8.z) rfl);(have f9:=N.o.1.bk.frozen 9);(have f10:=N.o.1.bk.frozen 10);(have f11:=N.o.1.bk.frozen 11);(have f12:=N.o.1.bk.frozen 12);(have e1':=HCh.o w5 k4 K N.o.1);(have z0:=N.o.2.cell x0 J.o.2.2);(have z2:=N.o.2.cell x2 J.o.2.2);clear h5 k5 hbu hki hcp))
         go_wp2_with fail
         go_meet
         have hp:=N.o.1.put (e8.sB st x y z) rfl rfl ((((N.o.1.bk.cB 9 st).cB 10 (.int .i64 x)).cB 11 y).cB 12 (.int .u64 z)) (aZ (aZ (aZ (aZ (bL _ _) 9 _) 10 _) 11 _) 12 _);exact⟨st,x,y,z,k4,K,hp.1,(H9.o.2.trans N.o.2).trans hp.2,HP5.o.2.1, .inl ⟨i,HH.o.1,HH.o.2.1,HH.o.2.2,HP5.o.1,HP5.o.2.2⟩⟩
        .have qZ:=aP hno;clear hno;go_wp2_with fail
         go_meet
         refine⟨e8.st,e8.x,e8.y,e8.z,C,_,H9.o.1,H9.o.2,HKE.o.mono aQ, .inr ⟨qZ.o,rfl,rfl⟩⟩
       case rest=>
       obtain⟨st,x,y,z,k4,K,hF,kF,kiF,hcs⟩:=hcut.o;have HF:=dH hF kF (And.intro kiF hcs);have hAA:aH (e8.A=⟨A,qs.length,cA⟩/\e8.rn=rn/\e8.S=S/\(e8.tk,e8.nu)=mJ f rn.env 8/\e8.T.n=(kU f rn.env 8).length):=by rw[HE8.o,HO1.o];exact⟨rfl,rfl,rfl,rfl,rfl⟩
       obtain⟨o9,ho9⟩:∃o,o=e8.sB st x y z:=⟨_,rfl⟩
       have H9o:aH (o9.A=⟨A,qs.length,cA⟩/\o9.rn=rn/\o9.S=S/\(o9.tk,o9.nu)=mJ f rn.env 8/\o9.T.n=(kU f rn.env 8).length):=by rw[ho9];exact hAA.o
       rw[<-ho9] at HF hF;have HRg:=aP hF.bk.range;have HOi:=aP (Ml o9);have zb:=kF.aY (HK7.o.1.aY HX3.o.2 (.inr (.inr rfl))) (J.o.1 _ (.inr (.inr rfl)));have HTh:=aP (zb.there (n:=(jX o9).toArray.size) (af8 rfl));have HZb:=aP (zb.laid (M:=jX o9) rfl);have HZr:=aP HZb.o.range;have HZ0:=aP zb;have HGz:=aP (fF (q1+1) (jX o9) 0 wc wc (bL wc (q1+1)));have HOn:=aP (Ub o9);clear hF kF kiF hcs hcut ho9 zb H9 HBV x0 x2 c1' hAA HE8;go_wp2_with(first|(refine wpList_load_mid rfl 79 _ rfl (q1+1+1) 0 rfl (jX o9) _ HRg.o underlying79 rfl HOi.o ?_)|(refine wpList_store_mid rfl 79 _ _ rfl (q1+1) 0 (jX o9).toArray rfl rfl HTh.o (by simpa using HOi.o) HOn.o ?_))
       have k1:Kp F w wc:=HK3.o.trans ((HKF.o _ _ HK7.o.1).trans (HF.o.2.1.mono λb hb=>J.o.1 b (.inl hb)));have oS:=HS7.o.kp HF.o.2.1 J.o.2.1;have oA:=HF.o.1.DS;have nS:=CN oS HZ0.o cE;have nA:=CN oA HZ0.o cE;have e1:=H9o.o.1;have hAe:o9.A.A=A:=by rw[e1]
       have hSe:=H9o.o.2.2.1;have k2':Kp F wc (wc.setCells (q1+1) 0 (jX o9)):=Kp.grown HGz.o λb hb=>⟨HF.o.1.ob.fl b (J.o.1 b (.inl hb)),λe=>HN1.o.2 (by injection e with e;exact e ▸ hb)⟩
       have oS':=oS.kept HGz.o (.inr nS);have oA':=oA.kept HGz.o (.inr nA);have L:=dV.gr (bY.cH hb m g c k4 K) (H:=cI (cI F o9.S.A) o9.A.A) HF.o.1.o HGz.o (λq hq=>by injection hq with hq;exact .inl (hq ▸ J.o.1 _ (.inr (.inr rfl)))) (λb hb=>by
        refine abO ?_ HGz.o.size;rcases hb with(hb|hb)|hb
        .exact HF.o.1.ob.fl b (J.o.1 b (.inl hb))
        .rw[hSe] at hb;exact(oS.lt b hb).2
        .exact(oA.lt b hb).2) (λb _ hb=>by
        rcases hb with(hb|hb)|hb
        .exact .inl (J.o.1 b (.inl hb))
        .rw[hSe] at hb;exact .inl (J.o.2.1 b hb)
        .exact .inr hb)
       refine bodyPost_ret (results_cell_tmp rfl _ _ (q1+1) (jX o9) _ rfl HZr.o underlying79 rfl HOi.o) rfl ⟨o9,D,DA,k4,K,rfl,⟨HDA.o,?_,?_,?_⟩,HF.o.2.2.1,?_,HF.o.1.a,?_,oA',?_,L,k1.trans k2'⟩
       .refine⟨C,?_,?_⟩
        .rw[H9o.o.2.1,<-HRS.o,<-HkN.o];exact HD6.o.2.1
        .rw[H9o.o.2.1,<-HRS.o];exact HF.o.2.2.2
       .rw[H9o.o.2.2.2.1,H9o.o.2.1,HRS.o]
       .rw[H9o.o.2.2.2.2,H9o.o.2.1,HRS.o]
       .rw[hSe];exact HD6.o.1
       .rw[hSe,HQ1.o];exact oS'
       .rw[hAe,HQ1.o];exact HNA.o
end
variable{s:Sd}{k k':Kv}
section
def TF:Tk:=⟨1,20,20, [],0⟩
def IE:Lb:=mU [TF] 0
def Lv:Lb:=(oF IE 0 1).2
theorem Uj:oX [TF]=true:=cE
def BZ(x:Lb)(gl:Nat)(sv:aC):List Rm:=sI.set 2 (JI x gl sv 0)
theorem Em(gl:Nat)(sv:aC):J4 sI 2 [TF] 0 gl sv=BZ IE gl sv:=aV
theorem Ao:zS sI 2 [TF] 0=0:=cE
theorem MP(gl:Nat)(sv:aC):iF (BZ IE gl sv) [(2,0,1)]=BZ Lv gl sv:=aV
theorem Wv(gl:Nat)(sv:aC):mJ (BZ Lv gl sv) 2 8=(0,1):=aV
theorem Wt(gl:Nat)(sv:aC):(kU (BZ Lv gl sv) 2 8).length=1:=aV
def Rz(s:Sd):Prop:=∃a b d,s.P= [⟨none,a⟩,⟨none,b⟩,⟨some (wJ 2 9),true⟩,⟨none,d⟩]/\s.nw=0
theorem Rz.EY{s:Sd}(h:Rz s)(e:Int):Rz (jZ s e true):=by
 obtain⟨a,b,d,h1,c⟩:=h;unfold jZ;split
 .rename_i hi;have hi:=adB hi;rw[h1] at hi;simp only[acN,ac2] at hi;obtain⟨n,rfl⟩:=abR hi.1;have:n=0\/n=1\/n=2\/n=3:=aQ;have key:∀i,(s.P.modify i λp=>{p with rd:=true})=([⟨none,a⟩,⟨none,b⟩,⟨some (wJ 2 9),true⟩,⟨none,d⟩]:List Pv).modify i λp=>{p with rd:=true}:=λi=>by rw[h1]
  rcases this with rfl|rfl|rfl|rfl
  .exact⟨true,b,d,(key 0).trans rfl,c⟩
  .exact⟨a,true,d,(key 1).trans rfl,c⟩
  .exact⟨a,b,d,(key 2).trans rfl,c⟩
  .exact⟨a,b,true,(key 3).trans rfl,c⟩
 .exact⟨a,b,d,h1,c⟩
theorem Rz.tick(h:Rz s):(gI s).1.env=2/\(gI s).1.ch=true:=by
 obtain⟨a,b,d,h1,c⟩:=h;have e:(eJ s).P= [⟨none,a⟩,⟨none,b⟩,⟨some (kI (wJ 2 9) 0 true),true⟩,⟨none,d⟩]:=by
  show s.P.map (rU s.nw)=_;rw[h1,c];rfl
 have f:iN (eJ s).P s.P.length=some (2,9):=by
  rw[e,h1];rfl
 unfold gI;rw[f];exact⟨rfl,rfl⟩
theorem Rz.mO(l:List Int):∀{k:Kv},Rz k.s->Rz (dY k l).s:=by
 induction l with
 |nil=>intro k h;exact h
 |cons e l a=>
  intro k h;refine a ?_;unfold dQ;split
  .exact h.EY e
  .exact h
theorem Rz.before(h:Rz k.s)(hb:k.b= [])(r:kQ k k'):Rz k'.s:=by
 obtain⟨l1,c,T,d,a,ho,rfl⟩:=r;rw[hb] at a;have:T= []:=by
  have:=a.length_eq;simpa[jT] using this
 subst this;cases ho;exact Rz.mO c (Rz.mO l1 h)
def N7:Sd:=qK (tN 4) 2 2 9
theorem Vx:zH (tN 4) 2 2 9=0:=cE
theorem Rx(gl:Nat)(sv:aC):Rz (kA N7 (BZ Lv gl sv) 8):=⟨true,true,true,aV,aV⟩
end
theorem Oi:gQ (A7 4):=by
 refine⟨cE,λp hp v a=>?_,⟨λx v h=>(by cases h),λp hp=>(by cases hp),cE,cE⟩,cE,cE,cE,cE,λi p hp=>?_,λi hi=>rfl⟩
 .have:p=⟨none,false⟩:=ac5 (n:=4) hp;rw[this] at a;cases a
 .have:p=⟨none,false⟩:=ac5 (n:=4) (adF hp);rw[this];rfl
theorem uU:∀n,gQ (tN n)/\(tN n).P.length=4
 |0=>⟨Oi,rfl⟩
 |n+1=>vV (uU n).1 (uU n).2 _ _
theorem Lm(p:Nat×Nat):KI (oP p) 9:=by
 exact⟨(uU 4).1,(uU 4).2,(show 0<=(wH 2).n/\(wH 2).n<=((9:Nat):Int) by decide),abX _,List.Pairwise.nil,λx a=>(by cases a),List.Pairwise.nil,rfl,abX _⟩
theorem kiW(p0):KI {oP p0 with s:=N7} 9:=(Lm p0).EG (FV (uU 4).1 (uU 4).2 2 2 9).1 (FV (uU 4).1 (uU 4).2 2 2 9).2
theorem Zk(gl sv):n9 (BZ IE gl sv) 0 0:=λi x a=>by
 by_cases hi:i=2
 .subst hi;have:(bJ (BZ IE gl sv) 2).l=some IE:=rfl;rw[this] at a;injection a with a;subst a;exact⟨TQ 0 Uj,adL _⟩
 .exfalso
  unfold BZ at a;rw[vT (aeC hi)] at a;unfold bJ at a;rw[abY] at a;unfold sI at a;rw[aeV] at a;split at a <;> cases a
def Xe:Prop:=∀(F:Nat->Prop) (w:aA) (hb m g q:Nat) p0 gl sv,bY F w hb m g 3 {oP p0 with s:=N7} (BZ IE gl sv)->Sl mC 3 w q [(2,0,1)]->(∀b,kW q 1=some b->F b)->
 aG prog 16 #[.pointer hb, .agg #[bH,bH,bH, .slice q 1 1]] w (Jz F hb m g 3 {oP p0 with s:=N7} (BZ IE gl sv) 9 0 [] [] [(2,0,1)] w)
theorem Aq(I:Xe)(w:aA):aG prog 7 #[] w λr w'=>r= .returned (.bool true)/\aD w w w':=by
 have J:=aP (KF w 3 aQ);go_enter func7,ntmps7
 go_wp2_with fail
 refine aR J ?_;rintro r Z ⟨hb,m,g,p0,rfl,K,f⟩;have q:=SH K (uU 4).1 2 2 9;have F:JA (oP p0) 2 2 9=0:=Vx;have L:L9 (oP p0) 2 2 9={oP p0 with s:=N7}:=rfl;rw[F,L] at q;have q:=aP q;have d:=aP f;have jM:=f.size;clear K f J F L;go_wp2_with fail
 refine aR q ?_;rintro r k ⟨rfl,M,l⟩;have h:aH (aD w w k):=⟨l.os.trans d.o.os,l.tape.trans d.o.tape,l.output.trans d.o.output,abT jM l.size,λi hi=>(l.block i hi).trans (d.o.block i hi)⟩
 have N:=aP M;clear M l q d jM;go_wp2_with fail
 have t:=aX k (aI #[.int .i64 1, .int .i64 20, .int .i64 20,bH,aU] 125);have O:sM (k.alloc (aI #[.int .i64 1, .int .i64 20, .int .i64 20,bH,aU] 125)) (some ⟨k.heap.size,0,none⟩) [⟨TF,none,0⟩]:=⟨Sl.new lL k ⟨TF,none,0⟩ _ rfl _,λx u=>by rw[ab0.1 u];exact Sl.nil _ _,λx u=>by rw[ab0.1 u];exact abM _⟩
 have e:=OW (N.o.below t).1 2 1 O cE (λx u=>by rw[ab0.1 u];exact abX _) 0;simp only[List.map_cons,List.map_nil,Em,Ao,acN,ac2,acP] at e;have e:=aP e;have a:aH (aD w w (k.alloc (aI #[.int .i64 1, .int .i64 20, .int .i64 20,bH,aU] 125))):=h.o.alloc h.o.size _;clear t O N h;refine aR e ?_;rintro r w5 ⟨gl,sv,rfl,P,n⟩;have j:aH (aD w w w5):=⟨n.os.trans a.o.os,n.tape.trans a.o.tape,n.output.trans a.o.output,abT a.o.size n.size,λi hi=>(n.block i hi).trans (a.o.block i hi)⟩
 have G:=aP P;clear P n e a;go_wp2_with fail
 have Q:=(bY.cH hb m g 3 {oP p0 with s:=N7} (BZ IE gl sv)).box G.o G.o.fl (aI #[.int .i64 2,aU, .int .i64 1] 126);have kH:=I _ _ _ _ _ _ _ _ _ Q (Sl.new uP w5 (2,0,1) _ rfl _) (MN (λb hb=> .inr (by injection hb with hb;exact hb.symm)) 1);simp only[acN,ac2,acP] at kH;have kH:=aP kH;have c:aH (aD w w (w5.alloc (aI #[.int .i64 2,aU, .int .i64 1] 126))):=j.o.alloc j.o.size _;clear Q G j I;refine aR kH ?_;rintro r U ⟨o,D,AS,k',V,rfl,X,H, -, -, -, -, -, -,p⟩;obtain⟨F,⟨k2,⟨Y,v,B, -⟩, -⟩,hj,hn⟩:=X;have T:Rz Y.s:=Rz.before (by show Rz (kA N7 (iF (BZ IE gl sv) [(2,0,1)]) 8);rw[MP];exact Rx gl sv) rfl v;obtain⟨C,z2⟩:=T.tick;rw[<-B] at C z2;rw[MP,C,Wv] at hj;rw[MP,C,Wt] at hn;obtain⟨⟨env,ch⟩,S,R,W,A,tk,nu,⟨TA,Tn,Tc⟩,st,x,y,z⟩:=o;simp only at C z2 hj hn;obtain⟨rfl,rfl⟩:=af3 hj;subst C z2 hn;have E:aH (aD w w U):=⟨p.os.trans c.o.os,p.tape.trans c.o.tape,p.output.trans c.o.output,abT c.o.size p.size,λi hi=>(p.block i (.inl hi)).trans (c.o.block i hi)⟩
 clear p v B T H hj F kH c;simp only[jX];go_wp2_with fail
 go_ret
 exact⟨rfl,E.o.alloc E.o.size _⟩
inductive uR (k:Kv) (rs:List Rm) (a:Ac):Int->Kv->List Rm->Prop
 |res (h:a.kd=1):uR k rs a (JA k a.env a.bu a.pe) (L9 k a.env a.bu a.pe) rs
 |Sb (h:a.kd=2):uR k rs a (MI k a.env) (PW k a.env) rs
 |Sj (h:a.kd=3) (gl:Nat) (sv:aC):uR k rs a (zS rs a.env (a.ts.map Tm.t) (a.od%2)) k (J4 rs a.env (a.ts.map Tm.t) (a.od%2) gl sv)
 |Vd (h:a.kd=4):uR k rs a (T6 k rs a.env) (Bb k rs a.env) (Ch rs a.env)
 |Sf (h:a.kd=5) (B:Option aJ) (d:Nat):uR k rs a (EO k rs a.env a.cs) (PO k rs a.env a.cs) (RH rs a.env a.cs B d)
 |go (h:a.kd≠1/\a.kd≠2/\a.kd≠3/\a.kd≠4/\a.kd≠5):uR k rs a (UI k rs a.env) (YH k rs a.env) (Ak rs a.env)
def Xy(a:Ac):aC:= .agg #[a.kd,a.env, .int .u8 a.n,a.bu,a.pe,(a.TA,a.ts.length,a.Tc), .int .u8 a.od,(a.CA,a.cs.length,a.Cc),(a.RA,a.rs.length,a.Rc),(a.WA,a.ws.length,a.Wc),(a.XA,a.xs.length,a.Xc),(a.QA,a.qs.length,a.Qc)]
def AD(F:Nat->Prop)(hb m g:Nat)(c:Int)(k:Kv)(rs:List Rm)(a:Ac)(w:aA)(e:aM)(w':aA):Prop:=∃(E:Int) (k':Kv) (rs':List Rm),e= .returned (.int .i64 E)/\uR k rs a E k' rs'/\bY F w' hb m g c k' rs'/\Kp F w w'
variable{E:Int}{oa:List Rm}
section
variable{F:Nat->Prop}{w w':aA}{hb m g:Nat}{c:Int}{k:Kv}{rs:List Rm}
theorem yY.act{a:Ac}{o:Obj}{e:aM}(h:bY F w hb m g c k rs)(r:yY (Fb F w) hb m g c k' oa (.int .i64 E) (w.alloc o) e w')(ha:uR k rs a E k' oa):e= .returned (.int .i64 E)/\aH (AD F hb m g c k rs a w (.returned (.int .i64 E)) w'):=by
 obtain⟨h1,d,f⟩:=r;exact⟨h1,E,k',oa,rfl,ha,d.less λb hb=> .inl hb,(h.below (aX w o)).2.trans f.unbox⟩
theorem Iv(h:bY F w hb m g c k rs)(A:KI k n0)(a:Ac)(I:rA (λb=>b<w.heap.size) w a)(C:uL a):aG prog 12 #[.pointer hb,Xy a] w (AD F hb m g c k rs a w):=by
 have p:=λo=>aX w o
 have l:=λo=>(bY.cH hb m g c k rs).box h h.fl o
 have f:=λo=>I.kp (Kp.cD (p o) λb hb=>hb)
 obtain⟨kd,env,n,bu,pe,TA,Tc,ts,od,CA,Cc,cs,RA,Rc,i,WA,Wc,ws,XA,Xc,xs,QA,Qc,qs⟩:=a;have z:=aP h;simp only[Xy];by_cases q:kd=1
 .subst q;have G:aH (∀o,aG prog 32 #[.pointer hb,env, .agg #[bu,pe]] (w.alloc o) λr w'=>r= .returned (.int .i64 (JA k env bu pe))/\aH (AD F hb m g c k rs ⟨1,env,n,bu,pe,TA,Tc,ts,od,CA,Cc,cs,RA,Rc,i,WA,Wc,ws,XA,Xc,xs,QA,Qc,qs⟩ w (.returned (.int .i64 (JA k env bu pe))) w')):=λo=>(SH (l o) A.sd env bu pe).mono λe w' r=>r.act z.o (.res rfl)
  clear h l A I C f p z;go_enter func12,ntmps12
  go_wp2_with(go_at_call 32;(refine aS (G.o _) ?_);rintro r R ⟨rfl,j⟩)
  go_ret
  exact j.o
 by_cases s:kd=2
 .subst s;have G:aH (∀o,aG prog 35 #[.pointer hb,env] (w.alloc o) λr w'=>r= .returned (.int .i64 (MI k env))/\aH (AD F hb m g c k rs ⟨2,env,n,bu,pe,TA,Tc,ts,od,CA,Cc,cs,RA,Rc,i,WA,Wc,ws,XA,Xc,xs,QA,Qc,qs⟩ w (.returned (.int .i64 (MI k env))) w')):=λo=>(Fy (l o) A.sd env).mono λe w' r=>r.act z.o (.Sb rfl)
  clear h l A I C f p z;go_enter func12,ntmps12
  go_wp2_with(go_at_call 35;(refine aS (G.o _) ?_);rintro r R ⟨rfl,j⟩)
  go_ret
  exact j.o
 have T:(kd==1)=false:=by simpa using q
 have U:(kd==2)=false:=by simpa using s
 by_cases u:kd=4
 .subst u;have G:aH (∀o,aG prog 36 #[.pointer hb,env] (w.alloc o) λr w'=>r= .returned (.int .i64 (T6 k rs env))/\aH (AD F hb m g c k rs ⟨4,env,n,bu,pe,TA,Tc,ts,od,CA,Cc,cs,RA,Rc,i,WA,Wc,ws,XA,Xc,xs,QA,Qc,qs⟩ w (.returned (.int .i64 (T6 k rs env))) w')):=λo=>(Ad (l o) A.Ts env).mono λe w' r=>r.act z.o (.Vd rfl)
  clear h l A I C f p z q s T U;go_enter func12,ntmps12
  go_wp2_with(go_at_call 36;(refine aS (G.o _) ?_);rintro r R ⟨rfl,j⟩)
  go_ret
  exact j.o
 have e4:(kd==4)=false:=by simpa using u
 by_cases D:kd=5
 .subst D;have G:aH (∀o,aG prog 37 #[.pointer hb,env,(CA,cs.length,Cc)] (w.alloc o) λr w'=>r= .returned (.int .i64 (EO k rs env cs))/\aH (AD F hb m g c k rs ⟨5,env,n,bu,pe,TA,Tc,ts,od,CA,Cc,cs,RA,Rc,i,WA,Wc,ws,XA,Xc,xs,QA,Qc,qs⟩ w (.returned (.int .i64 (EO k rs env cs))) w')):=λo=>(Ba (l o) A.Ts env Cc (f o).c (abT C.c cE) (f o).cr).mono λe w' ⟨B,d,r⟩=>r.act z.o (.Sf rfl B d)
  clear h l A I C f p z q s T U u e4;go_enter func12,ntmps12
  go_wp2_with(go_at_call 37;(refine aS (G.o _) ?_);rintro r R ⟨rfl,j⟩)
  go_ret
  exact j.o
 have e5:(kd==5)=false:=by simpa using D
 by_cases H:kd=3
 .subst H;clear T U e4 e5 q s u D;have ho:Int.tmod od 2=od%2:=Int.tmod_eq_emod_of_nonneg I.od.1;have o0:0<=od%2:=aQ;have o1:od%2<2:=aQ;have N:aH (∀o W,aD (w.alloc o).heap.size (w.alloc o) W->aG prog 25 #[(TA,ts.length,Tc)] W λr w'=>∃(A':Option aJ) (J:Nat) (L:List Tm),r= .returned (.slice A' ts.length J)/\aH (sM w' A' L/\L.map Tm.t=ts.map Tm.t/\aD (w.alloc o).heap.size (w.alloc o) w')):=λo W K=>by
   refine(V9 Tc W ((f o).t.keep K) (λx l=>((f o).se x l).1.keep K) (abT C.t cE) (λx l=>by have:=C.se x l;omega)).mono ?_;rintro r w' ⟨A',J,L,rfl,h1,V,h3⟩;exact⟨A',J,L,rfl,h1,V,K.trans (h3.mono K.size)⟩
  have O:aH (∀o P W A' J L,aH (sM P A' L/\L.map Tm.t=ts.map Tm.t/\aD (w.alloc o).heap.size (w.alloc o) P)->aD P.heap.size P W->aG prog 33 #[.pointer hb,env, .slice A' ts.length J, .int .i64 (od%2)] W λr w'=>r= .returned (.int .i64 (zS rs env (ts.map Tm.t) (od%2)))/\aH (AD F hb m g c k rs ⟨3,env,n,bu,pe,TA,Tc,ts,od,CA,Cc,cs,RA,Rc,i,WA,Wc,ws,XA,Xc,xs,QA,Qc,qs⟩ w (.returned (.int .i64 (zS rs env (ts.map Tm.t) (od%2)))) w'/\Kp (Fb F w) (w.alloc o) w')):=λo P W A' J L M hV=>by
   have K:aD (w.alloc o).heap.size (w.alloc o) W:=M.o.2.2.trans (hV.mono M.o.2.2.size);have h1:=(l o).below K;have hl:L.length=ts.length:=by have:=congrArg List.length M.o.2.1;simpa using this
   have X:∀x∈L,x.t.se.length<=1000000:=λx Y=>by
    have V:x.t∈ts.map Tm.t:=by rw[<-M.o.2.1];exact ad3.2 ⟨x,Y,rfl⟩
    obtain⟨y,hy,e⟩:=ad3.1 V;have:=C.se y hy;rw[<-e];omega
   have hc:=OW h1.1 env J (M.o.1.keep hV) (by rw[hl];exact abT C.t cE) X (od%2);rw[hl,M.o.2.1] at hc;refine hc.mono ?_;rintro r w' ⟨gl,sv,r1,r2,r3⟩;have k2:=h1.2.trans r3;exact⟨r1,⟨_,_,_,rfl, .Sj rfl gl sv,r2.less λb hb=> .inl hb,(z.o.below (aX w o)).2.trans k2.unbox⟩,k2⟩
  have Z:aH (∀o,¬Fb F w (w.alloc o).heap.size/\Fb F w w.heap.size):=λo=>⟨λh=>by
   have:=(l o).fl _ h;omega, .inr rfl⟩
  clear h l A I C f p z;generalize od%2=o2 at *;go_enter func12,ntmps12
  go_upto_region 7 with(fail)
  have S:=aP (bE.new w 44 #[.int .i64 3,env, .int .u8 n,bu,pe,(TA,ts.length,Tc), .int .u8 od,(CA,cs.length,Cc),(RA,i.length,Rc),(WA,ws.length,Wc),(XA,xs.length,Xc),(QA,qs.length,Qc)]);have d1:=S.o.cell 1 env rfl;have d5:=S.o.cell 5 (.slice TA ts.length Tc) rfl;have d6:=S.o.cell 6 (.int .u8 od) rfl;have a1:=aP (N.o (aI #[.int .i64 3,env, .int .u8 n,bu,pe,(TA,ts.length,Tc), .int .u8 od,(CA,cs.length,Cc),(RA,i.length,Rc),(WA,ws.length,Wc),(XA,xs.length,Xc),(QA,qs.length,Qc)] 44));have Q:=aP (O.o (aI #[.int .i64 3,env, .int .u8 n,bu,pe,(TA,ts.length,Tc), .int .u8 od,(CA,cs.length,Cc),(RA,i.length,Rc),(WA,ws.length,Wc),(XA,xs.length,Xc),(QA,qs.length,Qc)] 44));have v:aH (Fb F w w.heap.size):= .inr rfl;clear N O Z S;generalize w.alloc (aI #[.int .i64 3,env, .int .u8 n,bu,pe,(TA,ts.length,Tc), .int .u8 od,(CA,cs.length,Cc),(RA,i.length,Rc),(WA,ws.length,Wc),(XA,xs.length,Xc),(QA,qs.length,Qc)] 44)=w1 at *;generalize w.heap.size=q1 at *;have ow:IntKind.i64.wrap o2=o2:=by rw[IntKind.wrap_i64];omega
  go_region_held3 (λW=>W.cell? (q1,1)=some (.int .i64 env)/\W.cell? (q1,5)=some (.slice TA ts.length Tc)/\W.cell? (q1,6)=some (.int .u8 od)) (first|exact⟨d1,d5,d6⟩|exact⟨‹_›,‹_›,‹_›⟩|fail) ((first|(go_at_call 25;(with_reducible refine(a1.o _ (Below.refl _ _).drew).mono ?_);rintro r w3 ⟨A',J,L,rfl,E⟩;(have x1:=bK E.o.2.2 d1);(have x5:=bK E.o.2.2 d5);(have x6:=bK E.o.2.2 d6))|(go_at_call 33;(with_reducible refine(Q.o _ _ _ _ _ E (Below.refl _ _)).mono ?_);rintro r w4 ⟨rfl,j⟩;(have y1:=j.o.2.cell d1 v.o);(have y5:=j.o.2.cell d5 v.o);(have y6:=j.o.2.cell d6 v.o))|(go_at_call 33;(with_reducible refine(Q.o _ _ _ _ _ E (Below.refl _ _).drew).mono ?_);rintro r w4 ⟨rfl,j⟩;(have y1:=j.o.2.cell d1 v.o);(have y5:=j.o.2.cell d5 v.o);(have y6:=j.o.2.cell d6 v.o))))
  all_goals
   go_wp2_with fail
   go_ret
   exact j.o.1
 have e3:(kd==3)=false:=by simpa using H
 have G:aH (∀o,aG prog 38 #[.pointer hb,env] (w.alloc o) λr w'=>r= .returned (.int .i64 (UI k rs env))/\aH (AD F hb m g c k rs ⟨kd,env,n,bu,pe,TA,Tc,ts,od,CA,Cc,cs,RA,Rc,i,WA,Wc,ws,XA,Xc,xs,QA,Qc,qs⟩ w (.returned (.int .i64 (UI k rs env))) w')):=λo=>(Oo (l o) A.Ts env).mono λe w' r=>r.act z.o (.go ⟨q,s,H,u,D⟩)
 clear h l A I C f p z q s H u D;go_enter func12,ntmps12
 go_wp2_with(go_at_call 38;(refine aS (G.o _) ?_);rintro r R ⟨rfl,j⟩)
 go_ret
 exact j.o
end
end
section
open Go.RowKit Go.Lib
namespace Fr
theorem Ip(w:aA)(b off c:Nat)(L:List Int)(h:Sl eB 1 w (some ⟨b,off,none⟩) L)(n:Nat)(f:L.length=n):
 (convert 51 9 (.slice (some ⟨b,off,none⟩) n c)).run prog w= .ok (.string (strOfNums L)) w:=by
 refine run_convert_bytes_arg w 51 5 underlying51 underlying5 b off n c L f (λi hi=>?_) _ underlying9;have a:i<L.length:=aQ;obtain⟨j,e,d,hc⟩:=h aQ;injection d with d;injection d with h1 g;subst h1 g;have:=hc i L[i] 0 (.int .u8 L[i]) (abL a) rfl;rw[adQ,acC] at this;rw[this,List.getD,abL a];rfl
end Fr
end
section
open Go.RowKit Go.Lib Go.Shelf dL Fr Up Nt
variable{i hb m g:Nat}{cs:Array aC}{F:Nat->Prop}{w:aA}{k:Kv}{rs:List Rm}
section
structure iS(F:Nat->Prop)(w:aA)(hb m g:Nat)(c:Int)(k:Kv)(rs:List Rm)(l:List Pt):Prop where
 ob:Ob (N9 hb m g c k rs::l) F w
section
variable{F G:Nat->Prop}{w w':aA}{hb m g q:Nat}{c:Int}{k:Kv}{rs:List Rm}{l:List Pt}
theorem iS.fl(h:iS F w hb m g c k rs l):Ol F w:=h.ob.fl
theorem iS.less(h:iS F w hb m g c k rs l)(a:∀b,G b->F b):iS G w hb m g c k rs l:=⟨h.ob.Kn a⟩
theorem iS.below(h:iS F w hb m g c k rs l)(b:aD w w w'):iS F w' hb m g c k rs l/\Kp F w w':=⟨⟨h.ob.below b⟩,h.ob.NV b⟩
theorem iS.grow(h:iS F w hb m g c k rs l)(hw:aD w w w'):iS (Nw F w w') w' hb m g c k rs l:=⟨dV.grow (Ob.cH _) h.ob h.ob.fl hw⟩
theorem iS.box(h:iS F w hb m g c k rs l)(x:Obj):iS (Fb F w) (w.alloc x) hb m g c k rs l:=⟨(Ob.cH _).box h.ob h.ob.fl x⟩
theorem iS.of(h:bY F w hb m g c k rs):iS F w hb m g c k rs []:=⟨Ob.single (p:=N9 hb m g c k rs) h h.fl⟩
theorem iS.Lo(h:iS F w hb m g c k rs l):∃G,bY G w hb m g c k rs:=by
 obtain⟨G,a,_⟩:=h.ob.use 0 _ rfl;exact⟨G,a⟩
theorem iS.ho(h:iS F w hb m g c k rs l):∃G,(∀b,F b->G b)/\bY G w hb m g c k rs/\∀(k':Kv) (a:List Rm) (w':aA) (X:Nat->Prop),(∀b,X b->w.heap.size<=b)->bY (λb=>G b\/X b) w' hb m g c k' a->Kp G w w'->iS (λb=>F b\/X b) w' hb m g c k' a l/\Kp F w w':=by
 obtain⟨G,hs,e,back⟩:=h.ob.U8 0 _ rfl;refine⟨G,hs,e,λk' a w' X f d i=>?_⟩;obtain⟨b1,b2⟩:=back (N9 hb m g c k' a) w' X f d (bY.fl d) i;exact⟨⟨b1⟩,b2⟩
theorem iS.aY(h:iS F w hb m g c k rs l){t:TypeId}(hp:l[i]?=some (PB q t cs)):bE w q t cs:=by
 obtain⟨G,a,_⟩:=h.ob.use (i+1) (PB q t cs) hp;exact(show mR q t cs G w from a).b
theorem iS.put(h:iS F w hb m g c k rs l){i:Nat}{t:TypeId}{cs:Array aC}(hp:l[i]?=some (PB q t cs))(j:Nat)(v:aC){cs':Array aC}(hc:cs'=cs.setIfInBounds j v):iS F (w.setCell (q,j) v) hb m g c k rs (l.set i (PB q t cs'))/\Kp F w (w.setCell (q,j) v):=by
 obtain⟨G,a,back⟩:=h.ob.use (i+1) (PB q t cs) hp;obtain⟨s1,s2⟩:=mR.set (cs':=cs') (show mR q t cs G w from a) j v hc;obtain⟨b1,b2⟩:=back (PB q t cs') _ s1 s2;exact⟨⟨b1⟩,b2⟩
theorem iS.new(h:iS F w hb m g c k rs l)(t:TypeId)(cs:Array aC):iS F (w.alloc (aI cs t)) hb m g c k rs (l++ [PB w t cs])/\Kp F w (w.alloc (aI cs t)):=
 ⟨⟨h.ob.add (p:=PB w t cs) (PB.mk (bE.new w t cs) (λb hb=>abO hb (aX w _).size) (adH _)) (aX w _)⟩,h.ob.NV (aX w _)⟩
end
def fS(s:dU)(f:Nat):ByteArray:=strOfNums (uQ s f)
def ZW(S:ByteArray)(v:aC)(w:aA):Prop:=∀w',bQ w w'->(convert 51 9 v).run prog w'= .ok (.string S) w'
theorem He(s:dU)(g f:Nat)(w:aA)(h:Fm w g s)(hf:f<s.n):aG prog 13 #[.pointer g,f] w λe w'=>∃v,e= .returned v/\bQ w w'/\ZW (fS s f) v w':=by
 unfold fS;refine(ZO s g f w h hf).mono ?_;rintro e w' ⟨O,d,rfl,hs,hb⟩;have hlen:=I7 h.b (show f<32 by have:=h.n0;omega);refine⟨_,rfl,hb,λa i=>?_⟩;obtain⟨b,off,j,_⟩:=hs aQ;subst j;exact Ip a b off d _ (hs.keep i) _ rfl
structure LkC(w:aA)(g gf gc:Nat)(k:Kv):Prop where
 p0:w.cell? (g,0)=some (.pointer gf)
 p2:w.cell? (g,2)=some (.pointer gc)
 by_:∀f:Nat,f<k.f.n->∀W,bQ w W->aG prog 13 #[.pointer gf,f] W λe w'=>∃v,e= .returned v/\bQ W w'/\ZW (fS k.f f) v w'
 tk:∀(f:Int) (n:CW (bQ w)),aG prog 14 #[.pointer gf,f] n.w λe w'=>e= .returned (.bool (dM k.f f))/\bQ n.w w'
 fd:∀(e f:Int) (n:CW (bQ w)),aG prog 15 #[.pointer gc,e, .int .i64 1,f] n.w λr w'=>r= .returned (.int .i64 (iZ k.c e 1 f))/\bQ n.w w'
theorem bY.lk{c:Int}(h:bY F w hb m g c k rs):∃gf gc,LkC w g gf gc k:=by
 obtain⟨G,a,hk,_,_⟩:=h.kn;have p0:=hk.pf;have p2:=hk.pc;unfold pA at p0 p2;refine⟨a.gf,a.gc,p0,p2,λf hf W i=>?_,λf n=>?_,λe f n=>?_⟩
 .obtain⟨d,b,_⟩:=(hk.below i).1.fr;exact He k.f a.gf f W b.m hf
 .obtain⟨d,b,_⟩:=(hk.below n.ok).1.fr;exact P2 (uE k.f a.gf f n.w b.m)
 .obtain⟨d,b,_⟩:=(hk.below n.ok).1.cp;exact RG b e 1 f
end
variable{k':Kv}{e N E p tk nu:Int}{D:List (Int×Int)}{L:List En}{ws qs:List (Int×Int×Int)}{rn:Rn}{n nT:Nat}{oa:List Rm}{AS:List Int}
section
theorem Mv.mono{A B:Int->Int->Int->Prop}(m:Mv A k k')(f:∀w d o,A w d o->B w d o):Mv B k k':=by
 cases m with
 |fY h r=>exact .fY (h.elim (λ⟨i,h1,c,g⟩=> .inl ⟨i,h1,f _ _ _ c,g⟩) .inr) r
 |nD ho ha self j=>exact .nD ho (f _ _ _ ha) self j
 |alloc h c=>exact .alloc h c
 |pass ho ha l h1 e s=>exact .pass ho (f _ _ _ ha) l h1 e s
 |write ho ha hk c a v=>exact .write ho (f _ _ _ ha) hk c a v
 |load ho hk he hf c=>exact .load ho hk he hf c
 |tl h=>exact .tl h
 |xM b v s n=>exact .xM b v s n
theorem uF.mono{A B:Int->Int->Int->Prop}(m:uF A k k')(a:∀w d o,A w d o->B w d o):uF B k k':=by
 induction m with
 |nil _=>exact .nil _
 |cons m _ b=>exact .cons (m.mono a) b
def gM(A:Int->Int->Int->Prop)(k k':Kv):Prop:=KJ k->uF A k k'/\(HD k->HD k')
section
variable{A B:Int->Int->Int->Prop}{k k1 k':Kv}
theorem gM.refl(k:Kv):gM A k k:=λ_=>⟨.nil _,λd=>d⟩
theorem gM.trans(h:gM A k k1)(e:gM A k1 k'):gM A k k':=λhk=>by
 obtain⟨a,b⟩:=h hk;obtain⟨c,d⟩:=e (hk.BH a);exact⟨a.trans c,λx=>d (b x)⟩
theorem gM.mono(h:gM A k k')(a:∀w d o,A w d o->B w d o):gM B k k':=λhk=>⟨(h hk).1.mono a,(h hk).2⟩
theorem gM.xM(k:Kv)(b:List Nt)(v:List Vc)(s:Sd)(n:Nat):gM A k {k with b:=b,v:=v,s:=s,n:=n}:=λ_=>⟨.one (.xM b v s n),λd=>d.same rfl rfl⟩
theorem gM.tell(k:Kv)(e:Int):gM A k (dQ k e):=by
 unfold dQ;split
 .exact gM.xM k k.b k.v _ k.n
 .exact gM.refl _
theorem gM.mO(l:List Int):∀k:Kv,gM A k (dY k l):=by
 induction l with
 |nil=>intro k;exact gM.refl _
 |cons e l a=>intro k;exact(gM.tell k e).trans (a _)
end
theorem iM.zQ{c x:Int}(he:0<=e/\e<8)(r:iM c e i x k N E k'):gM (JL e) k k':=λhk=>by
 unfold iM at r;split at r
 .rw[r.2.2];exact⟨.nil _,λd=>d⟩
 .split at r
  .rcases r with r|r
   .have a:0<=aW x:=by unfold aW;omega
    exact⟨r.BH hk he a,λd=>r.hd hk d he a⟩
   .rw[r.2.2];exact⟨.nil _,λd=>d⟩
  .rw[r.2.2];exact⟨.nil _,λd=>d⟩
theorem uK.zQ{c:Int}{ws:List Int}(he:0<=e/\e<8)(r:uK c e k ws D k'):gM (JL e) k k':=by
 induction r with
 |nil=>exact gM.refl _
 |snoc _ x h a=>exact a.trans (h.zQ he)
theorem Y1{a f:Int}{b:Bool}(h:Pa.Cp.nH L a p=some (f,b)):∃x∈L,x.env=a/\x.dA=p/\x.frame=f/\x.write=b:=by
 unfold Pa.Cp.nH at h;cases hf:L.find? (mI a p) with
 |none=>rw[hf] at h;cases h
 |some x=>
  rw[hf] at h;injection h with h;obtain⟨h1,c⟩:=af3 h;obtain⟨d,e⟩:=kR.1 (List.find?_some hf);exact⟨x,afI hf,d,e,h1,c⟩
theorem Y6{x:En}:∀{L:List En},qC L->x∈L->Pa.Cp.nH L x.env x.dA=some (x.frame,x.write)
 | [],_,h=>by cases h
 |y::L,u,h=>by
  unfold qC at u;rw[aeQ] at u;unfold Pa.Cp.nH;by_cases a:mI x.env x.dA y=true
  .rw[List.find?_cons_of_pos a];rcases adV.1 h with rfl|h
   .rfl
   .exact absurd (kR.1 a) (u.1 x h)
  .rw[List.find?_cons_of_neg a];rcases adV.1 h with rfl|h
   .exact absurd (kR.2 ⟨rfl,rfl⟩) a
   .exact Y6 u.2 h
theorem Qh{s:dU}(h:zX (Pa.Cp.nH k.t e) k.f s):gM (JL e) k {k with f:=s}:=λhk=>by
 induction h with
 |refl=>exact⟨.nil _,λd=>d⟩
 | @put s1 r p f a v hp b=>
  obtain⟨x,g,j,q,l,m⟩:=Y1 hp;obtain⟨i,n,i1,i2,i3,i4⟩:=hk.tb x g;have m2:Mv (JL e) {k with f:=s1} {k with f:=iV s1 (bG k.c i).ob a v}:=Mv.write (k:={k with f:=s1}) n (by show _=e;rw[<-j,i1]) i2 (i4 m) a v;rw[i3,l] at m2;refine⟨b.1.trans (.one m2),λd o ho=>?_⟩;obtain⟨n1,t1,_,_⟩:=wQ s1 f a v;exact b.2 d o (by rw[<-FF n1 t1 o];exact ho)
theorem lY.zQ(he:0<=e/\e<8)(r:lY e k k'):gM (JL e) k k':=by
 induction r with
 |refl=>exact gM.refl _
 | @run k1 r L s hL hs g=>
  refine g.trans ((Qh hs).trans λhk=>⟨.one (Mv.tl (k:={k1 with f:=s}) λx p=>?_),λd=>d.same rfl rfl⟩);have h1:=Y6 hL.1 p;rw[hL.2.2] at h1;obtain⟨y,q,i,j,m,o⟩:=Y1 h1;obtain⟨a,b,c,d⟩:=x;obtain⟨a',t,u,d'⟩:=y;simp only at i j m o;subst i j m o;exact q
 |Cj r l x N E h g=>exact g.trans (h.zQ he)
 | @EY k1 r b g=>exact g.trans (gM.xM k1 k1.b k1.v _ k1.n)
 |tell r g=>exact g.trans (gM.tell _ e)
theorem kB.zQ{l:List Nt}(r:kB l k k'):gM (λw d o=>∃x∈l,R7 x.cZ x.dJ w d o) k k':=by
 induction r with
 |nil _=>exact gM.refl _
 | @cons x l k k1 k' r1 r ih=>
  have h1:gM (R7 x.cZ x.dJ) k k1:=λhk=>r1.BH hk
  exact(h1.mono λw d o h=>⟨x,aT,h⟩).trans ((gM.tell k1 x.cZ).trans (ih.mono λw d o ⟨y,a,h⟩=>⟨y,by simp[a],h⟩))
theorem uG{x:Nt}:∀{l:List Nt} {n:Nat},x∈jT n l->∃y∈l,y.cZ=x.cZ/\y.dJ=x.dJ/\y.dD=x.dD
 | [],_,h=>by cases h
 |y::l,n,h=>by
  unfold jT at h;rcases adV.1 h with rfl|h
  .exact⟨y,aT,rfl,rfl,rfl⟩
  .obtain⟨z,a,h⟩:=uG h;exact⟨z,by simp[a],h⟩
theorem OC{y:Nt}:∀{l:List Nt} {n:Nat},y∈l->∃x∈jT n l,y.cZ=x.cZ/\y.dJ=x.dJ/\y.dD=x.dD
 | [],_,h=>by cases h
 |z::l,n,h=>by
  unfold jT;rcases adV.1 h with rfl|h
  .exact⟨_,List.mem_cons_self,rfl,rfl,rfl⟩
  .obtain⟨x,a,h⟩:=OC (n:=n+1) h;exact⟨x,af1 _ a,h⟩
def Xx(b:List Nt)(nw:Int):Int->Int->Int->Prop:=λw d o=>∃x∈b,x.dD<=nw/\R7 x.cZ x.dJ w d o
theorem kQ.zQ(r:kQ k k'):gM (Xx k.b k.s.nw) k k':=by
 obtain⟨l1,c,T,e,f,h,rfl⟩:=r;refine(gM.mO l1 k).trans (gM.trans (gM.xM (dY k l1) (k.b.filter λx=>decide (k.s.nw<x.dD)) (T.foldl jI k.v) (dY k l1).s (dY k l1).n) (gM.trans (h.zQ.mono λw d o ⟨x,g,h⟩=>?_) (gM.mO c e)));obtain⟨y,a,i,j,l⟩:=uG (f.mem_iff.1 g);rw[ac1,ad0] at a;exact⟨y,a.1,a.2,by rw[i,j];exact h⟩
theorem Cr{A:Int->Int->Int->Prop}(k:Kv)(e o gr:Int):gM A k (gZ k e o gr).2:=by
 unfold gZ;split
 .exact gM.refl _
 .split
  .exact gM.refl _
  .split
   .exact gM.refl _
   .exact(gM.xM k _ k.v k.s k.n).trans (gM.tell _ e)
theorem WB{A:Int->Int->Int->Prop}(ws:List (Int×Int×Int)):∀k:Kv,gM A k (kJ k ws):=by
 induction ws with
 |nil=>intro k;exact gM.refl _
 |cons a l b=>intro k;exact(Cr k a.1 a.2.1 a.2.2).trans (b _)
theorem MR(k:Kv)(e:Int):(dQ k e).b=k.b:=by unfold dQ;split <;> rfl
theorem M1(k:Kv)(e:Int):(dQ k e).v=k.v:=by unfold dQ;split <;> rfl
theorem MJ(k:Kv)(e:Int):(dQ k e).c=k.c:=by unfold dQ;split <;> rfl
theorem LG(l:List Int):∀k:Kv,(dY k l).b=k.b/\(dY k l).v=k.v/\(dY k l).c=k.c:=by
 induction l with
 |nil=>intro k;exact⟨rfl,rfl,rfl⟩
 |cons e l a=>
  intro k;obtain⟨h1,d,f⟩:=a (dQ k e);exact⟨h1.trans (MR k e),d.trans (M1 k e),f.trans (MJ k e)⟩
theorem Na(k:Kv)(e o gr:Int):(∀x∈k.b,x∈(gZ k e o gr).2.b)/\(∀x∈(gZ k e o gr).2.b,x∈k.b\/k.s.nw<x.dD)/\(gZ k e o gr).2.v=k.v/\(gZ k e o gr).2.c=k.c:=by
 unfold gZ;split
 .exact⟨λx a=>a,λx a=> .inl a,rfl,rfl⟩
 .split
  .exact⟨λx a=>a,λx a=> .inl a,rfl,rfl⟩
  .split
   .exact⟨λx a=>a,λx a=> .inl a,rfl,rfl⟩
   .rename_i h1 f g;simp only[MR,M1,MJ];refine⟨λx a=>?_,λx a=>?_,trivial,trivial⟩
    .unfold gU;split
     .split
      .exact a
      .exact aeS _ a
     .exact a
    .unfold gU at a;split at a
     .rename_i d;split at a
      .exact .inl a
      .rcases ab6.1 a with a|a
       .exact .inl a
       .rw[ab0.1 a];have:1<=gr:=by unfold wW at d;omega
        exact .inr (by show _<k.s.nw+gr;omega)
     .exact .inl a
theorem P9(ws:List (Int×Int×Int)):∀k:Kv,(∀x∈k.b,x∈(kJ k ws).b)/\(∀x∈(kJ k ws).b,x∈k.b\/k.s.nw<x.dD)/\(kJ k ws).v=k.v/\(kJ k ws).c=k.c:=by
 induction ws with
 |nil=>intro k;exact⟨λx d=>d,λx d=> .inl d,rfl,rfl⟩
 |cons a l e=>
  intro k;obtain⟨h1,f,g,i⟩:=e (gZ k a.1 a.2.1 a.2.2).2;obtain⟨g1,g2,g3,g4⟩:=Na k a.1 a.2.1 a.2.2;have j:=RQ k a.1 a.2.1 a.2.2;refine⟨λx d=>h1 x (g1 x d),λx d=>?_,g.trans g3,i.trans g4⟩;rcases f x d with h|h
  .exact g2 x h
  .exact .inr (by rw[<-j];exact h)
def ZH(b:List Nt)(nw env:Int):Int->Int->Int->Prop:=λw d o=>w=env\/Xx b nw w d o
theorem sV.zQ{c:Int}{xs:List Wd}(h:sV k c ws xs rn D k')(m:KI k n):gM (ZH k.b k.s.nw rn.env) k k':=by
 have p:=h.Gr m;obtain⟨a,hb,r,h⟩:=h;have h1:gM (ZH k.b k.s.nw rn.env) k a:=(WB ws k).trans (hb.zQ.mono λw d o ⟨x,q,e,h⟩=>by
  rw[AO] at e;rcases(P9 ws k).2.1 x q with g|g
  .exact .inr ⟨x,g,e,h⟩
  .omega)
 have l:gM (ZH k.b k.s.nw rn.env) a {a with s:=(gI a.s).2}:=gM.xM a a.b a.v _ a.n;rcases h with⟨i,z,he,t,ha⟩|⟨he,_,rfl⟩
 .have f:0<=rn.env/\rn.env<8:=by
   rcases p with h|⟨j,h,u⟩ <;> omega
  exact h1.trans (l.trans ((ha.zQ f).mono λw d o h=> .inl h))
 .exact h1.trans l
theorem kH.zQ{c:Int}{xs:List Wd}(h:kH c k rs ws xs qs rn D AS tk nu nT k' oa)(a:KI k n):gM (ZH k.b k.s.nw rn.env) k k':=by
 obtain⟨g,h1,j⟩:=h.t;obtain⟨l,z2,z3⟩:=yL a.sd a.p4 (iF rs qs) 8;have m:=h1.zQ (a.EG l z2);have f:gM (ZH k.b k.s.nw rn.env) k g:=(gM.xM k k.b k.v (kA k.s (iF rs qs) 8) k.n).trans (m.mono λw d o h=>by
  rcases h with h|⟨x,p,e,h⟩
  .exact .inl h
  .exact .inr ⟨x,p,by have:x.dD<=(kA k.s (iF rs qs) 8).nw:=e;omega,h⟩)
 rcases j with⟨i,he,hi,_,q,_⟩|⟨_,rfl,_⟩
 .refine f.trans ((q.zQ aQ).mono λw d o h=> .inl ?_);rw[he];exact h
 .exact f
end
variable{C:Cf}{ob rt op:Int}
section
def O4(k:Kv):Prop:=∀i,Oc k.c i->i<64
theorem O4.sub(h:O4 k)(s:nC k'.c k.c):O4 k':=λi hi=>h i (s.s i hi).1
theorem O4.same(h:O4 k)(hc:k'.c=k.c):O4 k':=λi hi=>h i (by rw[<-hc];exact hi)
structure Ax(k k':Kv):Prop where
 b:k'.b.Sublist k.b
 v:k'.v=k.v
 o:O4 k->O4 k'
section
variable{k k1 k':Kv}
theorem Ax.refl(k:Kv):Ax k k:=⟨adG _,rfl,λh=>h⟩
theorem Ax.trans(h:Ax k k1)(a:Ax k1 k'):Ax k k':=⟨a.b.trans h.b,a.v.trans h.v,λx=>a.o (h.o x)⟩
theorem Ax.of(hb:k'.b=k.b)(a:k'.v=k.v)(hc:k'.c=k.c):Ax k k':=⟨by rw[hb];exact adG _,a,λh=>h.same hc⟩
theorem Ax.tell(k:Kv)(e:Int):Ax k (dQ k e):=Ax.of (MR k e) (M1 k e) (MJ k e)
theorem Gu{o:Int}(r:kD k o k'):nC k'.c k.c:=by
 obtain⟨L,_,rfl⟩:=r;exact qE k.c _
theorem Ax.fY{o:Int}(r:kD k o k'):Ax k k':=⟨r.sm.b,r.sm.v,λh=>h.sub (Gu r)⟩
theorem Ax.nD(k:Kv)(num:Int)(self:Bool)(L:List cP):Ax k (gY k num self L):=⟨adG _,rfl,λh=>h.sub (qE k.c _)⟩
theorem Ax.Vu{l:List cP}(r:gC l k k'):Ax k k':=by
 induction r with
 |nil k=>exact Ax.refl k
 |skip _ _ a=>exact a
 |fY _ r1 _ a=>exact(Ax.fY r1).trans a
theorem Ax.Lg{l:List Int}(r:jA e l k k'):Ax k k':=by
 induction r with
 |nil k=>exact Ax.refl k
 |no _ _ a=>exact a
 |drop _ L _ _ a=>exact(Ax.nD _ _ _ L).trans a
theorem Ax.take{o:Int}(r:nJ e o k k'):Ax k k':=by
 cases r with
 |no _ h=>rw[h];exact Ax.refl k
 |keep _ r _=>exact Ax.Lg r
 |fY _ r _ a=>exact(Ax.Lg r).trans (Ax.fY a)
theorem Ax.Wy{l:List Nt}(r:kB l k k'):Ax k k':=by
 induction r with
 |nil k=>exact Ax.refl k
 |cons r1 _ a=>exact(Ax.take r1).trans ((Ax.tell _ _).trans a)
theorem MF{s kd pf:Int}(h:∀i,Oc C i->i<64)(he:e<4):∀i,Oc (dB C e s kd ob rt pf).2 i->i<64:=by
 unfold dB;split
 .exact h
 .split
  .exact h
  .rename_i k hk;split
   .exact h
   .intro i hi;by_cases c:i=k
    .obtain⟨_,a,b,ha,hb,_,d,rfl⟩:=uS hk;omega
    .refine h i ⟨hi.1,?_⟩;have:=hi.2;unfold bG at this⊢;rw[abY,adU (λe=>c e.symm)] at this;rw[abY];exact this
theorem PU{env f o t r m:Int}(h:∀i,Oc C i->i<64)(ho:o<4):∀i,Oc (gV C env f o t r m).2 i->i<64:=by
 rcases wU (C:=C) (env:=env) (from_:=f) (other:=o) (to_:=t) (rights:=r) (more:=m) with a|⟨i,c,a,d,e,b⟩
 .rw[a];exact h
 .rw[b];exact MF h ho
theorem lH.ax{A B C D:Int}(he:e<4)(r:lH k e op A B C D N E k'):Ax k k':=by
 cases r with
 |alloc _=>
  unfold lJ;split
  .exact Ax.refl k
  .split
   .exact Ax.refl k
   .split
    .exact Ax.of rfl rfl rfl
    .split <;> exact⟨adG _,rfl,λh=>MF h he⟩
 |free _ r=>
  unfold rM at r;split at r
  .rw[r.2];exact Ax.refl k
  .exact Ax.fY r.2
 |read _=>exact Ax.refl k
 |write _=>
  unfold oD;split
  .exact Ax.refl k
  .split
   .exact Ax.refl k
   .exact Ax.of rfl rfl rfl
 |load _=>
  unfold mP;split
  .exact Ax.refl k
  .split
   .exact Ax.refl k
   .exact Ax.of rfl rfl rfl
 |zG _=>exact Ax.of rfl rfl rfl
 |hand _ r=>
  unfold gT at r;split at r
  .rw[(af3 r).2];exact⟨adG _,rfl,λh=>PU h he⟩
  .split at r
   .split at r
    .rename_i b;have a:B<4:=by unfold oC at b;exact(adB b).2
     rw[(af3 r).2];exact⟨adG _,rfl,λh=>PU h a⟩
    .rw[r.2];exact Ax.refl k
   .split at r
    .unfold pW at r;split at r
     .rw[r.2];exact Ax.refl k
     .obtain⟨_,L,_,rfl⟩:=r;exact Ax.nD _ _ _ L
    .unfold wP at r;split at r
     .rw[r.2];exact Ax.refl k
     .obtain⟨_,L,_,r⟩:=r;exact(Ax.nD _ _ _ L).trans (Ax.Vu r)
 |line _=>exact Ax.refl k
 |p7 _ _=>exact Ax.of rfl rfl rfl
 |time _ r=>
  unfold mQ at r;split at r
  .rw[r.2];exact Ax.of rfl rfl rfl
  .split at r
   .rw[r.2];exact Ax.of rfl rfl rfl
   .rcases r with r|r
    .rw[r];exact Ax.refl k
    .rw[r];exact Ax.of rfl rfl rfl
 |send _ r=>
  rcases r with r|⟨o,r⟩
  .rw[r];exact Ax.refl k
  .rw[r];exact Ax.tell k o
 |next _ _=>exact Ax.refl k
 |null _=>exact Ax.refl k
theorem iM.ax{c x:Int}(he:e<4)(r:iM c e i x k N E k'):Ax k k':=by
 unfold iM at r;split at r
 .rw[r.2.2];exact Ax.refl k
 .split at r
  .rcases r with r|r
   .exact r.ax he
   .rw[r.2.2];exact Ax.refl k
  .rw[r.2.2];exact Ax.refl k
theorem uK.ax{c:Int}{ws:List Int}(he:e<4)(r:uK c e k ws D k'):Ax k k':=by
 induction r with
 |nil=>exact Ax.refl k
 |snoc _ x h a=>exact a.trans (h.ax he)
theorem lY.ax(he:e<4)(r:lY e k k'):Ax k k':=by
 induction r with
 |refl=>exact Ax.refl k
 |run r L s c hs a=>exact a.trans (Ax.of rfl rfl rfl)
 |Cj r l x N E h a=>exact a.trans (h.ax he)
 |EY r b a=>exact a.trans (Ax.of rfl rfl rfl)
 |tell r a=>exact a.trans (Ax.tell _ e)
theorem kH.ax{c:Int}{xs:List Wd}(h:kH c k rs ws xs qs rn D AS tk nu nT k' oa)(f:KI k n):(O4 k->O4 k')/\∃(b:List Nt) (T:List Nt),(∀x∈k.b,x∈b)/\(ws= []->b=k.b)/\(∀x∈b,(0<=x.cZ/\x.cZ<4)/\0<=x.dJ/\x.dJ<6)/\(b.Pairwise λx y=>¬(x.cZ=y.cZ/\x.dJ=y.dJ))/\T.Perm (jT 0 (b.filter λx=>decide (x.dD<=k.s.nw)))/\k'.v=T.foldl jI k.v/\k'.b.Sublist (b.filter λx=>decide (k.s.nw<x.dD)):=by
 obtain⟨m,h1,r⟩:=h.t;obtain⟨u,z2,z3⟩:=yL f.sd f.p4 (iF rs qs) 8;have a:=f.EG u z2;have A:=h1.Gr a;have g:rn.env<4:=by rcases A with h|⟨i,h,hi⟩ <;> omega
 have B:Ax m k':=by
  rcases r with⟨i,he,hi,_,C,_⟩|⟨_,rfl,_⟩
  .exact C.ax aQ
  .exact Ax.refl _
 obtain⟨e,hb,N,E⟩:=h1;have F:Ax e m:=by
  rcases E with⟨i,z,he,O,ha⟩|⟨_,_,rfl⟩
  .exact(Ax.of rfl rfl rfl:Ax e {e with s:=(gI e.s).2}).trans (ha.ax g)
  .exact Ax.of rfl rfl rfl
 have j:=F.trans B;have d:=AM ws a;have wn:=AO ws {k with s:=kA k.s (iF rs qs) 8};obtain⟨G,_,H,I⟩:=P9 ws {k with s:=kA k.s (iF rs qs) 8};have J:ws= []->(kJ {k with s:=kA k.s (iF rs qs) 8} ws).b=k.b:=λh=>by rw[h];rfl
 rw[show({k with s:=kA k.s (iF rs qs) 8}:Kv).s.nw=k.s.nw from z3] at wn;generalize kJ {k with s:=kA k.s (iF rs qs) 8} ws=kw at *;obtain⟨l1,K,T,L,p,M,rfl⟩:=hb;have t1:=LG l1 kw;have t2:=LG K L;have l:=Ax.Wy M;rw[wn] at p;refine⟨λh=>?_,kw.b,T,G,J,d.bb,d.bu,p,?_,?_⟩
 .have o1:O4 (dY kw l1):=h.same (t1.2.2.trans I);exact j.o ((l.o (o1.same rfl)).same t2.2.2)
 .rw[j.v,t2.2.1,l.v,H]
 .have q:=j.b.trans (by rw[t2.1];exact l.b);rw[wn] at q;exact q
end
end
section
theorem Lk(a b:Nat):(a ||| b) &&& a=a/\(a ||| b) &&& b=b:=by
 constructor <;> (apply Nat.eq_of_testBit_eq;intro i;simp only[Nat.testBit_and,Nat.testBit_or];cases a.testBit i <;> cases b.testBit i <;> rfl)
theorem Wh(F a b:Nat)(h1:F &&& a=a)(d:F &&& b=b):F &&& (a ||| b)=a ||| b:=by rw[Nat.and_or_distrib_left,h1,d]
theorem Yi{a b:Int}(ha:0<=a/\a<=15)(hb:0<=b/\b<=15):(0<=bits .or .i64 a b/\bits .or .i64 a b<=15)/\dX (bits .or .i64 a b) a=a/\dX (bits .or .i64 a b) b=b/\∀F:Int,0<=F/\F<=15->dX F a=a->dX F b=b->dX F (bits .or .i64 a b)=bits .or .i64 a b:=by
 have d:=(jF ha hb).2;have h1:a.toNat ||| b.toNat<2 ^ 4:=Nat.or_lt_two_pow aQ aQ;have e:0<=bits .or .i64 a b/\bits .or .i64 a b<=15:=by rw[d];omega
 refine⟨e,?_,?_,λF hF f1 f2=>?_⟩
 .rw[(jF e ha).1,d,abW,(Lk _ _).1];omega
 .rw[(jF e hb).1,d,abW,(Lk _ _).2];omega
 .rw[(jF hF ha).1] at f1;rw[(jF hF hb).1] at f2;rw[(jF hF e).1,d,abW,Wh _ _ _ aQ aQ]
theorem D3(kd ob:Int):∀(L:List cP) (r:Int),(0<=r/\r<=15)->(∀p∈L,0<=p.h.rt/\p.h.rt<=15)->
 (0<=L.foldl (λr p=>if p.h.kd=kd/\p.h.ob=ob then bits .or .i64 r p.h.rt else r) r/\L.foldl (λr p=>if p.h.kd=kd/\p.h.ob=ob then bits .or .i64 r p.h.rt else r) r<=15)/\
 dX (L.foldl (λr p=>if p.h.kd=kd/\p.h.ob=ob then bits .or .i64 r p.h.rt else r) r) r=r/\
 (∀p∈L,p.h.kd=kd->p.h.ob=ob->dX (L.foldl (λr p=>if p.h.kd=kd/\p.h.ob=ob then bits .or .i64 r p.h.rt else r) r) p.h.rt=p.h.rt)/\
 ∀F:Int,0<=F/\F<=15->dX F r=r->(∀p∈L,p.h.kd=kd->p.h.ob=ob->dX F p.h.rt=p.h.rt)->dX F (L.foldl (λr p=>if p.h.kd=kd/\p.h.ob=ob then bits .or .i64 r p.h.rt else r) r)=L.foldl (λr p=>if p.h.kd=kd/\p.h.ob=ob then bits .or .i64 r p.h.rt else r) r
 | [],r,b,_=>⟨b,by rw[List.foldl_nil,(jF b b).1,Nat.and_self];omega,λp hp=>(by cases hp),λF _ h _=>h⟩
 |q::L,r,b,hL=>by
  rw[ad4];have hq:=hL q aT;obtain⟨o1,o2,o3,d⟩:=Yi b hq;by_cases hc:q.h.kd=kd/\q.h.ob=ob
  .rw[abP hc];obtain⟨f1,f2,f3,f4⟩:=D3 kd ob L _ o1 λp hp=>hL p (by simp[hp])
   refine⟨f1,xB f1 o1 b f2 o2,λp hp h1 a=>?_,λF hF h1 a=>f4 F hF (d F hF h1 (a q aT hc.1 hc.2)) λp hp=>a p (by simp[hp])⟩;rcases adV.1 hp with rfl|hp
   .exact xB f1 o1 hq f2 o3
   .exact f3 p hp h1 a
  .rw[abQ hc];obtain⟨f1,f2,f3,f4⟩:=D3 kd ob L r b λp hp=>hL p (by simp[hp])
   refine⟨f1,f2,λp hp h1 a=>?_,λF hF h1 a=>f4 F hF h1 λp hp=>a p (by simp[hp])⟩;rcases adV.1 hp with rfl|hp
   .exact absurd ⟨h1,a⟩ hc
   .exact f3 p hp h1 a
theorem I8(h:CI C)(e ob:Int):(0<=iZ C e 1 ob/\iZ C e 1 ob<=15)/\(∀i,Oc C i->((i /16:Nat):Int)=e->(bG C i).kd=1->(bG C i).ob=ob->dX (iZ C e 1 ob) (bG C i).rt=(bG C i).rt)/\
 ∀F:Int,0<=F/\F<=15->(∀i,Oc C i->((i /16:Nat):Int)=e->(bG C i).kd=1->(bG C i).ob=ob->dX F (bG C i).rt=(bG C i).rt)->dX F (iZ C e 1 ob)=iZ C e 1 ob:=by
 obtain⟨f1,_,f3,f4⟩:=D3 1 ob (rS C e) 0 aQ λp hp=>by
  obtain⟨i,a,_,_,b,_⟩:=FG hp;rw[b];exact h.rt i a
 refine⟨f1,λi a hi h1 d=>?_,λF hF h1=>f4 F hF ?_ λp hp f g=>?_⟩
 .have:=f3 _ (by rw[<-hi];exact OI a) h1 d;exact this
 .rw[(jF hF aQ).1];simp
 .obtain⟨i,a,d,_,b,_⟩:=FG hp;rw[b] at f g⊢;exact h1 i a d.symm f g
theorem WQ(h:CI C)(b:iZ C e 1 ob=0):∀i,Oc C i->((i /16:Nat):Int)=e->(bG C i).kd=1->(bG C i).ob=ob->(bG C i).rt=0:=λi a h1 d f=>by
 have:=(I8 h e ob).2.1 i a h1 d f;rw[b,and_zero (h.rt i a)] at this;exact this.symm
structure KQ(k:Kv):Prop where
 j:KJ k
 d:HD k
 o:O4 k
section
variable{c:Int}{k k':Kv}{rs rs':List Rm}{ws:List (Int×Int×Int)}{xs:List Wd}{qs:List (Int×Int×Int)}{rn:Rn}{D:List (Int×Int)}{AS:List Int}{tk nu:Int}{nT n:Nat}
theorem kH.kq(h:kH c k rs ws xs qs rn D AS tk nu nT k' rs')(a:KI k n)(q:KQ k):KQ k':=by
 obtain⟨m,d⟩:=h.zQ a q.j;exact⟨q.j.BH m,d q.d,(h.ax a).1 q.o⟩
theorem S4{a b:Int}(ha:0<=a/\a<=15)(hb:0<=b/\b<=15)(h:dX b a=a):bits .andNot .i64 a b=0:=by
 obtain⟨x,rfl⟩:=abR ha.1;obtain⟨y,rfl⟩:=abR hb.1;have key:∀x y:Fin 16,dX (y.val:Int) (x.val:Int)=(x.val:Int)->bits .andNot .i64 (x.val:Int) (y.val:Int)=0:=cE;exact key ⟨x,aQ⟩ ⟨y,aQ⟩ h
theorem kH.Su(h:kH c k rs ws xs qs rn D AS tk nu nT k' rs')(A:KI k n)(q:KQ k){e:Nat}{o:Int}(he:e<4)(g:(e:Int)≠rn.env)(l:∀x∈k.b,x.cZ=e->x.dJ=o->¬x.dD<=k.s.nw)(m:∀a:Nat,a<4->a≠e->iZ k.c a 1 o=0):bits .andNot .i64 (iZ k.c e 1 o) (iZ k'.c e 1 o)=0:=by
 have hs:=h.zQ A q.j;have F:=h.kq A q;obtain⟨f1,_,f3⟩:=I8 q.j.ci e o;obtain⟨g1,g2,_⟩:=I8 F.j.ci e o;refine S4 f1 g1 (f3 _ g1 λi G h1 B r=>?_);by_cases C:(bG k.c i).rt=0
 .rw[C,(jF g1 aQ).1];simp
 .have p:PS i (bG k.c i) k:=⟨G,rfl,B,C,λj E H I J=>by
   have N:=q.o j E;exact WQ q.j.ci (m (j /16) aQ (by intro a;apply J;rw[h1,a])) j E rfl H (I.trans r)⟩
  have f:=p.BH q.j hs.1 λw d x t=>by
   rcases t with t|⟨K,L,u,v,M,y⟩
   .exact .inl (by rw[h1,t];exact g.symm)
   .by_cases hw:w=((i /16:Nat):Int)
    .refine .inr (.inr λz=>l K L ?_ ?_ u)
     .rw[<-v,hw,h1]
     .rw[<-y,z,r]
    .exact .inl hw
  have:=g2 i f.oc h1 (by rw[f.hd];exact B) (by rw[f.hd];exact r);rw[f.hd] at this;exact this
end
end
section
def Ki(VS:List Vc):Prop:=VS.length=8/\∀v∈VS,v.vF.length=16/\v.vS<=16
def QM(v:Vc)(S:List Int):Prop:=∃P,qY v=P++S
theorem QM.put{v:Vc}{S:List Int}(hl:v.vF.length=16)(hs:v.vS<=16)(h:QM v S)(d:S.length<16)(x:Int):QM (Nt.dB v x) (S++ [x]):=by
 obtain⟨P,a⟩:=h;unfold qY at a;unfold QM qY Nt.dB;by_cases b:v.vS=16
 .rw[abP b];rw[b,ab8 aQ] at a;cases P with
  |nil=>rw[a] at hl;simp at hl;omega
  |cons p P=>
   refine⟨P,?_⟩;rw[a];simp only[List.cons_append,List.tail_cons];rw[a] at hl;simp at hl;rw[ab8 bX,acR]
 .rw[abQ b];refine⟨P,?_⟩;simp only;rw[<-acR,<-a];apply ac9
  .simp;omega
  .intro i hi c;simp only[acQ,ab1,ab2,ae4] at hi c;simp only[afV,acK,List.getElem_append,acQ];by_cases he:v.vS=i
   .subst he;rw[abP rfl,dif_neg aQ];simp
   .rw[abQ he,dif_pos aQ]
theorem JU:∀(T:List Nt) (a:List Vc),Ki a->(∀x∈T,0<=x.cZ/\x.cZ<8)->∀(e:Nat) (S:List Int),e<8->QM (a.getD e ⟨[],0⟩) S->S.length+(T.filter λx=>decide (x.cZ=(e:Int))).length<=16->QM ((T.foldl jI a).getD e ⟨[],0⟩) (S++(T.filter λx=>decide (x.cZ=(e:Int))).map Nt.dJ)
 | [],a,_,_,e,S,_,h,_=>by simpa using h
 |x::T,a,hV,hT,e,S,he,h,hl=>by
  rw[ad4];have j:=hT x aT;have k:=QW hV.1 hV.2 j;have c:Ki (jI a x):=k;by_cases b:x.cZ=(e:Int)
  .rw[List.filter_cons_of_pos (by simpa using b)] at hl⊢;simp only[acN] at hl;have hi:e<a.length:=by have:=hV.1;omega
   have g:=hV.2 _ (abV hi);have i:a.getD e ⟨[],0⟩=a[e]:=by simp[hi]
   have hp:QM ((jI a x).getD e ⟨[],0⟩) (S++ [x.dJ]):=by
    have d:(jI a x).getD e ⟨[],0⟩=Nt.dB a[e] x.dJ:=by
     unfold jI;rw[b,abW,i];simp[hi]
    rw[d];rw[i] at h;exact h.put g.1 g.2 aQ _
   have:=JU T _ c (λy f=>hT y (by simp[f])) e _ he hp bX;simpa[acR] using this
  .rw[List.filter_cons_of_neg (by simpa using b)] at hl⊢;refine JU T _ c (λy f=>hT y (by simp[f])) e S he ?_ hl;have d:(jI a x).getD e ⟨[],0⟩=a.getD e ⟨[],0⟩:=by
    unfold jI;rw[abY,adU aQ,abY]
   rw[d];exact h
theorem P3:∀(l:List Nt) (n:Nat),(l.Pairwise λx y=>¬(x.cZ=y.cZ/\x.dJ=y.dJ))->(jT n l).Pairwise λx y=>¬(x.cZ=y.cZ/\x.dJ=y.dJ)
 | [],_,_=>List.Pairwise.nil
 |x::l,n,h=>by
  unfold jT;rw[aeQ] at h⊢;refine⟨λy b a=>?_,P3 l (n+1) h.2⟩;obtain⟨z,c,d,z2,_⟩:=uG b;exact h.1 z c ⟨by rw[d];exact a.1,by rw[z2];exact a.2⟩
theorem Zz{T:List Nt}(e:Int)(b:∀x∈T,0<=x.dJ/\x.dJ<6)(hp:T.Pairwise λx y=>¬(x.cZ=y.cZ/\x.dJ=y.dJ)):(T.filter λx=>decide (x.cZ=e)).length<=6:=by
 have h1:((T.filter λx=>decide (x.cZ=e)).map λx=>x.dJ.toNat).Nodup:=by
  unfold List.Nodup;rw[afS];refine List.Pairwise.imp_of_mem ?_ (hp.filter _);intro x y a c h he;rw[ac1,ad0] at a c;have r1:=b x a.1;have f:=b y c.1;exact h ⟨by rw[a.2,c.2],aQ⟩
 have:=QV 6 _ h1 λz d=>by
  obtain⟨x,a,rfl⟩:=ad3.1 d;have:=b x (ac1.1 a).1;omega
 simpa using this
theorem kH.Yu{c:Int}{xs:List Wd}(h:kH c k rs ws xs qs rn D AS tk nu nT k' oa)(i:KI k n)(m:Ki k.v){x:Nt}(j:x∈k.b)(e:x.dD<=k.s.nw):x.dJ∈qY (k'.v.getD x.cZ.toNat ⟨[],0⟩):=by
 obtain⟨_,b,T,hb,_,o,hp,f,q,_⟩:=h.ax i;rw[q];have r:=i.bb x j;have d:∀y∈T,(0<=y.cZ/\y.cZ<4)/\0<=y.dJ/\y.dJ<6:=λy a=>by
  obtain⟨z,t,u,z2,_⟩:=uG (f.mem_iff.1 a);rw[<-u,<-z2];exact o z (ac1.1 t).1
 have g:T.Pairwise λx y=>¬(x.cZ=y.cZ/\x.dJ=y.dJ):=
  (f.pairwise_iff (λ{x y} h l=>h ⟨l.1.symm,l.2.symm⟩)).2 (P3 _ 0 (hp.filter _))
 have hf:=Zz x.cZ (λy a=>(d y a).2) g;obtain⟨y,a,A,B,_⟩:=OC (n:=0) (ac1 (p:=λx=>decide (x.dD<=k.s.nw)).2 ⟨hb x j,acB e⟩);have he:(x.cZ.toNat:Int)=x.cZ:=aQ;have hs:=JU T k.v m (λy a=>by have:=d y a;omega) x.cZ.toNat [] aQ ⟨_,(aeF _).symm⟩ (by rw[he];simp;omega);obtain⟨P,C⟩:=hs;rw[C];refine afB _ (afB _ (ad3.2 ⟨y,ac1.2 ⟨f.mem_iff.2 a,?_⟩,B.symm⟩));rw[he];exact acB A.symm
end
end
end Go.Proofs.YtacgiflhgdaeaaaGreat
