/- TopSeize answers true at every number of calls and list of acts: an environment that has not the tick, and to whose frame nobody else has a capability, loses rights to it only if a notice named it whose ticks are over, and each such notice's frame is in its vector then. No condition. -/
import Derived.Test.YtacgiflhgdaeaaaGreatSZ11
import Derived.Test.YtacgiflhgdaeaaaGreatSZ12
import Derived.Test.YtacgiflhgdaeaaaGreatSZ13
set_option linter.unusedVariables false
set_option linter.unusedSimpArgs false
set_option maxRecDepth 100000
set_option maxHeartbeats 20000000
namespace Go.Proofs.YtacgiflhgdaeaaaGreat
open Go.Proofs.Tryz
open Go renaming World->aA,Value->aC,Calls->aG
open Go.RowKit renaming Below->aD,Hid->aH,intOf->aL
open Go.Obj renaming cells->aI
section
open Go.RowKit Go.Lib Go.Shelf dL Fr Up Nt
variable{k k':Kv}{e op E N:Int}{D:List (Int×Int)}
section
theorem kD.s_{o:Int}(h:kD k o k'):k'.s=k.s:=by
 obtain⟨L,_,rfl⟩:=h;rfl
theorem gC.s_{l:List cP}(h:gC l k k'):k'.s=k.s:=by
 induction h with
 |nil=>rfl
 |skip _ _ a=>exact a
 |fY _ r1 _ a=>rw[a,r1.s_]
theorem gT.s_{A B C D:Int}(h:gT k e op A B C D E k'):k'.s=k.s:=by
 unfold gT at h;split at h
 .injection h with _ h;rw[h]
 .split at h
  .split at h
   .injection h with _ h;rw[h]
   .rw[h.2]
  .split at h
   .unfold pW at h;split at h
    .rw[h.2]
    .obtain⟨_,L,_,h⟩:=h;rw[h];rfl
   .unfold wP at h;split at h
    .rw[h.2]
    .obtain⟨_,L,_,h⟩:=h;rw[h.s_];rfl
theorem rM.s_{s:Int}(h:rM k e s E k'):k'.s=k.s:=by
 unfold rM at h;split at h
 .rw[h.2]
 .exact h.2.s_
theorem Eo(k:Kv)(e s:Int):(lJ k e s).2.2.s=k.s:=by
 unfold lJ;split
 .rfl
 .split
  .rfl
  .split
   .rfl
   .split <;> rfl
theorem Ex(k:Kv)(e s a v:Int):(oD k e s a v).2.s=k.s:=by
 unfold oD;split
 .rfl
 .split <;> rfl
theorem My(k:Kv)(e s p w:Int):(mP k e s p w).2.s=k.s:=by
 unfold mP;split
 .rfl
 .split <;> rfl
theorem UF(s:Sd)(e bu pe:Int):(qK s e bu pe).nw=s.nw:=by
 unfold qK;split
 .unfold EM;split <;> rfl
 .rfl
theorem TM(s:Sd)(e:Int):(sD s e).nw=s.nw:=by
 unfold sD;split <;> rfl
theorem lH.nw{A B C D:Int}(r:lH k e op A B C D N E k'):k'.s.nw=k.s.nw:=by
 cases r with
 |alloc h=>rw[Eo]
 |free h r=>rw[r.s_]
 |read h=>rfl
 |write h=>rw[Ex]
 |load h=>rw[My]
 |zG h=>rfl
 |hand h r=>rw[r.s_]
 |line h=>rfl
 |p7 h hm=>rfl
 |time h r=>
  unfold mQ at r;split at r
  .rw[r.2];exact UF _ _ _ _
  .split at r
   .rw[r.2];exact TM _ _
   .rcases r with rfl|rfl
    .rfl
    .exact yM _ _ _
 |send h r=>
  rcases r with rfl|⟨o,rfl⟩
  .rfl
  .exact zB _ _
 |next h a=>rfl
 |null h=>rfl
theorem uK.nw{c:Int}{ws:List Int}(h:uK c e k ws D k'):k'.s.nw=k.s.nw:=by
 induction h with
 |nil=>rfl
 |snoc r x a b=>
  rw[<-b];unfold iM at a;split at a
  .rw[a.2.2]
  .split at a
   .rcases a with a|a
    .exact a.nw
    .rw[a.2.2]
   .rw[a.2.2]
end
variable{rs rs':List Rm}{nl n i n':Nat}{T od:Int}{ts:List Tk}
section
structure HQ(t nl n:Nat)(k:Kv)(rs:List Rm):Prop where
 ki:KI k n
 kq:KQ k
 n0:0<=k.s.nw
 nw:k.s.nw<=t
 lb:n9 rs nl k.s.nw
 l8:rs.length=8
structure vG(C:Cf):Prop where
 ci:CI C
 z:∀i,Oc C i->(bG C i).pf=0/\(bG C i).kd≠1
 o:∀i,Oc C i->i<64
theorem vG.put{C:Cf}(h:vG C)(e s kd ob rt:Int)(he:e<4)(hk:kd≠1):vG (dB C e s kd ob rt 0).2:=by
 refine⟨h.ci.put e s kd ob rt 0 (.inl rfl),?_,MF h.o he⟩;rcases mS h.ci.len e s kd ob rt 0 with⟨h1,_⟩|⟨i,_,hi,_,_,d,f,hl,g,a,hold⟩
 .rw[h1];exact h.z
 .intro j b;by_cases e:j=i
  .subst e;rw[a];exact⟨rfl,hk⟩
  .rw[hold j e];exact h.z j ⟨b.1,by rw[<-hold j e];exact b.2⟩
theorem vG.c00:vG D4:=by
 have a:∀i,¬Oc D4 i:=λi h=>h.2 (by
  unfold bG D4;rw[abY,aeV];split <;> rfl)
 exact⟨⟨rfl,adL _,λi h=>absurd h (a i),λi _ h=>absurd h (a i),λi h=>absurd h (a i),λi h=>absurd h (a i),λi _ h=>absurd h (a i)⟩,λi h=>absurd h (a i),λi h=>absurd h (a i)⟩
theorem vG.env:∀n,n<=4->vG (pH n)
 |0,_=>vG.c00
 |i+1,h=>by
  have a:=vG.env i aQ;unfold pH;split
  .exact a.put _ _ _ _ _ aQ aQ
  .exact(a.put _ _ _ _ _ aQ aQ).put _ _ _ _ _ aQ aQ
theorem vG.Xl:∀n,vG (wH n)
 |0=>vG.env 4 (abM _)
 |i+1=>(vG.Xl i).put _ _ _ _ _ aQ aQ
theorem RS(n:Nat)(o:Int):¬dM (vR n) o=true:=λh=>by
 obtain⟨i,_,_,a⟩:=oZ.1 h;have:(List.replicate 32 false)[i]?=some true:=a;rw[aeV] at this;split at this
 .cases this
 .cases this
theorem KQ.start(p:Nat×Nat):KQ (oP p):=by
 have h:=vG.Xl 2;exact⟨⟨h.ci,rfl,rfl,λi a=>⟨by have:=(h.z i a).1;have:=h.ci.nu i a;show(bG (wH 2) i).pf<(bG (wH 2) i).nu;omega,λhp=>absurd (h.z i a).1 hp⟩,λi j a e b=>absurd b (h.z i a).2,λi a b=>absurd b (h.z i a).2,λo ho _=>absurd ho (RS 6 o),λx d=>by cases d⟩,λo ho=>absurd ho (RS 6 o),h.o⟩
theorem Pw(i:Nat):bJ sI i=Q9:=by
 unfold bJ sI;rw[abY,aeV];split <;> rfl
theorem RI:∀n,(tN n).nw=0
 |0=>rfl
 |n+1=>(yM _ _ _).trans (RI n)
theorem HQ.start(p:Nat×Nat):HQ 0 0 9 (oP p) sI:=by
 have b:(oP p).s.nw=0:=RI 4;exact⟨Lm p,KQ.start p,aQ,aQ,(λi x a=>by rw[Pw] at a;cases a),rfl⟩
theorem uR.same{a:Ac}(h:uR k rs a E k' rs'):∃s,k'={k with s:=s}/\s.nw=k.s.nw/\(gQ k.s->k.s.P.length=4->gQ s/\s.P.length=4):=by
 have b:∀e,∃s,WY k e={k with s:=s}/\s.nw=k.s.nw/\(gQ k.s->k.s.P.length=4->gQ s/\s.P.length=4):=λe=>⟨_,rfl,yM _ _ _,λh hp=>vV h hp e true⟩
 have nn:∃s,k={k with s:=s}/\s.nw=k.s.nw/\(gQ k.s->k.s.P.length=4->gQ s/\s.P.length=4):=⟨k.s,rfl,rfl,λh hp=>⟨h,hp⟩⟩
 cases h with
 |res h=>
  unfold L9;split
  .exact⟨_,rfl,UF _ _ _ _,λh hp=>FV h hp _ _ _⟩
  .exact nn
 |Sb h=>
  unfold PW;split
  .exact⟨_,rfl,TM _ _,λh hp=>UU h hp _⟩
  .exact nn
 |Sj h gl sv=>exact nn
 |Vd h=>
  unfold Bb;split
  .split
   .exact nn
   .exact b _
  .exact nn
 |Sf h B d=>
  unfold PO;split
  .exact b _
  .exact nn
 |go h=>
  unfold YH;split
  .split
   .exact nn
   .exact b _
  .exact nn
theorem n9.set(h:n9 rs nl T)(d:rs.length=8){e:Nat}(he:e<8){r:Rm}(b:∀x,r.l=some x->lA x nl/\x.nw<=T):n9 (rs.set e r) nl T:=λi x a=>by
 by_cases hi:e=i
 .subst hi;rw[l9 aQ] at a;exact b x a
 .rw[vT hi] at a;exact h i x a
theorem Po(h:wO rs e ts od=true):(0<=e/\e<4)/\oX ts=true:=by
 unfold wO at h;simp only[acY,ad0] at h;exact⟨h.1,h.2.2.2.1⟩
theorem uR.XR{a:Ac}(h:uR k rs a E k' rs')(hl:n9 rs nl T)(b:rs.length=8)(f:0<=T):n9 rs' nl T/\rs'.length=8:=by
 have nn:n9 rs nl T/\rs.length=8:=⟨hl,b⟩
 cases h with
 |res h=>exact nn
 |Sb h=>exact nn
 |Sj h gl sv=>
  unfold J4;split
  .rename_i ho;obtain⟨he,g⟩:=Po ho;exact⟨hl.set b aQ λx e=>by
    injection e with e;rw[<-e];exact⟨(TQ _ g).up (abX _),f⟩,by simp[b]⟩
  .exact nn
 |Vd h=>
  unfold Ch;split
  .split
   .exact nn
   .exact⟨hl.set b aQ (λx e=>by cases e),by simp[b]⟩
  .exact nn
 |Sf h B d=>
  unfold RH;split
  .rename_i ho;have he:0<=a.env/\a.env<4:=by
    unfold zL at ho;simp only[acY,ad0] at ho;exact ho.1.1
   exact⟨hl.set b aQ (λx e=>by cases e),by simp[b]⟩
  .exact nn
 |go h=>
  unfold Ak;split
  .rename_i he;split
   .exact nn
   .exact⟨hl.set b aQ λx e=>hl _ x e,by simp[b]⟩
  .exact nn
theorem KQ.same(q:KQ k)(s:Sd):KQ {k with s:=s}:=⟨q.j.same rfl rfl λx a=>a,q.d,q.o⟩
theorem uR.hq{a:Ac}(h:uR k rs a E k' rs'){t:Nat}(q:HQ t nl n k rs):HQ t nl n k' rs':=by
 obtain⟨s,rfl,b,hs⟩:=h.same;obtain⟨s1,s2⟩:=hs q.ki.sd q.ki.p4;obtain⟨l1,d⟩:=h.XR q.lb q.l8 q.n0;exact⟨q.ki.EG s1 s2,q.kq.same s,by show 0<=s.nw;rw[b];exact q.n0,by show s.nw<=_;rw[b];exact q.nw,by show n9 rs' nl s.nw;rw[b];exact l1,d⟩
theorem N4(s:Sd):(gI s).2.nw=s.nw+1:=by
 unfold gI;split
 .rfl
 .split <;> rfl
theorem iM.nw{c x:Int}(r:iM c e i x k N E k'):k'.s.nw=k.s.nw:=by
 unfold iM at r;split at r
 .rw[r.2.2]
 .split at r
  .rcases r with r|r
   .exact r.nw
   .rw[r.2.2]
  .rw[r.2.2]
theorem lY.nw(r:lY e k k'):k'.s.nw=k.s.nw:=by
 induction r with
 |refl=>rfl
 |run r L s d hs a=>exact a
 |Cj r l x N E h a=>exact h.nw.trans a
 |EY r b a=>exact(yM _ _ _).trans a
 |tell r a=>exact(zB _ _).trans a
section
variable{c:Int}{k k':Kv}{rs rs':List Rm}{ws:List (Int×Int×Int)}{xs:List Wd}{qs:List (Int×Int×Int)}{rn:Rn}{D:List (Int×Int)}{AS:List Int}{tk nu:Int}{nT n:Nat}
theorem kH.nw(h:kH c k rs ws xs qs rn D AS tk nu nT k' rs')(b:KI k n):k'.s.nw=k.s.nw+1:=by
 obtain⟨e,h1,f⟩:=h.t;obtain⟨m,z2,z3⟩:=yL b.sd b.p4 (iF rs qs) 8;have g:k'.s.nw=e.s.nw:=by
  rcases f with⟨i,_,_,_,j,_⟩|⟨_,rfl,_⟩
  .exact j.nw
  .rfl
 rw[g];obtain⟨a,hb,_,l⟩:=h1;have d:a.s.nw=k.s.nw:=by
  rw[hb.nw,AO];exact z3
 rcases l with⟨i,z,_,_,ha⟩|⟨_,_,rfl⟩
 .rw[ha.nw];show(gI a.s).2.nw=_;rw[N4,d]
 .show(gI a.s).2.nw=_;rw[N4,d]
theorem Ec(x:Lb)(i:Nat):(BC x i).nw=x.nw:=by unfold BC;simp only;split <;> rfl
theorem OE(x:Lb):∀m,(eT x m).nw=x.nw
 |0=>rfl
 |m+1=>(Ec _ m).trans (OE x m)
theorem Oe(x:Lb)(i:Nat):(D1 x i).nw=x.nw:=by unfold D1;split <;> rfl
theorem Q0(x:Lb):∀m,(eO x m).nw=x.nw
 |0=>rfl
 |m+1=>(Oe _ m).trans (Q0 x m)
theorem Mx(x:Lb)(i:Nat):(qG x i).nw=x.nw:=by
 unfold qG;simp only;repeat' split
 all_goals rfl
theorem Ih(x:Lb)(gv:Bool):(jJ x gv).nw=x.nw+1:=by
 unfold jJ;rw[Q0,OE];unfold rG;split
 .rfl
 .rw[Mx]
theorem kH.hq(h:kH c k rs ws xs qs rn D AS tk nu nT k' rs'){t:Nat}(q:HQ t nl n k rs)(g:KI k' n')(hq:qs.length<=20)(m:nl<=2600)(u:t<1048576)(b:rs'.length=8):HQ (t+1) (nl+22) n' k' rs':=by
 have v:=h.nw q.ki;have h1:=q.n0;have z:=q.nw;refine⟨g,h.kq q.ki q.kq,aQ,aQ,?_,b⟩;have f:=q.lb.asks qs q.l8;have A:(iF rs qs).length=8:=(P0 qs rs).trans q.l8;have key:∀i x,(bJ (iW (iF rs qs) rn.env 8) i).l=some x->lA x (nl+22)/\x.nw<=k'.s.nw:=λi x a=>by
  obtain⟨o,_⟩:=GA (rs:=iF rs qs) (e:=rn.env) i 8 aQ;rw[o] at a;split at a
  .cases hl:(bJ (iF rs qs) i).l with
   |none=>rw[hl] at a;cases a
   |some y=>
    rw[hl] at a;injection a with a;obtain⟨d,p⟩:=f i y hl;rw[<-a];exact⟨(d.tick aQ aQ _).up aQ,by rw[Ih];omega⟩
  .obtain⟨d,p⟩:=f i x a;exact⟨d.up aQ,aQ⟩
 obtain⟨B,_,r⟩:=h.t;rcases r with⟨i,_,_,_,_,hC⟩|⟨_,_,rfl⟩
 .intro j x a;rw[hC.l j] at a;exact key j x a
 .exact key
end
end
theorem Mb:Xe:=λF w hb m g q p0 gl sv h hq hF=>by
 have H:=NU h (n0:=9) (M:=0) (nl:=0) (kiW p0) aQ aQ (show N7.nw<1048576 by decide) (cR:=0) (cW:=0) (cX:=0) (cQ:=1) (ls:= []) (ws:= []) (xs:= []) (qs:= [(2,0,1)]) (AR:=none) (AW:=none) (AX:=none) (AQ:=some ⟨q,0,none⟩) ⟨Sl.nil _ _,JC,Sl.nil _ _,JC,Sl.nil _ _,JC,λz a=>(by cases a)⟩ hq hF cE (λz a=>(by cases a)) (Zk gl sv) cE;simpa only[acN,ac2,acP] using H
section
theorem ON{α:Type}(f:Nat->α)(v:α)(hi:i<n):((List.range n).map f).set i v=(List.range n).map λm=>if m=i then v else f m:=by
 refine ac9 aT λm h1 a=>?_
 rw[acK];simp only[afZ,List.getElem_range];by_cases h:i=m
 .subst h;simp
 .rw[abQ h,abQ λe=>h e.symm]
structure Ye(w0:aA)(vs us:List (Int×Int×Int))(w':aA)(W2 Q2:vJ):Prop where
 b:aD w0 w0 w'
 w:bI mC 3 w' w0.heap.size 172 W2.A W2.c vs
 q:bI mC 3 w' w0.heap.size 126 Q2.A Q2.c us
 nw:W2.n=vs.length
 nq:Q2.n=us.length
end
variable{F:Nat->Prop}{w w':aA}{hb m g j b d d' gb gs:Nat}{A:Option Addr}{v:aC}{P:Program}{Q:Exit->Act->aA->Prop}
section
structure Ya(w:aA)(g gb gs:Nat)(k:Kv):Prop where
 p5:w.cell? (g,5)=some (.pointer gb)
 p6:w.cell? (g,6)=some (.pointer gs)
 ls:∀W,bQ w W->aG prog 20 #[.pointer gb] W (Nt.sZ k.b W)
 tn:∀(e:Nat) W,e<8->bQ w W->aG prog 49 #[.pointer gb,e] W (Ia (qY (k.v.getD e ⟨[],0⟩)) W)
 nw:∀W,bQ w W->aG prog 21 #[.pointer gs] W λe w'=>e= .returned (.int .i64 k.s.nw)/\W=w'
 vk:Ki k.v
theorem bY.Xn{c:Int}(h:bY F w hb m g c k rs)(hl:k.b.length<=400):∃gb gs,Ya w g gb gs k:=by
 obtain⟨G,a,hk,_,_⟩:=h.kn;have p5:=hk.pb;have p6:=hk.ps;unfold pA at p5 p6;refine⟨a.gb,a.gs,p5,p6,λW f=>?_,λe W he f=>?_,λW f=>?_,?_⟩
 .obtain⟨i,d,_⟩:=(hk.below f).1.bo;obtain⟨A,cc,hd,_⟩:=d;exact Nt.CY W hd aQ
 .obtain⟨i,d,_⟩:=(hk.below f).1.bo;obtain⟨A,cc,hd,_⟩:=d;exact Nt.uE e W hd he
 .obtain⟨i,d,_⟩:=(hk.below f).1.sd;exact tV d
 .obtain⟨i,d,_⟩:=hk.bo;obtain⟨A,cc,hd,_⟩:=d;exact⟨hd.v8,hd.ok⟩
def D7(C:Cf)(n:Nat):Int:=iZ C ((n /6:Nat):Int) 1 ((n%6:Nat):Int)
def nY(C:Cf)(m:Nat):List aC:=(List.range 24).map λn=>Value.int .i64 (if n<m then D7 C n else 0)
theorem QS(C:Cf)(e:Nat)(a:j<6):D7 C (e *6+j)=iZ C (e:Nat) 1 (j:Nat):=by
 unfold D7;rw[show(e *6+j) /6=e by omega,show(e *6+j)%6=j by omega]
theorem Qk(C:Cf)(hm:m<24):(nY C m).set m (.int .i64 (D7 C m))=nY C (m+1):=by
 unfold nY;rw[ON _ _ hm];refine ae8 λn b=>?_
 by_cases h:n=m
 .subst h;rw[abP rfl,abP aQ]
 .rw[abQ h];by_cases a:n<m
  .rw[abP a,abP aQ]
  .rw[abQ a,abQ aQ]
theorem Ky(C:Cf):(nY C 0).toArray=(#[aU,aU,aU,aU,aU,aU,aU,aU,aU,aU,aU,aU,aU,aU,aU,aU,aU,aU,aU,aU,aU,aU,aU,aU]:Array aC):=by
 have h:nY C 0=List.replicate 24 (.int .i64 0):=by
  unfold nY;refine ac9 aT λn h1 a=>?_
  rw[ae0];simp
 rw[h];rfl
theorem Z2(C:Cf)(a:n<24)(m:Nat):(nY C m).toArray[n]?=some (.int .i64 (if n<m then D7 C n else 0)):=by
 rw[ab5];simp[nY,a]
def FL(L:List Nt)(now:Int)(k n:Nat):Bool:=(L.take k).any λx=>decide (x.dD<=now/\x.cZ=((n /6:Nat):Int)/\x.dJ=((n%6:Nat):Int))
def rW(L:List Nt)(now:Int)(k:Nat):List aC:=(List.range 24).map λn=>Value.bool (FL L now k n)
theorem Om{L:List Nt}{now:Int}:FL L now L.length n=true↔∃x∈L,x.dD<=now/\x.cZ=((n /6:Nat):Int)/\x.dJ=((n%6:Nat):Int):=by
 unfold FL;rw[adS,aeK];simp only[ad0]
theorem RC{L:List Nt}{now:Int}{k:Nat}(hk:k<L.length)(n:Nat):FL L now (k+1) n=(FL L now k n || decide (L[k].dD<=now/\L[k].cZ=((n /6:Nat):Int)/\L[k].dJ=((n%6:Nat):Int))):=by
 unfold FL;rw[acV,abL hk,af4];simp
theorem Vl{L:List Nt}{now:Int}{k:Nat}(hk:k<L.length)(h:¬L[k].dD<=now):rW L now (k+1)=rW L now k:=by
 unfold rW;refine ae8 λn _=>?_
 rw[RC hk,ab4 λa=>h a.1,Bool.or_false]
theorem Pe{L:List Nt}{now:Int}{k e f:Nat}(hk:k<L.length)(h:L[k].dD<=now)(he:L[k].cZ=(e:Int))(hf:L[k].dJ=(f:Int))(d:e<4)(f6:f<6):(rW L now k).set (e *6+f) (.bool true)=rW L now (k+1):=by
 unfold rW;rw[ON _ _ aQ];refine ae8 λn a=>?_
 have a:=ac4.1 a;rw[RC hk];by_cases hq:n=e *6+f
 .subst hq;rw[abP rfl,acB ⟨h,by rw[he];omega,by rw[hf];omega⟩,Bool.or_true]
 .rw[abQ hq,ab4 λb=>hq (by have h1:=b.2.1;have c:=b.2.2;rw[he] at h1;rw[hf] at c;omega),Bool.or_false]
theorem Lr(L:List Nt)(now:Int):(rW L now 0).toArray=(#[false,false,false,false,false,false,false,false,false,false,false,false,false,false,false,false,false,false,false,false,false,false,false,false]:Array aC):=by
 have h:rW L now 0=List.replicate 24 (.bool false):=by
  unfold rW;refine ac9 aT λn h1 a=>?_
  rw[ae0];simp[FL]
 rw[h];rfl
theorem Ag(L:List Nt)(now:Int)(k:Nat)(a:n<24):(rW L now k).toArray[n]?=some (.bool (FL L now k n)):=by
 rw[ab5];simp[rW,a]
theorem Gd(h:kW A n=some b):aY A=some b:=by
 unfold kW at h;split at h
 .cases h
 .exact h
def J5(L:List Nt)(n:Nat)(_:Nat)(v:aC)(w:aA):Prop:=∃(O:Option Addr) (d:Nat),v= .slice O L.length d/\Sl iT 3 w O L/\∀q,aY O=some q->n<=q
theorem J5.keep{L:List Nt}(h:J5 L n d v w)(a:bQ w w'):J5 L n d v w':=by
 obtain⟨O,c,e,h1,b⟩:=h;exact⟨O,c,e,h1.keep a,b⟩
theorem J5.any{L:List Nt}(h:J5 L n d v w):J5 L n d' v w:=h
theorem JH{ops:Array Oper}{rest:List Oper}{op:Oper}{a:Act}(hw:Region.wanted op (yielded ops a.tmps)=true)(ty:TypeId)(x:Operand)(ho:op.op= .load ty x)
 (b o:Nat) (c:a.eval x= .pointer (some ⟨b,o,none⟩)) (cs:List aC) (d:TypeDesc) (hc:w.rangeAt b o cs)
 (hu:P.underlying ty=some d) (hd:d.isRow=true) (hi:(P.info? ty).map (·.size)=some cs.length)
 (h:wpList P ops Q rest (a.put op.dst (.agg cs.toArray)) w):wpList P ops Q (op::rest) a w:=
 wpList_step λ_ hK=>by rw[abP hw];exact wp_load_mid ty x ho b o c cs d hc hu hd hi (hK _ _ h)
theorem Jd(h:Ya w g gb gs k)(e:Nat)(he:e<8)(f:Int)(hf:f∈qY (k.v.getD e ⟨[],0⟩)):
 aG prog 22 #[.pointer g,e,f] w λr w'=>r= .returned (.bool true)/\aD w w w':=by
 have p5:=h.p5;have u:=aP (h.tn e w he (Below.refl _ _));have A:=aP hf;have y:((qY (k.v.getD e ⟨[],0⟩)).length:Int)<=16:=by
  have h1:=h.vk.2 _ (abV (show e<k.v.length by rw[h.vk.1];exact he));have B:k.v.getD e ⟨[],0⟩=k.v[e]'(by rw[h.vk.1];exact he):=by simp[h.vk.1,he]
  rw[B];unfold qY;rw[acQ];omega
 clear h hf he;generalize qY (k.v.getD e ⟨[],0⟩)=L at *;go_enter func22,ntmps22
 go_upto_region 2 with(go_at_call 49;(refine aR u ?_);rintro r z ⟨O,d,rfl,hs,hb⟩)
 have c:=bP hs hb;clear hs hb u p5;go_wp2_with fail
 go_loopw [8] (λv8 wr=>∃i:Nat,v8= .int .i64 i/\i<=L.length/\aH (∀(j:Nat) (a:j<L.length),j<i->L[j]≠f)/\aH (aD z z wr)) (λv8 _=>L.length - (aL v8).toNat)
 case atStart=>exact⟨0,rfl,abX _,λj _ a=>absurd a (adR _),Below.refl _ _⟩
 case round=>
  obtain⟨i,rfl,hi,l,m⟩:=hrel;have i0:(0:Int)<=i:=aQ;by_cases n:i<L.length
  .obtain⟨b,off,rfl,c0⟩:=(c.o.1.keep m.o).FJ (i:=i) n;have i1:(i:Int)<(L.length:Int):=aQ;have p:aH (L[i]≠f->∀(j:Nat) (a:j<L.length),j<i+1->L[j]≠f):=λq j a C=>by
    by_cases e:j=i
    .subst e;exact q
    .exact l.o j a aQ
   clear l;generalize L[i]=x at *;by_cases D:x=f
   .go_wp2_with fail
    go_ret
    exact⟨rfl,c.o.2.trans (m.o.mono c.o.2.size)⟩
   .have s:=aP (p.o D);go_wp2_with fail
    exact⟨⟨i+1,rfl,aQ,s.o,m⟩,by simp only[aL];omega⟩
  .exfalso
   obtain⟨j,a,t⟩:=acF A.o;exact l.o j a aQ t
def x9(x:Nat->Int)(e f:Nat)(n:Nat):Bool:=(List.range n).any λo=>decide (o≠e/\x (o *6+f)≠0)
theorem Ra{x:Nat->Int}{e f:Nat}(h:x9 x e f n=false)(o:Nat)(ho:o<n)(a:o≠e):x (o *6+f)=0:=by
 refine acD λb=>?_
 have h1:x9 x e f n=true:=aeK.2 ⟨o,ac4.2 ho,acB ⟨a,b⟩⟩;rw[h] at h1;cases h1
def DT(x:Nat->Int):List aC:=(List.range 24).map λn=>Value.int .i64 (x n)
theorem Qw(x:Nat->Int)(a:n<24):(DT x).toArray[n]?=some (.int .i64 (x n)):=by
 rw[ab5];simp[DT,a]
theorem Mh(C:Cf):nY C 24=DT (D7 C):=by
 unfold nY DT;refine ae8 λn a=>?_
 rw[abP (ac4.1 a)]
theorem Qm(x:Nat->Int){e f:Nat}(he:e<4)(hf:f<6)(w:aA):
 aG prog 23 #[.agg (DT x).toArray,e,f] w λr w'=>r= .returned (.bool (x9 x e f 4))/\aD w w w':=by
 have i:=aP (bE.new w 50 (DT x).toArray);have h:=aP (aX w (aI (DT x).toArray 50));have q:(0:Int)<=e:=aQ;have f0:(0:Int)<=f:=aQ;have f1:(f:Int)<6:=aQ;go_enter func23,ntmps23
 go_upto_region 1 with(fail)
 generalize w.alloc (aI (DT x).toArray 50)=w2 at *;go_wp2_with fail
 go_loopw [7] (λj wr=>∃o:Nat,j= .int .i64 o/\o<=4/\aH (x9 x e f o=false)/\wr=w2) (λj _=>4 - (aL j).toNat)
 case atStart=>exact⟨0,rfl,abX _,rfl,rfl⟩
 case round=>
  obtain⟨o,rfl,ho,g,rfl⟩:=hrel;have o0:(0:Int)<=o:=aQ;have d:aH (x9 x e f (o+1)=(x9 x e f o || decide (o≠e/\x (o *6+f)≠0))):=by
   unfold aH x9;rw[ad9,af4];simp
  by_cases m:o<4
  .have o1:(o:Int)<4:=aQ;have c0:=i.o.cell (o *6+f) _ (Qw x aQ);by_cases c:o=e
   .subst c;have b:aH (x9 x o f (o+1)=false):=by unfold aH;rw[d.o,g.o,ab4 λk=>k.1 rfl];rfl
    clear d g;go_wp2_with fail
    exact⟨⟨o+1,rfl,aQ,b,trivial⟩,by simp only[aL];omega⟩
   .have o2:((o:Int) !=(e:Int))=true:=bX;obtain⟨z,l⟩:∃z,z=x (o *6+f):=⟨_,rfl⟩
    rw[<-l] at c0 d;by_cases a:z=0
    .have b:aH (x9 x e f (o+1)=false):=by unfold aH;rw[d.o,g.o,ab4 λk=>k.2 a];rfl
     have z0:(z !=0)=false:=by rw[a];rfl
     clear d g l c a;go_wp2_with fail
     exact⟨⟨o+1,rfl,aQ,b,trivial⟩,by simp only[aL];omega⟩
    .have b:aH (x9 x e f 4=true):=by
      have h1:x9 x e f (o+1)=true:=by rw[d.o,acB ⟨c,a⟩,Bool.or_true]
      unfold aH;unfold x9 at h1⊢;rw[aeK] at h1⊢;obtain⟨p,hp,n⟩:=h1;exact⟨p,ac4.2 (by have:=ac4.1 hp;omega),n⟩
     have z0:(z !=0)=true:=by simpa using a
     clear d g l c a;go_wp2_with fail
     go_ret
     exact⟨by rw[b.o];rfl,h.o⟩
  .obtain rfl:o=4:=aQ;have o1:¬((4:Nat):Int)<4:=aQ;go_wp2_with fail
   go_ret
   exact⟨by rw[g.o];rfl,h.o⟩
end
section
theorem VN(cl:Int)(hcl:0<=cl/\cl<=255){l:List Ac}(cap:Nat)(w:aA)(h:Sl NB 12 w A l/\∀b,kW A l.length=some b->b<w.heap.size)(hA:∀a∈l,rA (λb=>b<w.heap.size) w a):
 aG prog 4 #[.int .u8 cl,(A,l.length,cap)] w λr w'=>r= .returned (.bool true)/\aD w w w':=by
 have HAw:=aP (Aq Mb);have HS:=bP h hA;have h8:Int.tmod cl 8=cl%8:=Int.tmod_eq_emod_of_nonneg hcl.1;have d0:0<=cl%8:=aQ;have d1:cl%8<8:=aQ;have HBg:aH (∀W,aG prog 8 #[.int .i64 (1+cl%8)] W λe w'=>∃hb m g p0,e= .returned (.pointer (some ⟨hb,0,none⟩))/\bY (λb=>b<W.heap.size) w' hb m g (1+cl%8) (oP p0) sI/\aD W.heap.size W w'):=λW=>KF W _ aQ
 clear h hA hcl;generalize cl%8=d at *;go_enter func4,ntmps4
 go_upto_region 3 with(go_at_call 7;(refine aS (HAw.o _) ?_);rintro r I ⟨rfl,hb2⟩)
 go_upto_region 4 with(go_at_call 8;(refine aS (HBg.o _) ?_);rintro r w3 ⟨hb,m,g,p0,rfl,hH,hb3⟩)
 have U:aH (aD w w w3):=hb2.trans (hb3.mono hb2.size);have L:aH (Sl NB 12 w3 A l/\∀a∈l,rA (λb=>b<w3.heap.size) w3 a):=⟨HS.o.1.1.keep U.o,λa ha=>((HS.o.2 a ha).kp (Kp.cD U.o λb hb=>hb)).up λb hb=>abO hb U.o.size⟩
 have HLi:=aP (XC cap w3 L.o.1 L.o.2);have HHo:=aP hH;have Y:aH (w.heap.size<=I.heap.size):=hb2.size;clear hH hb2 hb3;go_upto_if 35 with(go_at_call 9;(refine aR HLi ?_);rintro r w4 ⟨lb,rfl,hlb,hb4⟩)
 have HLb:=aP hlb;have HB4:=aP hb4;clear hlb hb4;generalize hnb:(!lb)=nb at *;cases nb with
 |true=>
  go_wp2_with(go_at_call 7;(refine aS (HAw.o _) ?_);rintro r w5 ⟨rfl,u⟩)
  go_ret
  exact⟨rfl,U.o.trans ((HB4.o.mono U.o.size).trans (u.mono (abT U.o.size HB4.o.size)))⟩
 |false=>
  have hlb:lb=true:=by simpa using hnb
  subst hlb;clear hnb;have HHo4:=aP (HHo.o.Sr HB4.o);have c0:=HHo4.o.c0;unfold pA at c0;obtain⟨G0,a0,_,k0,_⟩:=HHo4.o.kn;go_upto_region 7 with(first|(go_at_call 10;(refine aS (AP c0) ?_);rintro x w3' ⟨rfl,rfl⟩)|(go_at_call 11;(refine aS (lR k0) ?_);rintro x w3' ⟨rfl,rfl⟩))
  have Z:aH (aD w w w4):=U.o.trans (HB4.o.mono U.o.size);have HA5:aH (Sl NB 12 w4 A l/\(∀b,kW A l.length=some b->b<I.heap.size)/\∀a∈l,rA (λb=>b<I.heap.size) w4 a):=⟨HS.o.1.1.keep Z.o,λb hb=>abO (HS.o.1.2 b hb) Y.o,λa ha=>((HS.o.2 a ha).kp (Kp.cD Z.o λb hb=>hb)).up λb hb=>abO hb Y.o⟩
  have HLL:aH (l.length<=60/\∀a∈l,uL a):=HLb.o (by trivial);clear c0 k0 HLi HBg HS L HLb HHo;go_wp2_with fail
  go_loopw [7] (λv7 wr=>∃(i:Nat) (k:Kv) (rs:List Rm),v7= .int .i64 i/\i<=l.length/\aH (bY (λb=>b<I.heap.size) wr hb m g (1+d) k rs/\HQ i (22 *i) (9+110 *i) k rs/\Kp (λb=>b<I.heap.size) w4 wr)) (λv7 _=>l.length - (aL v7).toNat)
  case atStart=>exact⟨0,oP p0,sI,rfl,abX _,HHo4.o,HQ.start p0,Kp.refl _ _⟩
  case round=>
   obtain⟨i,k,rs,rfl,hi,HR⟩:=hrel;by_cases hin:i<l.length
   .have hSl:=HA5.o.1.BI HR.o.2.2 HA5.o.2.1;obtain⟨b,off,rfl,hc⟩:=hSl.cells hin;have hok:=(HA5.o.2.2 l[i] (abV hin)).kp HR.o.2.2;have hLt:=HLL.o.2 l[i] (abV hin);generalize l[i]=a at *;obtain⟨kd,env,n,bu,pe,TA,Tc,ts,od,CA,Cc,cs,RA,Rc,p,WA,Wc,ws,XA,Xc,xs,QA,Qc,qs⟩:=a;have a0:wr.cell? ⟨b,off+i *12,none⟩=some (.int .i64 kd):=hc 0 _ rfl;have a1:wr.cell? ⟨b,off+i *12+1,none⟩=some (.int .i64 env):=hc 1 _ rfl;have a2:wr.cell? ⟨b,off+i *12+2,none⟩=some (.int .u8 n):=hc 2 _ rfl;have a3:wr.cell? ⟨b,off+i *12+3,none⟩=some (.int .i64 bu):=hc 3 _ rfl;have a4:wr.cell? ⟨b,off+i *12+4,none⟩=some (.int .i64 pe):=hc 4 _ rfl;have a5:wr.cell? ⟨b,off+i *12+5,none⟩=some (.slice TA ts.length Tc):=hc 5 _ rfl;have a6:wr.cell? ⟨b,off+i *12+6,none⟩=some (.int .u8 od):=hc 6 _ rfl;have a7:wr.cell? ⟨b,off+i *12+7,none⟩=some (.slice CA cs.length Cc):=hc 7 _ rfl;have a8:wr.cell? ⟨b,off+i *12+8,none⟩=some (.slice RA p.length Rc):=hc 8 _ rfl;have a9:wr.cell? ⟨b,off+i *12+9,none⟩=some (.slice WA ws.length Wc):=hc 9 _ rfl;have a10:wr.cell? ⟨b,off+i *12+10,none⟩=some (.slice XA xs.length Xc):=hc 10 _ rfl;have a11:wr.cell? ⟨b,off+i *12+11,none⟩=some (.slice QA qs.length Qc):=hc 11 _ rfl;have N8:=bP hok hLt;have j0:(0:Int)<=i:=aQ;have j1:(i:Int)<(l.length:Int):=aQ;have jb:(l.length:Int)<=60:=by have:=HLL.o.1;omega
    clear hc hSl hok hLt;go_upto_region 11 with(fail)
    have F:=aP (bE.new wr 44 #[kd,env, .int .u8 n,bu,pe,(TA,ts.length,Tc), .int .u8 od,(CA,cs.length,Cc),(RA,p.length,Rc),(WA,ws.length,Wc),(XA,xs.length,Xc),(QA,qs.length,Qc)]);have H6:aH (iS (Fb (λb=>b<I.heap.size) wr.heap.size) (wr.alloc (aI #[kd,env, .int .u8 n,bu,pe,(TA,ts.length,Tc), .int .u8 od,(CA,cs.length,Cc),(RA,p.length,Rc),(WA,ws.length,Wc),(XA,xs.length,Xc),(QA,qs.length,Qc)] 44)) hb m g (1+d) k rs []/\Kp (λb=>b<I.heap.size) wr (wr.alloc (aI #[kd,env, .int .u8 n,bu,pe,(TA,ts.length,Tc), .int .u8 od,(CA,cs.length,Cc),(RA,p.length,Rc),(WA,ws.length,Wc),(XA,xs.length,Xc),(QA,qs.length,Qc)] 44))):=⟨(iS.of HR.o.1).box _,(HR.o.1.below (aX wr _)).2⟩
    have HQ6:aH (HQ i (22 *i) (9+110 *i) k rs/\k.b.length<=400):=⟨HR.o.2.1,(HR.o.2.1.ki.kw aQ).b⟩
    have L:aH (rA (λb=>b<I.heap.size) (wr.alloc (aI #[kd,env, .int .u8 n,bu,pe,(TA,ts.length,Tc), .int .u8 od,(CA,cs.length,Cc),(RA,p.length,Rc),(WA,ws.length,Wc),(XA,xs.length,Xc),(QA,qs.length,Qc)] 44)) ⟨kd,env,n,bu,pe,TA,Tc,ts,od,CA,Cc,cs,RA,Rc,p,WA,Wc,ws,XA,Xc,xs,QA,Qc,qs⟩/\uL ⟨kd,env,n,bu,pe,TA,Tc,ts,od,CA,Cc,cs,RA,Rc,p,WA,Wc,ws,XA,Xc,xs,QA,Qc,qs⟩):=⟨N8.o.1.kp H6.o.2,N8.o.2⟩
    have HK6:aH (Kp (λb=>b<I.heap.size) w4 (wr.alloc (aI #[kd,env, .int .u8 n,bu,pe,(TA,ts.length,Tc), .int .u8 od,(CA,cs.length,Cc),(RA,p.length,Rc),(WA,ws.length,Wc),(XA,xs.length,Xc),(QA,qs.length,Qc)] 44))):=HR.o.2.2.trans H6.o.2;have HO6:=aP H6.o.1;clear a0 a1 a2 a3 a4 a5 a6 a7 a8 a9 a10 a11 HR H6 N8;generalize wr.alloc (aI #[kd,env, .int .u8 n,bu,pe,(TA,ts.length,Tc), .int .u8 od,(CA,cs.length,Cc),(RA,p.length,Rc),(WA,ws.length,Wc),(XA,xs.length,Xc),(QA,qs.length,Qc)] 44)=w6 at *;generalize wr.heap.size=qa at *;have c0:=F.o.cell 0 kd rfl;by_cases hkk:1<=kd/\kd<=6
    .as_aux_lemma=>
     have hk1:=hkk.1;have hk6:=hkk.2;have c1:=F.o.cell 1 env rfl;have c2:=F.o.cell 2 (.int .u8 n) rfl;have c3:=F.o.cell 3 bu rfl;have c4:=F.o.cell 4 pe rfl;have c5:=F.o.cell 5 (.slice TA ts.length Tc) rfl;have c6:=F.o.cell 6 (.int .u8 od) rfl;have c7:=F.o.cell 7 (.slice CA cs.length Cc) rfl;have c8:=F.o.cell 8 (.slice RA p.length Rc) rfl;have c9:=F.o.cell 9 (.slice WA ws.length Wc) rfl;have yC:=F.o.cell 10 (.slice XA xs.length Xc) rfl;have c11:=F.o.cell 11 (.slice QA qs.length Qc) rfl;have HCa:aH (aG prog 12 #[.pointer (some ⟨hb,0,none⟩), .agg #[kd,env, .int .u8 n,bu,pe,(TA,ts.length,Tc), .int .u8 od,(CA,cs.length,Cc),(RA,p.length,Rc),(WA,ws.length,Wc),(XA,xs.length,Xc),(QA,qs.length,Qc)]] w6 λr w'=>∃E:Int,r= .returned (.int .i64 E)/\aH (∃k' B,bY (λb=>b<I.heap.size) w' hb m g (1+d) k' B/\HQ i (22 *i) (9+110 *i) k' B/\Kp (λb=>b<I.heap.size) w4 w')):=by
      obtain⟨G,sG,hh,_⟩:=HO6.o.ho;have h1:=hh.less λb hb=>sG b (.inl hb)
      refine(Iv h1 HQ6.o.1.ki ⟨kd,env,n,bu,pe,TA,Tc,ts,od,CA,Cc,cs,RA,Rc,p,WA,Wc,ws,XA,Xc,xs,QA,Qc,qs⟩ (L.o.1.up λb hb=>HO6.o.fl b (.inl hb)) L.o.2).mono ?_;rintro r w' ⟨E,k',B,rfl,ha,h2,kk⟩;exact⟨E,rfl,k',B,h2,ha.hq HQ6.o.1,HK6.o.trans kk⟩
     clear hkk;go_wp2_with(go_at_call 12;(refine aR HCa ?_);rintro r w7 ⟨E,rfl,HE⟩)
     obtain⟨k',B,e1,e2,e4⟩:=HE.o;exact⟨⟨i+1,k',B,rfl,aQ,e1,⟨e2.ki.mono aQ,e2.kq,e2.n0,by have:=e2.nw;omega,e2.lb.up aQ (adL _),e2.l8⟩,e4⟩,by simp only[aL];omega⟩
    .go_cut [61] (λs61 wx=>s61= .bool false/\wx=w6)
     case first=>
      by_cases hk1:1<=kd
      .have hk6:¬kd<=6:=λh=>hkk ⟨hk1,h⟩
       go_wp2_with fail
       go_meet
       exact⟨rfl,rfl⟩
      .go_wp2_with fail
       go_meet
       exact⟨rfl,rfl⟩
     case rest=>
     obtain⟨rfl,rfl⟩:=hcut;clear hkk c0;go_upto_region 14 with(fail)
     have HN:aH (∀c1,iS (Fb (λb=>b<I.heap.size) qa) (wc.alloc (aI c1 50)) hb m g (1+d) k rs [PB wc.heap.size 50 c1]/\Kp (Fb (λb=>b<I.heap.size) qa) wc (wc.alloc (aI c1 50))):=λc1=>HO6.o.new 50 c1
     have H9:=aP (HN.o (nY k.c 0).toArray);rw[Ky] at H9;have HZ9:=aP (Ky k.c);clear HN HO6;generalize wc.alloc (aI #[aU,aU,aU,aU,aU,aU,aU,aU,aU,aU,aU,aU,aU,aU,aU,aU,aU,aU,aU,aU,aU,aU,aU,aU] 50)=w9 at *;generalize wc.heap.size=qR at *;obtain⟨F6,hF6⟩:∃X,X=Fb (λb=>b<I.heap.size) qa:=⟨_,rfl⟩
     have HF6:aH ((∀b,b<I.heap.size->F6 b)/\F6 qa):=by rw[hF6];exact⟨λb hb=> .inl hb, .inr rfl⟩
     rw[<-hF6] at H9;clear hF6;go_wp2_with fail
     go_loopw [10] (λv10 wr=>∃e:Nat,v10= .int .i64 e/\e<=4/\aH (iS F6 wr hb m g (1+d) k rs [PB qR 50 (nY k.c (e *6)).toArray]/\Kp F6 wc wr)) (λv10 _=>4 - (aL v10).toNat)
     case atStart=>
      refine⟨0,rfl,aQ,?_,H9.o.2⟩;rw[aeZ,HZ9.o];exact H9.o.1
     case round=>
      clear H9 HZ9;obtain⟨e,rfl,he,HE⟩:=hrel;have e0':(0:Int)<=e:=aQ;by_cases he4:e<4
      .have e1':(e:Int)<4:=aQ;go_wp2_with fail
       go_loopw [11] (λv11 wr=>∃j:Nat,v11= .int .i64 j/\j<=6/\aH (iS F6 wr hb m g (1+d) k rs [PB qR 50 (nY k.c (e *6+j)).toArray]/\Kp F6 wc wr)) (λv11 _=>6 - (aL v11).toNat)
       case atStart=>exact⟨0,rfl,aQ,HE.o⟩
       case round=>
        clear HE;obtain⟨j,rfl,hj,HJ⟩:=hrel;have j0':(0:Int)<=j:=aQ;by_cases hj6:j<6
        .as_aux_lemma=>
         have j1':(j:Int)<6:=aQ;obtain⟨G,J⟩:=HJ.o.1.Lo;obtain⟨gf,gc,C⟩:=J.lk;have p2:=C.p2;have aa:aH (∀n:CW (bQ wr),aG prog 15 #[.pointer gc,e, .int .i64 1,j] n.w λr w'=>r= .returned (.int .i64 (iZ k.c (e:Int) 1 (j:Int)))/\bQ n.w w'):=C.fd (e:Int) (j:Int);obtain⟨fv,hfv⟩:∃X,X=iZ k.c (e:Int) 1 (j:Int):=⟨_,rfl⟩
         rw[<-hfv] at aa;have HFv:=aP hfv;clear J C hfv;go_upto_region 20 with(fail)
         have H:=bD p2;refine bM (bQ _) (λ_=>bQ) [] (λ_ _ _=>True) [11] [] 192 (bZ _) (λ_ _ _ h N=>bV h N) (λ_ d hd _ v w w' _ h N=>by cases hd) aV aV bF ?_;repeat (first|(refine CS bF ?_;(try refine dE ?_))|(refine yR bF bF bF bF bF (λK hK=>?_);go_big_quiet_op;refine hK _ ?_;clear hK K)|(refine ME bF bF bF bF bF bF (λK hK=>?_);go_big_quiet_op;refine hK _ ?_;clear hK K)|(refine F8 bF bF bF ?_;(try refine dE ?_))|(refine yO bF bF bF bF bF (λK hK=>?_);go_simp;(try simp only[FI,adJ]);first|(apply Exists.intro;refine⟨λn=>?_,hK _ ?_⟩;(with_reducible exact aa.o _);clear hK K;(try refine dE ?_))|(apply Exists.intro;refine⟨λn=>rfl,hK _ ?_⟩;clear hK K;(try refine dE ?_))))
         refine dI ?_;intro γ w5 u hT;clear H;simp only[cY,Act.put,abN,abU,abS];refine dS ?_;have H5:aH (iS F6 w5 hb m g (1+d) k rs [PB qR 50 (nY k.c (e *6+j)).toArray]/\Kp F6 wc w5):=⟨(HJ.o.1.below u).1,HJ.o.2.trans (HJ.o.1.below u).2⟩
         have bR:=H5.o.1.aY (i:=0) rfl;have x0:=bR.cell (e *6+j) _ (Z2 k.c (show e *6+j<24 by omega) (e *6+j));have f0:=bR.frozen (e *6+j);have HP:aH (iS F6 (w5.setCell (qR,e *6+j) fv) hb m g (1+d) k rs [PB qR 50 (nY k.c (e *6+(j+1))).toArray]/\Kp F6 wc (w5.setCell (qR,e *6+j) fv)):=by
          obtain⟨h1,k1⟩:=H5.o.1.put (i:=0) rfl (e *6+j) (.int .i64 fv) (cs':=(nY k.c (e *6+(j+1))).toArray) (by rw[abN,HFv.o,<-QS k.c e hj6,Qk k.c aQ];rfl);exact⟨h1,H5.o.2.trans k1⟩
         clear bR HJ u hT aa p2;go_wp2_with fail
         simp only[nK];generalize w5.setCell (qR,e *6+j) fv=w7 at *;clear H5 HFv x0 f0;go_wp2_with fail
         exact⟨⟨j+1,rfl,aQ,HP.o⟩,by simp only[aL];omega⟩
        .as_aux_lemma=>
         obtain rfl:j=6:=aQ;have j1':¬((6:Nat):Int)<6:=aQ;have HP:=HJ.o;rw[show e *6+6=(e+1) *6 by omega] at HP;have HP:=aP HP;clear HJ;go_wp2_with fail
         exact⟨⟨e+1,rfl,aQ,HP.o⟩,by simp only[aL];omega⟩
      .as_aux_lemma=>
       obtain rfl:e=4:=aQ;have e1':¬((4:Nat):Int)<4:=aQ;have HJ6:aH (iS F6 wr hb m g (1+d) k rs [PB qR 50 (nY k.c 24).toArray]):=HE.o.1;have HB8:aH (bE wr qa 44 #[kd,env, .int .u8 n,bu,pe,(TA,ts.length,Tc), .int .u8 od,(CA,cs.length,Cc),(RA,p.length,Rc),(WA,ws.length,Wc),(XA,xs.length,Xc),(QA,qs.length,Qc)]):=HE.o.2.aY F.o HF6.o.2;have HKw:aH (Kp (λb=>b<I.heap.size) w4 wr):=HK6.o.trans (HE.o.2.mono HF6.o.1);have HA8:aH (rA (λb=>b<I.heap.size) wr ⟨kd,env,n,bu,pe,TA,Tc,ts,od,CA,Cc,cs,RA,Rc,p,WA,Wc,ws,XA,Xc,xs,QA,Qc,qs⟩/\uL ⟨kd,env,n,bu,pe,TA,Tc,ts,od,CA,Cc,cs,RA,Rc,p,WA,Wc,ws,XA,Xc,xs,QA,Qc,qs⟩):=⟨L.o.1.kp (HE.o.2.mono HF6.o.1),L.o.2⟩
       clear HE F HK6 L;obtain⟨G,J⟩:=HJ6.o.Lo;obtain⟨gb,gs,C⟩:=J.Xn HQ6.o.2;have p5:=C.p5;have p6:=C.p6;have HVk:=aP C.vk;have HLs:aH (∀W,bQ wr W->aG prog 20 #[.pointer gb] W λe w'=>∃v,e= .returned v/\bQ W w'/\J5 k.b wr.heap.size 88 v w'):=λW hW=>by
        refine(C.ls W hW).mono ?_;rintro e w' ⟨O,c,rfl,h1,h2,h3⟩;exact⟨_,rfl,h2,O,c,rfl,h1,λq hq=>abT hW.size (h3 q hq)⟩
       have HNw:aH (∀n:CW (bQ wr),aG prog 21 #[.pointer gs] n.w λe w'=>e= .returned (.int .i64 k.s.nw)/\bQ n.w w'):=λn=>P2 (C.nw n.w n.ok)
       obtain⟨nw,hnw⟩:∃X,X=k.s.nw:=⟨_,rfl⟩
       rw[<-hnw] at HNw;have HNW:=aP hnw;clear J C hnw;go_upto_region 21 with(fail)
       have aft_p5:=bD p5;have aft_p6:=bD p6;refine bM (bQ _) (λ_=>bQ) [88,12] (J5 k.b wr) [] [] 192 (bZ _) (λ_ _ _ h N=>bV h N) (λ_ d hd _ v w w' _ h N=>h.keep N) aV aV bF ?_;repeat (first|(refine CS bF ?_;(try refine dE ?_))|(refine yR bF bF bF bF bF (λK hK=>?_);go_big_quiet_op;refine hK _ ?_;clear hK K)|(refine ME bF bF bF bF bF bF (λK hK=>?_);go_big_quiet_op;refine hK _ ?_;clear hK K)|(refine F8 bF bF bF ?_;(try refine dE ?_))|(refine yO bF bF bF bF bF (λK hK=>?_);go_simp;(try simp only[FI,adJ]);first|(apply Exists.intro;refine⟨λn=>?_,hK _ ?_⟩;(with_reducible exact HNw.o _);clear hK K;(try refine dE ?_))|(apply Exists.intro;refine⟨λn=>rfl,hK _ ?_⟩;clear hK K;(try refine dE ?_)))|(refine sC 88 [] bF bF bF bF (λγ w hC hT=>?_) ?_;(simp only[cY];go_simp;exact Wk (HLs.o w hC));(try refine dE ?_))|(refine sC 12 [88] bF bF bF bF (λγ w hC hT=>?_) ?_;((have hc:=J5.any (d':=12) (hT 88 aT));simp only[cY,Act.put,abN,abU,abS] at *;go_simp;exact pB (Below.refl _ _) hc);(try refine dE ?_)))
       refine dI ?_;intro γ w5 u hT;clear aft_p5 aft_p6;simp only[cY,Act.put,abN,abU,abS];refine cN ?_;obtain⟨O,cO,hv,hsl,hnew⟩:=hT 12 aT;have HSl:aH (Sl iT 3 w5 O k.b/\∀b,kW O k.b.length=some b->wr.heap.size<=b/\b<w5.heap.size):=⟨hsl,λb hb=>⟨hnew b (Gd hb),hsl.fE iB aQ b hb⟩⟩
       have HK5:aH (Kp F6 wr w5):=(HJ6.o.below u).2;obtain⟨F7,hF7⟩:∃X,X=Nw F6 wr w5:=⟨_,rfl⟩
       have HF7:aH ((∀b,F6 b->F7 b)/\∀b,kW O k.b.length=some b->F7 b):=by rw[hF7];exact⟨λb hb=> .inl hb,λb hb=> .inr (HSl.o.2 b hb)⟩
       have HFF:=aP HF7.o.1;have H5:aH (iS F7 w5 hb m g (1+d) k rs [PB qR 50 (nY k.c 24).toArray]):=by rw[hF7];exact HJ6.o.grow u
       have Z:aH (bE w5 qa 44 #[kd,env, .int .u8 n,bu,pe,(TA,ts.length,Tc), .int .u8 od,(CA,cs.length,Cc),(RA,p.length,Rc),(WA,ws.length,Wc),(XA,xs.length,Xc),(QA,qs.length,Qc)]):=HB8.o.keep u;have HA9:aH (rA (λb=>b<I.heap.size) w5 ⟨kd,env,n,bu,pe,TA,Tc,ts,od,CA,Cc,cs,RA,Rc,p,WA,Wc,ws,XA,Xc,xs,QA,Qc,qs⟩/\uL ⟨kd,env,n,bu,pe,TA,Tc,ts,od,CA,Cc,cs,RA,Rc,p,WA,Wc,ws,XA,Xc,xs,QA,Qc,qs⟩):=⟨HA8.o.1.kp (HK5.o.mono HF6.o.1),HA8.o.2⟩
       have HKx:aH (Kp (λb=>b<I.heap.size) w4 w5):=HKw.o.trans (HK5.o.mono HF6.o.1);rw[hv];generalize γ 88=v88 at *;clear hF7 hv hsl hnew hT u HJ6 HB8 HA8 HKw HK5 HLs HNw p5 p6;have z8:=Z.o.cell 8 (.slice RA p.length Rc) rfl;have z9:=Z.o.cell 9 (.slice WA ws.length Wc) rfl;have z10:=Z.o.cell 10 (.slice XA xs.length Xc) rfl;have z11:=Z.o.cell 11 (.slice QA qs.length Qc) rfl;have HTo:aH (aG prog 17 #[.agg #[(RA,p.length,Rc),(WA,ws.length,Wc),(XA,xs.length,Xc),(QA,qs.length,Qc)]] w5 λr w'=>∃W2 Q2:vJ,r= .returned (.agg #[(RA,p.length,Rc),(W2.A,W2.n,W2.c),(XA,xs.length,Xc),(Q2.A,Q2.n,Q2.c)])/\aH (Ye w5 ws qs w' W2 Q2)):=by
        refine(Oa Wc Qc w5 HA9.o.1.i.wt HA9.o.1.q (abT HA9.o.2.w cE) (abT HA9.o.2.q cE)).mono ?_;rintro r w' ⟨W2,Q2,rfl,o1,o2,n1,n2,bl⟩;exact⟨W2,Q2,rfl,bl,o1,o2,n1,n2⟩
       have HTc:aH (∀(V:aA) (W2 Q2:vJ),aH (Ye w5 ws qs V W2 Q2)->aG prog 16 #[.pointer (some ⟨hb,0,none⟩), .agg #[(RA,p.length,Rc),(W2.A,W2.n,W2.c),(XA,xs.length,Xc),(Q2.A,Q2.n,Q2.c)]] V λr w'=>∃(o:Ou) (Q:Kv) (B:List Rm),r= .returned (.tuple #[.agg #[o.rn.env,o.rn.ch,(o.S.A,o.S.n,o.S.c),(o.R.A,o.R.n,o.R.c),(o.W.A,o.W.n,o.W.c),(o.A.A,o.A.n,o.A.c),o.tk,o.nu,(o.T.A,o.T.n,o.T.c),o.st, .int .i64 o.x,o.y, .int .u64 o.z],aU])/\aH (HQ (i+1) (22 *(i+1)) (9+110 *(i+1)) Q B/\(∀x∈k.b,x.dD<=nw->x.dJ∈qY (Q.v.getD x.cZ.toNat ⟨[],0⟩))/\∀e f:Nat,e<4->f<6->(e:Int)≠o.rn.env->FL k.b nw k.b.length (e *6+f)=false->x9 (D7 k.c) e f 4=false->bits .andNot .i64 (iZ k.c (e:Int) 1 (f:Int)) (iZ Q.c (e:Int) 1 (f:Int))=0)/\aH (iS F7 w' hb m g (1+d) Q B [PB qR 50 (nY k.c 24).toArray]/\Kp F7 w5 w')):=λV W2 Q2 HX=>by
        have hW:aD w5 w5 V:=HX.o.b;have hg:=H5.o.grow hW;obtain⟨G,sG,hh,back⟩:=hg.ho;have kb:=(H5.o.below hW).2;have hF:∀b,b<I.heap.size->F7 b:=λb hb=>HF7.o.1 b (HF6.o.1 b hb)
        have hi:=HA9.o.1.i.kp (Kp.cD hW λb hb=>H5.o.fl b (hF b hb));have oW:=HX.o.w;have oQ:=HX.o.q;have hi2:CM G V RA p W2.A ws XA xs:=⟨hi.r,λb hb=>sG b (.inl (hF b (hi.rF b hb))),oW.sl uP,MN (λb hb=>sG b (.inr (oW.lt b hb))) _,hi.x,λb hb=>sG b (.inl (hF b (hi.xF b hb))),λz N=>⟨(hi.y z N).1,λb hb=>sG b (.inl (hF b ((hi.y z N).2.1 b hb))),(hi.y z N).2.2⟩⟩
        have q0:=HQ6.o.1;have hli:=HA9.o.2;have h1:=NU hh (n0:=9+110 *i) (M:=60) (nl:=22 *i) q0.ki aQ aQ (by have:=q0.nw;omega) (cR:=Rc) (cW:=W2.c) (cX:=Xc) (cQ:=Q2.c) hi2 (oQ.sl uP) (MN (λb hb=>sG b (.inr (oQ.lt b hb))) _) (by have h1:=hli.r;have h2:=hli.x;have h3:=hli.w;simp only at h1 h2 h3;omega) hli.xs q0.lb (by have h1:=hli.q;simp only at h1;omega);rw[HX.o.nw,HX.o.nq];refine h1.mono ?_;rintro r w' ⟨o,D,AS,Q,B,rfl,ht,ki2,hS,hA,oS,oA,hAb,h2,k2'⟩;obtain⟨b1,b2⟩:=back Q B w' (λb=>aY o.S.A=some b\/aY o.A.A=some b) (λb hb=>hb.elim (λh=>(oS.lt b h).1) (hAb b)) (h2.less λb hb=>hb.elim (λh=> .inl (.inl h)) λh=>h.elim (λh=> .inl (.inr h)) .inr) k2';refine⟨o,Q,B,rfl,⟨?_,λx hx hx2=>ht.Yu q0.ki HVk.o hx (by rw[<-HNW.o];exact hx2),λe f he hf hne hov hsh=>?_⟩,b1.less λb hb=> .inl (.inl hb),kb.trans (b2.mono λb hb=> .inl hb)⟩
        .have h3:=ht.hq (t:=i) (nl:=22 *i) q0 ki2 (by have h1:=hli.q;simp only at h1;omega) aQ aQ h2.l8;exact⟨h3.ki.mono aQ,h3.kq,h3.n0,h3.nw,h3.lb.up aQ (adL _),h3.l8⟩
        .refine ht.Su q0.ki q0.kq he hne (λx hx h1 h2 h3=>?_) λe' he' hne'=>?_
         .rw[Om.2 ⟨x,hx,by rw[HNW.o];exact h3,by rw[h1];omega,by rw[h2];omega⟩] at hov;cases hov
         .have h3:=Ra hsh e' he' hne';rw[QS k.c e' hf] at h3;exact h3
       clear H5;go_upto_region 23 with(first|(go_at_call 17;(refine aR HTo ?_);rintro r w5' ⟨W2,Q2,rfl,HT5⟩)|(go_at_call 16;(refine aS (HTc.o _ _ _ HT5) ?_);rintro r w7 ⟨o,Q,B,rfl,HD7,HM7⟩))
       obtain⟨ev,hev⟩:∃X,X=o.rn.env:=⟨_,rfl⟩
       have H8:=aP (HM7.o.1.new 79 #[o.rn.env,o.rn.ch,(o.S.A,o.S.n,o.S.c),(o.R.A,o.R.n,o.R.c),(o.W.A,o.W.n,o.W.c),(o.A.A,o.A.n,o.A.c),o.tk,o.nu,(o.T.A,o.T.n,o.T.c),o.st, .int .i64 o.x,o.y, .int .u64 o.z]);clear HTo HTc HT5 z8 z9 z10 z11;generalize w7.alloc (aI #[o.rn.env,o.rn.ch,(o.S.A,o.S.n,o.S.c),(o.R.A,o.R.n,o.R.c),(o.W.A,o.W.n,o.W.c),(o.A.A,o.A.n,o.A.c),o.tk,o.nu,(o.T.A,o.T.n,o.T.c),o.st, .int .i64 o.x,o.y, .int .u64 o.z] 79)=w8 at *;generalize w7.heap.size=qd at *;go_upto_region 24 with(fail)
       have H9:=aP (H8.o.1.new 94 (rW k.b nw 0).toArray);have HK9:aH (Kp F7 w5 (w8.alloc (aI (rW k.b nw 0).toArray 94))):=HM7.o.2.trans (H8.o.2.trans H9.o.2);rw[Lr] at H9 HK9;have HZ9:=aP (Lr k.b nw);clear HM7 H8;generalize w8.alloc (aI #[false,false,false,false,false,false,false,false,false,false,false,false,false,false,false,false,false,false,false,false,false,false,false,false] 94)=w10 at *;generalize w8.heap.size=qO at *;go_wp2_with fail
       go_loopw [17] (λv17 wr=>∃n:Nat,v17= .int .i64 n/\n<=k.b.length/\aH (iS F7 wr hb m g (1+d) Q B [PB qR 50 (nY k.c 24).toArray,PB qd 79 #[o.rn.env,o.rn.ch,(o.S.A,o.S.n,o.S.c),(o.R.A,o.R.n,o.R.c),(o.W.A,o.W.n,o.W.c),(o.A.A,o.A.n,o.A.c),o.tk,o.nu,(o.T.A,o.T.n,o.T.c),o.st, .int .i64 o.x,o.y, .int .u64 o.z],PB qO 94 (rW k.b nw n).toArray]/\Kp F7 w5 wr)) (λv17 _=>k.b.length - (aL v17).toNat)
       case atStart=>
        refine⟨0,rfl,aQ,?_,HK9.o⟩;rw[HZ9.o];exact H9.o.1
       case round=>
        clear H9 HZ9 HK9;obtain⟨n,rfl,hn,HL⟩:=hrel;have n0:(0:Int)<=n:=aQ;by_cases hnl:n<k.b.length
        .as_aux_lemma=>
         have n1:(n:Int)<(k.b.length:Int):=aQ;have kb4:(k.b.length:Int)<=400:=by have:=HQ6.o.2;omega
         have hs:=HSl.o.1.BI HL.o.2 HF7.o.2;obtain⟨b,off,rfl,y0,y1,y2⟩:=hs.WI hnl;have hbb:=HQ6.o.1.ki.bb k.b[n] (abV hnl);obtain⟨e,he⟩:=abR hbb.1.1;obtain⟨f,hf⟩:=abR hbb.2.1;have e4:e<4:=aQ;have f6:f<6:=aQ;have HOv:aH (k.b[n].dD<=nw->(rW k.b nw n).set (e *6+f) (.bool true)=rW k.b nw (n+1)):=λh=>Pe hnl h he hf e4 f6
         have qZ:aH (¬k.b[n].dD<=nw->rW k.b nw (n+1)=rW k.b nw n):=λh=>Vl hnl h
         have HRc:aH (k.b[n].dD<=nw->(f:Int)∈qY (Q.v.getD e ⟨[],0⟩)):=λh=>by
          have:=HD7.o.2.1 _ (abV hnl) h;rw[he,hf,abW] at this;exact this
         rw[he] at y0;rw[hf] at y1;generalize k.b[n].dD=til at *;have e0':(0:Int)<=e:=aQ;have e1':(e:Int)<4:=aQ;have f0':¬(f:Int)<0:=aQ;have f1':¬(6:Int)<=(f:Int):=aQ;have f2':(f:Int)<6:=aQ;have f3':(0:Int)<=f:=aQ;have HIn:aH (∀W,aG prog 19 #[e] W λr w'=>r= .returned (.bool true)/\W=w'):=λW=>by
          have:=Nj (e:Int) W;rw[acB (show 0<=(e:Int)/\(e:Int)<4 by omega)] at this;exact this
         clear hbb he hf hs;go_upto_region 28 with(fail)
         have HBn:=aP (bE.new wr 96 #[e,f,til]);have H11:aH (iS F7 (wr.alloc (aI #[e,f,til] 96)) hb m g (1+d) Q B [PB qR 50 (nY k.c 24).toArray,PB qd 79 #[o.rn.env,o.rn.ch,(o.S.A,o.S.n,o.S.c),(o.R.A,o.R.n,o.R.c),(o.W.A,o.W.n,o.W.c),(o.A.A,o.A.n,o.A.c),o.tk,o.nu,(o.T.A,o.T.n,o.T.c),o.st, .int .i64 o.x,o.y, .int .u64 o.z],PB qO 94 (rW k.b nw n).toArray]/\Kp F7 w5 (wr.alloc (aI #[e,f,til] 96))):=⟨(HL.o.1.below (aX wr _)).1,HL.o.2.trans (HL.o.1.below (aX wr _)).2⟩
         have hqn:aH (wr.heap.size≠qO):=λh=>by
          have:=(HL.o.1.aY (i:=2) rfl).lt;omega
         clear y0 y1 y2 HL;generalize wr.alloc (aI #[e,f,til] 96)=w11 at *;generalize wr.heap.size=qn at *;have b0:=HBn.o.cell 0 _ rfl;have b1:=HBn.o.cell 1 _ rfl;have b2:=HBn.o.cell 2 _ rfl;by_cases hu:til<=nw
         .as_aux_lemma=>
          have hu':¬nw<til:=aQ;have HO2:=aP (HOv.o hu);have HR2:=aP (HRc.o hu);clear HOv qZ HRc hu;go_upto_region 29 with(go_at_call 19;(refine aS (HIn.o _) ?_);rintro r w' ⟨rfl,rfl⟩)
          have aft_b0:=bD b0;have aft_b1:=bD b1;refine bM (bQ _) (λ_=>bQ) [] (λ_ _ _=>True) [6] [] 192 (bZ _) (λ_ _ _ h N=>bV h N) (λ_ d hd _ v w w' _ h N=>by cases hd) aV aV bF ?_;repeat refine eK ?_
          refine dI ?_;intro γ w12 hb12 hT;clear aft_b0 aft_b1;simp only[cY,Act.put,abN,abU,abS];refine dS ?_;have H12:aH (iS F7 w12 hb m g (1+d) Q B [PB qR 50 (nY k.c 24).toArray,PB qd 79 #[o.rn.env,o.rn.ch,(o.S.A,o.S.n,o.S.c),(o.R.A,o.R.n,o.R.c),(o.W.A,o.W.n,o.W.c),(o.A.A,o.A.n,o.A.c),o.tk,o.nu,(o.T.A,o.T.n,o.T.c),o.st, .int .i64 o.x,o.y, .int .u64 o.z],PB qO 94 (rW k.b nw n).toArray]/\Kp F7 w5 w12):=⟨(H11.o.1.below hb12).1,H11.o.2.trans (H11.o.1.below hb12).2⟩
          have bO:=H12.o.1.aY (i:=2) rfl;have x0:=bO.cell (e *6+f) _ (Ag k.b nw n (show e *6+f<24 by omega));have f0:=bO.frozen (e *6+f);have HP:aH (iS F7 (w12.setCell (qO,e *6+f) (.bool true)) hb m g (1+d) Q B [PB qR 50 (nY k.c 24).toArray,PB qd 79 #[o.rn.env,o.rn.ch,(o.S.A,o.S.n,o.S.c),(o.R.A,o.R.n,o.R.c),(o.W.A,o.W.n,o.W.c),(o.A.A,o.A.n,o.A.c),o.tk,o.nu,(o.T.A,o.T.n,o.T.c),o.st, .int .i64 o.x,o.y, .int .u64 o.z],PB qO 94 (rW k.b nw (n+1)).toArray]/\Kp F7 w5 (w12.setCell (qO,e *6+f) (.bool true))/\bE (w12.setCell (qO,e *6+f) (.bool true)) qn 96 #[e,f,til]):=by
           obtain⟨h1,k1⟩:=H12.o.1.put (i:=2) rfl (e *6+f) (.bool true) (cs':=(rW k.b nw (n+1)).toArray) (by rw[abN,HO2.o]);exact⟨h1,H12.o.2.trans k1,(HBn.o.keep hb12).rI hqn.o _⟩
          clear bO H11 HBn HO2 hb12 hT b0 b1 b2;go_wp2_with fail
          simp only[nK];generalize w12.setCell (qO,e *6+f) (.bool true)=w13 at *;clear H12 x0 f0;have b0:=HP.o.2.2.cell 0 _ rfl;have b1:=HP.o.2.2.cell 1 _ rfl;have HRe:aH (aG prog 22 #[.pointer (some ⟨g,0,none⟩),e,f] w13 λr w'=>r= .returned (.bool true)/\aD w13 w13 w'):=by
           obtain⟨G,J⟩:=HP.o.1.Lo;obtain⟨gb,gs,C⟩:=J.Xn (HD7.o.1.ki.kw aQ).b;exact Jd C e aQ (f:Int) HR2.o
          clear HR2;go_wp2_with(go_at_call 22;(refine aR HRe ?_);rintro r w14 ⟨rfl,hb14⟩)
          exact⟨⟨n+1,rfl,aQ,(HP.o.1.below hb14).1,HP.o.2.1.trans (HP.o.1.below hb14).2⟩,by simp only[aL];omega⟩
         .as_aux_lemma=>
          have hu':nw<til:=aQ;have HO2:=aP (qZ.o hu);clear HOv qZ HRc hu;go_wp2_with(go_at_call 19;(refine aS (HIn.o _) ?_);rintro r w' ⟨rfl,rfl⟩)
          exact⟨⟨n+1,rfl,aQ,by rw[HO2.o];exact H11.o⟩,by simp only[aL];omega⟩
        .as_aux_lemma=>
         obtain rfl:n=k.b.length:=aQ;have n1:¬(k.b.length:Int)<(k.b.length:Int):=aQ;have HEv:=aP hev;have HLL2:=HL;rw[<-hev] at HL;clear hev HSl HF7;generalize wr=w15 at *;go_wp2_with fail
         go_loopw [19] (λv19 wr=>∃e:Nat,v19= .int .i64 e/\e<=4/\aH (aD w15 w15 wr)) (λv19 _=>4 - (aL v19).toNat)
         case atStart=>exact⟨0,rfl,aQ,Below.refl _ _⟩
         case round=>
          obtain⟨e,rfl,he,HE⟩:=hrel;have e0':(0:Int)<=e:=aQ;by_cases he4:e<4
          .have e1':(e:Int)<4:=aQ;go_wp2_with fail
           go_loopw [20] (λv20 wr=>∃f:Nat,v20= .int .i64 f/\f<=6/\aH (aD w15 w15 wr)) (λv20 _=>6 - (aL v20).toNat)
           case atStart=>exact⟨0,rfl,aQ,HE.o⟩
           case round=>
            clear HE;obtain⟨f,rfl,hf,HF⟩:=hrel;have f0':(0:Int)<=f:=aQ;by_cases hf6:f<6
            .as_aux_lemma=>
             have f1':(f:Int)<6:=aQ;have H16:=aP (HL.o.1.below HF.o).1;have xR:=(H16.o.aY (i:=0) rfl).cell (e *6+f) _ (Z2 k.c (show e *6+f<24 by omega) 24);rw[abP (show e *6+f<24 by omega),QS k.c e hf6] at xR;have HXX:=aP (H16.o.aY (i:=0) rfl);have xE:=(H16.o.aY (i:=1) rfl).cell 0 ev rfl;have xO:=(H16.o.aY (i:=2) rfl).cell (e *6+f) _ (Ag k.b nw k.b.length (show e *6+f<24 by omega));obtain⟨G,J⟩:=H16.o.Lo;obtain⟨gf,gc,C⟩:=J.lk;have p2:=C.p2;have aa:aH (∀W,aD wr wr W->aG prog 15 #[.pointer gc,e, .int .i64 1,f] W λr w'=>r= .returned (.int .i64 (iZ Q.c (e:Int) 1 (f:Int)))/\aD W.heap.size W w'):=λW hW=>C.fd (e:Int) (f:Int) ⟨W,hW⟩
             have HSh:aH (∀W,aG prog 23 #[.agg (nY k.c 24).toArray,e,f] W λr w'=>r= .returned (.bool (x9 (D7 k.c) e f 4))/\aD W.heap.size W w'):=λW=>by rw[Mh];exact Qm (D7 k.c) he4 hf6 W
             have HZ:aH ((e:Int)≠ev->FL k.b nw k.b.length (e *6+f)=false->x9 (D7 k.c) e f 4=false->bits .andNot .i64 (iZ k.c (e:Int) 1 (f:Int)) (iZ Q.c (e:Int) 1 (f:Int))=0):=by rw[HEv.o];exact HD7.o.2.2 e f he4 hf6
             generalize iZ k.c (e:Int) 1 (f:Int)=ra at *;generalize iZ Q.c (e:Int) 1 (f:Int)=rb at *;generalize FL k.b nw k.b.length (e *6+f)=ob at *;generalize x9 (D7 k.c) e f 4=sb at *;clear J C;by_cases N:bits .andNot .i64 ra rb=0
             .as_aux_lemma=>
              have z1:(bits .andNot .i64 ra rb !=0)=false:=by rw[N];rfl
              clear HZ N;go_upto_region 38 with(fail)
              (have H:=cC.cell p2;have P:=cC.cell xR;refine dG aV aV ?_;(repeat (go_big_quiet_step ((go_at_call 15;with_reducible exact gR (aa.o _ (cC.ok _))))));refine wpQuiet_nil ?_;clear H P;intro w5' hw2_;have u:=cC.below hw2_;clear hw2_)
              have HF2:aH (aD w15 w15 w5'):=HF.o.trans (u.mono HF.o.size);clear u xR xE xO p2 H16 HXX HSh aa;go_wp2_with fail
              exact⟨⟨f+1,rfl,aQ,HF2.o⟩,by simp only[aL];omega⟩
             .as_aux_lemma=>
              have z1:(bits .andNot .i64 ra rb !=0)=true:=by simpa using N
              have Y:aH ((e:Int)≠ev->ob=false->sb=false->False):=λh1 h2 h3=>N (HZ.o h1 h2 h3)
              clear HZ N;go_upto_region 38 with(fail)
              (have H:=cC.cell p2;have P:=cC.cell xR;refine dG aV aV ?_;(repeat (go_big_quiet_step ((go_at_call 15;with_reducible exact gR (aa.o _ (cC.ok _))))));refine wpQuiet_nil ?_;clear H P;intro w5' hw2_;have u:=cC.below hw2_;clear hw2_)
              have HF2:aH (aD w15 w15 w5'):=HF.o.trans (u.mono HF.o.size);have H17:=aP (H16.o.below u).1;replace xE:=bK u xE;replace xO:=bK u xO;have HXY:=aP (HXX.o.keep u);clear u xR p2 H16 HXX aa;by_cases hee:(e:Int)=ev
              .as_aux_lemma=>
               have z2:((e:Int) !=ev)=false:=by rw[hee];simp
               clear Y;go_wp2_with fail
               exact⟨⟨f+1,rfl,aQ,HF2.o⟩,by simp only[aL];omega⟩
              .have z2:((e:Int) !=ev)=true:=by simpa using hee
               cases ob with
               |true=>
                as_aux_lemma=>
                clear Y;go_wp2_with fail
                exact⟨⟨f+1,rfl,aQ,HF2.o⟩,by simp only[aL];omega⟩
               |false=>
                as_aux_lemma=>
                obtain rfl:sb=true:=by
                 cases sb with
                 |true=>rfl
                 |false=>exact(Y.o hee rfl rfl).elim
                clear Y;have HR24:aH (w5'.rangeAt qR 0 (nY k.c 24)):=HXY.o.range;have HL24:aH ((prog.info? 50).map (·.size)=some (nY k.c 24).length):=by
                 have h:(prog.info? 50).map (·.size)=some 24:=aV;exact h
                go_wp2_with(first|(refine JH bF 50 _ rfl qR 0 rfl (nY k.c 24) _ HR24.o underlying50 rfl HL24.o ?_)|(go_at_call 23;(refine aS (HSh.o _) ?_);rintro r w18 ⟨rfl,hb18⟩))
                exact⟨⟨f+1,rfl,aQ,HF2.o.trans (hb18.mono HF2.o.size)⟩,by simp only[aL];omega⟩
            .obtain rfl:f=6:=aQ;have f1':¬((6:Nat):Int)<6:=aQ;go_wp2_with fail
             exact⟨⟨e+1,rfl,aQ,HF.o⟩,by simp only[aL];omega⟩
          .obtain rfl:e=4:=aQ;have e1':¬((4:Nat):Int)<4:=aQ;have HE9:aH (bY (λb=>b<I.heap.size) wr hb m g (1+d) Q B/\Kp (λb=>b<I.heap.size) w4 wr):=by
            obtain⟨h1,k1⟩:=HLL2.o.1.below HE.o;obtain⟨G,sG,hh,_⟩:=h1.ho;have hF:∀b,b<I.heap.size->F7 b:=λb hb=>HFF.o b (HF6.o.1 b hb)
            exact⟨hh.less λb hb=>sG b (hF b hb),HKx.o.trans ((HLL2.o.2.trans k1).mono hF)⟩
           go_wp2_with fail
           exact⟨⟨i+1,Q,B,rfl,aQ,HE9.o.1,HD7.o.1,HE9.o.2⟩,by simp only[aL];omega⟩
   .have hil:i=l.length:=aQ;have j1:¬(i:Int)<(l.length:Int):=aQ;clear hil;go_wp2_with(go_at_call 7;(refine aS (HAw.o _) ?_);rintro r w5' ⟨rfl,hb5'⟩)
    go_ret
    have hBr:aD w w wr:=Z.o.trans (HR.o.2.2.low λb hb=>abO hb Y.o);exact⟨rfl,hBr.trans (hb5'.mono hBr.size)⟩
end
end
section
open Go.ChangeShapes Go.WideShapes Go.ChangeAt Go.RowKit Go.Joins Go.Lib Go.Shelf Go.Deep dL Fr Up Nt
theorem VV{a b:Bool}(h:a=true)(k:b=true):(a&&b)=true:=by rw[h,k];rfl
theorem topSeize_contract(H:Type)(enc:TypeId×aC->H)(W:aA)(base:Nat)(args:Array aC)(m gs:List (DataW H))(before:List MemPlace)
 (a:∀(j:Nat) t v,f4.params[j]?=some t->args[j]?=some v->Value.okWide prog W .any base t v)
 (h:DataW.Whole enc prog f4.params.toList Rows.topSeizeSpec.vars false W args.toList m gs before):
 aG prog 4 args W λe n=>∃v,e= .returned v/\Rows.topSeizeSpec.post enc prog f4 false true false false W args v n:=by
 have i:=h;have x:=h.lt;obtain⟨p,q,d,y,rfl,z,B⟩:=h;have o:DataW.TrodAll enc prog W 0 (λ_=>true) true f4.params.toList args.toList m p:=d;rw[params4] at o a;obtain⟨v0,v1,d0,d1,p0,p1,rfl,rfl,rfl,C,h1⟩:=trodAll_two o;obtain⟨rfl,rfl⟩:=trodVars_none y;obtain⟨cl,rfl,rfl,rfl,f⟩:=open_int underlying5 (a 0 5 v0 rfl rfl) C;have r:=wf_u8 f;obtain⟨A,l,c,rfl,s,u,g,k⟩:=YZ (enc:=NB) (rA (λb=>b<W.heap.size) W) underlying22 (show prog.cellsOf 44=12 by kernel_rfl) aQ (a 1 22 v1 rfl rfl) h1 Vb;clear d a;refine(VN cl aQ c W ⟨g,g.fE Ss aQ⟩ k).mono λe n ⟨he,hb⟩=>⟨_,he,?_⟩
 exact Hj (tb:=4) rfl rfl underlying4 (by rw[params4];decide+kernel) i rfl hb
theorem KS(os:Os)(started:os.Started)(H:Type)(enc:TypeId×aC->H):
 ReturnsInHanded {} checked os 4 .any (Rows.topSeizeSpec.pre6 enc prog f4 Rows.topSeizeRow.domain false) (Rows.topSeizeSpec.post enc prog f4 false true false false):=by
 refine returnsInHanded_of_change (C:=checked) own started aV func4
  (ChangeSpec.witness6 (enc:=enc) (C:=checked) false ⟨#[],#[.int .u8 0,bH], []⟩ 8 aV aV aV aV) ?_
 intro W base args b gs before a c _ _;exact topSeize_contract H enc W base args b gs before a c
theorem KO:∀P,P=Tryz.pinned.checked.prog->joinedFacts P 4 f4 Rows.topSeizeSpec Rows.topSeizeRow=true:=by
 intro P a;unfold joinedFacts;(iterate 31 (refine VV ?_ (by
  try rw[a]
  as_aux_lemma=>kernel_rfl)))
 try rw[a]
 as_aux_lemma=>kernel_rfl
theorem topSeize_holds:Rows.TopSeizeSaid:=
 OpenClaim.holds_of_wide 4 f4 rfl rfl rfl rfl rfl rfl rfl ⟨rfl,rfl,rfl,rfl,rfl⟩ rfl rfl rfl rfl rfl aV func4 (KO _ rfl)
  (adB aV) (by unfold Func.isWrapper;first|(rw[abP (by decide+kernel)];kernel_rfl)|(rw[abQ (by decide+kernel)];exact⟨rfl,rfl⟩))
  (λos started H enc _=>KS os started H enc)
#print axioms topSeize_holds
end
end Go.Proofs.YtacgiflhgdaeaaaGreat
