/- Texts laid as one. -/
import Derived.Test.YtacgiflhgdaeaaaGreatAZ20
import Derived.Test.YtacgiflhgdaeaaaGreatAZ21
import Derived.Test.YtacgiflhgdaeaaaGreatAZ22
set_option linter.unusedVariables false
set_option linter.unusedSimpArgs false
set_option maxRecDepth 100000
set_option maxHeartbeats 20000000
namespace Go.Proofs.YtacgiflhgdaeaaaGreat
open Go.Proofs.Tryz
open Go renaming World->aA,Value->aC,Addr->aJ,Calls->aG
open Go.RowKit renaming Below->aD,Hid->aH,intOf->aL
open Go.Obj renaming cells->aI
section
open Go.RowKit Go.Lib Go.Shelf dF Fr Up Nt
variable{k k1 k2 k':Kv}{n:Nat}{s:Sd}{op D N E:Int}
section
theorem Y4:∀(n:Nat) (L:List Nat),L.Nodup->(∀x∈L,x<n)->L.length<=n
 |0,L,_,h=>by
  cases L with
  |nil=>exact Zw _
  |cons x L=>exact absurd (h x aT) (acH _)
 |n+1,L,hd,h=>by
  have h1:=Y4 n (L.erase n) (hd.erase n) (λx a=>by
   have b:=h x (List.mem_of_mem_erase a);have c:x≠n:=λe=>by
    rw[e] at a;exact(List.Nodup.not_mem_erase hd) a
   omega)
  have b:L.length<=(L.erase n).length+1:=by
   rw[List.length_erase];split <;> omega
  omega
theorem KI.kw(h:KI k n)(g:n<=1000000):KW k:=by
 refine⟨by have:=h.tl;omega,?_,⟨h.cn.1,by have:=h.cn.2;omega⟩,h.sd,λx a=>⟨(h.bb x a).1.1,by have:=(h.bb x a).1.2;omega⟩,by have:=h.an;omega⟩;have h1:=Y4 24 (k.b.map λx=>x.dM.toNat *6+x.eY.toNat) ?_ (λy c=>?_)
 .rw[abB] at h1;omega
 .rw[List.Nodup,List.pairwise_map];refine h.bu.imp_of_mem ?_;intro x y a c d he;obtain⟨⟨e,f⟩,x3,x4⟩:=h.bb x a;obtain⟨⟨i,j⟩,y3,y4⟩:=h.bb y c;exact d ⟨aQ,aQ⟩
 .obtain⟨x,a,rfl⟩:=acL.1 c;obtain⟨⟨e,f⟩,x3,x4⟩:=h.bb x a;omega
theorem Md{t:List En}(h:qD t)(X:En):qD (xK t X):=by
 unfold xK;split
 .unfold ld;have hk:qD (mD t X)/\∀e∈mD t X,¬(e.env=X.env/\e.cN=X.cN):=by
   unfold mD;cases hf:fi t X.env X.cN with
   |some i=>
    obtain⟨hi,⟨a,b⟩,_⟩:=pP hf;have:=IL h hi;rw[a,b] at this;exact⟨zT h i,this⟩
   |none=>
    have:=MG hf;simp only;split
    .exact⟨zT h 0,λe he=>this e (acU he)⟩
    .exact⟨h,this⟩
  exact IW hk.1 hk.2
 .exact h
theorem Ml{t:List En}(h:t.length<=16)(X:En):(xK t X).length<=16:=by
 unfold xK;split
 .unfold ld mD;rw[aaM,adV];cases hf:fi t X.env X.cN with
  |some i=>
   obtain⟨hi,_,_⟩:=pP hf;simp only;rw[ab2,Zz hi];omega
  |none=>
   simp only;split
   .rw[ab2,Zz aQ];omega
   .omega
 .exact h
theorem NM(G:List cM):∀t:List En,(iF t G).Sublist t:=by
 induction G with
 |nil=>intro t;exact abW _
 |cons p G a=>
  intro t;refine List.Sublist.trans (a (xX t p)) ?_;unfold xX;split
  .exact List.filter_sublist
  .exact abW _
theorem GI(L:List Nt)(o:Int):∀n,(qP L o n).Sublist L
 |0=>abW _
 |n+1=>by
  refine List.Sublist.trans (l₂:=qP L o n) ?_ (GI L o n);show(qH (qP L o n) (n:Nat) o).Sublist (qP L o n);generalize qP L o n=M;unfold qH;split
  .exact aeF _ _
  .exact abW _
structure Sm(k k':Kv):Prop where
 s:k'.s=k.s
 n:k'.n=k.n
 c:k'.c.n=k.c.n
 t:k'.t.Sublist k.t
 b:k'.b.Sublist k.b
 f:k'.f.n=k.f.n
 v:k'.v=k.v
theorem Sm.refl(k:Kv):Sm k k:=⟨rfl,rfl,rfl,abW _,abW _,rfl,rfl⟩
theorem Sm.trans(h:Sm k k1)(a:Sm k1 k2):Sm k k2:=⟨a.s.trans h.s,a.n.trans h.n,a.c.trans h.c,a.t.trans h.t,a.b.trans h.b,a.f.trans h.f,a.v.trans h.v⟩
theorem kC.sm{o:Int}(r:kC k o k'):Sm k k':=by
 obtain⟨L,_,rfl⟩:=r;exact⟨rfl,rfl,FA _ _,NM _ _,GI _ _ _,(JF k.f o).1,rfl⟩
theorem L6(k:Kv)(num:Int)(self:Bool)(L:List cM):Sm k (iR k num self L):=⟨rfl,rfl,FA _ _,NM _ _,abW _,rfl,rfl⟩
theorem fX.sm{l:List cM}(r:fX l k k'):Sm k k':=by
 induction r with
 |nil _=>exact Sm.refl _
 |skip _ _ a=>exact a
 |gI _ r1 _ a=>exact r1.sm.trans a
theorem iZ.sm{e:Int}{l:List Int}(r:iZ e l k k'):Sm k k':=by
 induction r with
 |nil _=>exact Sm.refl _
 |no _ _ a=>exact a
 |drop _ L _ _ a=>exact(L6 _ _ _ L).trans a
theorem nH.sm{e o:Int}(r:nH e o k k'):Sm k k':=by
 cases r with
 |no _ h=>rw[h];exact Sm.refl _
 |keep _ r _=>exact r.sm
 |gI _ r _ a=>exact r.sm.trans a.sm
theorem KI.sm(h:KI k n)(s:Sm k k'):KI k' n:=
 ⟨by rw[s.s];exact h.sd,by rw[s.s];exact h.p4,by rw[s.c];exact h.cn,aaC s.t.length_le h.tl,h.tu.sublist s.t,λx a=>h.bb x (s.b.subset a),h.bu.sublist s.b,by rw[s.f];exact h.f6,by rw[s.n];exact h.an⟩
theorem KI.DW(h:KI k n)(hs:gQ s)(hp:s.P.length=4):KI {k with s:=s} n:=⟨hs,hp,h.cn,h.tl,h.tu,h.bb,h.bu,h.f6,h.an⟩
theorem vI(h:gQ s)(hp:s.P.length=4)(e:Int)(b:Bool):gQ (jY s e b)/\(jY s e b).P.length=4:=by
 unfold jY;split
 .exact⟨h.EE _ _,by show(List.modify _ _ _).length=4;rw[ab0];exact hp⟩
 .exact⟨h,hp⟩
theorem KI.tell(h:KI k n)(e:Int):KI (dL k e) n:=by
 unfold dL;split
 .obtain⟨h1,a⟩:=vI h.sd h.p4 e true;exact h.DW h1 a
 .exact h
theorem KI.nF(l:List Int):∀{k:Kv},KI k n->KI (dQ k l) n:=by
 induction l with
 |nil=>intro k h;exact h
 |cons e l a=>intro k h;exact a (h.tell e)
theorem FD(h:gQ s)(hp:s.P.length=4)(e bu pe:Int):gQ (qN s e bu pe)/\(qN s e bu pe).P.length=4:=by
 unfold qN;split
 .rename_i hi;have hi:=abQ hi;refine⟨h.res aQ bu pe,?_⟩;unfold D3;split
  .show(List.modify _ _ _).length=4;rw[ab0];exact hp
  .exact hp
 .exact⟨h,hp⟩
theorem T5(h:gQ s)(hp:s.P.length=4)(e:Int):gQ (r6 s e)/\(r6 s e).P.length=4:=by
 unfold r6;cases a:tL s e with
 |none=>exact⟨h,hp⟩
 |some v=>
  simp only;unfold tL at a;split at a
  .cases hq:s.P[e.toNat]? with
   |none=>rw[hq] at a;cases a
   |some p=>
    rw[hq] at a;refine⟨h.rel hq a,?_⟩;show(List.modify _ _ _).length=4;rw[ab0];exact hp
  .cases a
theorem KI.put{k:Kv}{n:Nat}(h:KI k n)(e s kd ob rt pf:Int):KI {k with c:=(cY k.c e s kd ob rt pf).2} (n+1):=by
 have h1:=BD h.cn.1 e s kd ob rt pf;have a:=h.cn;exact⟨h.sd,h.p4,⟨h1.1,by have:=h1.2;show(cY k.c e s kd ob rt pf).2.n<=((n+1:Nat):Int);omega⟩,h.tl,h.tu,h.bb,h.bu,h.f6,Nat.le_succ_of_le h.an⟩
theorem KI.pass(h:KI k n)(env from_ other to_ rights more:Int):KI {k with c:=(gU k.c env from_ other to_ rights more).2} (n+1):=by
 rcases wJ (C:=k.c) (env:=env) (from_:=from_) (other:=other) (to_:=to_) (rights:=rights) (more:=more) with a|⟨i,_,_,_,_,b⟩
 .rw[a];exact h.mono (abP _)
 .rw[b];exact h.put _ _ _ _ _ _
theorem lF.ki{e A B C:Int}(h:KI k n)(r:lF k e op A B C D N E k'):KI k' (n+1):=by
 have hs:=h.mono (abP n);cases r with
 |alloc _=>
  unfold lH;split
  .exact hs
  .split
   .exact hs
   .split
    .rename_i hf;have:fQ k.f=k.f:=by unfold fQ;rw[hf]
     rw[this];exact hs
    .rename_i i hf;have hp:=h.put e A 1 i 15 0;have b:(fQ k.f).n=6:=by
      unfold fQ;rw[hf];exact h.f6
     split <;> exact⟨hp.sd,hp.p4,hp.cn,hp.tl,hp.tu,hp.bb,hp.bu,b,hp.an⟩
 |free _ r=>
  unfold rH at r;split at r
  .rw[r.2];exact hs
  .exact hs.sm r.2.sm
 |read _=>exact hs
 |write _=>
  unfold nZ;split
  .exact hs
  .rename_i x _;split
   .exact hs
   .have:=(wD k.f x.ob B (C%256)).1;exact⟨hs.sd,hs.p4,hs.cn,hs.tl,hs.tu,hs.bb,hs.bu,this.trans h.f6,hs.an⟩
 |load _=>
  unfold mP;split
  .exact hs
  .split
   .exact hs
   .exact⟨hs.sd,hs.p4,hs.cn,Ml h.tl _,Md h.tu _,hs.bb,hs.bu,hs.f6,hs.an⟩
 |yR _=>exact hs.sm ⟨rfl,rfl,rfl,List.filter_sublist,abW _,rfl,rfl⟩
 |hand _ r=>
  unfold gS at r;split at r
  .injection r with _ r;rw[r];exact h.pass _ _ _ _ _ _
  .split at r
   .split at r
    .injection r with _ r;rw[r];exact h.pass _ _ _ _ _ _
    .rw[r.2];exact hs
   .split at r
    .unfold pV at r;split at r
     .rw[r.2];exact hs
     .obtain⟨_,L,_,rfl⟩:=r;exact hs.sm (L6 _ _ _ L)
    .unfold wC at r;split at r
     .rw[r.2];exact hs
     .obtain⟨_,L,_,c⟩:=r;exact hs.sm ((L6 _ _ _ L).trans c.sm)
 |line _=>exact hs
 |p7 _ hm=>exact⟨hs.sd,hs.p4,hs.cn,hs.tl,hs.tu,hs.bb,hs.bu,hs.f6,by have:=h.an;have:=hm.2;show(_:Nat)<=n+1;simp only;omega⟩
 |time _ r=>
  unfold mR at r;split at r
  .rw[r.2];obtain⟨h1,a⟩:=FD h.sd h.p4 e C D;exact hs.DW h1 a
  .split at r
   .rw[r.2];obtain⟨h1,a⟩:=T5 h.sd h.p4 e;exact hs.DW h1 a
   .rcases r with rfl|rfl
    .exact hs
    .obtain⟨h1,a⟩:=vI h.sd h.p4 e false;exact hs.DW h1 a
 |send _ r=>
  rcases r with rfl|⟨o,rfl⟩
  .exact hs
  .exact hs.tell o
 |next _ _=>exact hs
 |null _=>exact hs
theorem kA.ki{l:List Nt}(r:kA l k k'):KI k n->KI k' n:=by
 induction r with
 |nil _=>exact λh=>h
 |cons r1 _ a=>exact λh=>a ((h.sm r1.sm).tell _)
theorem kQ.ki(h:KI k n)(r:kQ k k'):KI k' n:=by
 obtain⟨l1,a,T,e,_,ho,rfl⟩:=r;have h1:=h.nF l1;have c:KI {dQ k l1 with b:=k.b.filter λx=>decide (k.s.nw<x.dD),v:=T.foldl mQ k.v} n:=
  ⟨h1.sd,h1.p4,h1.cn,h1.tl,h1.tu,λx d=>h.bb x (abZ.1 d).1,h.bu.filter _,h1.f6,h1.an⟩
 exact(ho.ki c).nF a
theorem Cu(h:KI k n)(e o gr:Int):KI (gX k e o gr).2 n:=by
 unfold gX;split
 .exact h
 .rename_i hc;split
  .exact h
  .split
   .exact h
   .rename_i hw;refine KI.tell ?_ e;have hw:(gT k.b e o k.s.nw gr).1=0:=aaW hw;have he:(0<=e/\e<4)/\0<=o/\o<6:=by
     simp only[Bool.not_eq_true',not_or,nY,decide_eq_false_iff_not,Decidable.not_not] at hc;omega
    unfold gT at hw;split at hw
    .rename_i f;split at hw
     .cases hw
     .rename_i hp;have c:(gT k.b e o k.s.nw gr).2=k.b++ [⟨e,o,k.s.nw+gr,0⟩]:=by
       unfold gT;rw[Zz f,aaA hp]
      refine⟨h.sd,h.p4,h.cn,h.tl,h.tu,λx a=>?_,?_,h.f6,h.an⟩
      .replace a:x∈(gT k.b e o k.s.nw gr).2:=a;rw[c] at a;rcases aaO.1 a with a|a
       .exact h.bb x a
       .rw[aaK.1 a];exact he
      .show List.Pairwise _ (gT k.b e o k.s.nw gr).2;rw[c,acZ];refine⟨h.bu,ac0 _ _,λx a y g=>?_⟩;rw[aaK.1 g];intro d;have hf:OB k.b e o=none:=by
        unfold qR at hp;cases hq:OB k.b e o with
        |none=>rfl
        |some i=>rw[hq] at hp;simp only at hp;omega
       have:=abH.1 hf x a;unfold sX at this;simp[d.1,d.2] at this
    .cases hw
end
variable{A A9:Option aJ}{F:Nat->Prop}{sz i m g n0 c9 cw:Nat}{w w' wr wb w9:aA}
section
def mK(A:Option aJ)(n:Nat):Option Nat:=if n=0 then none else aY A
theorem FL(h:∀q,aY A=some q->F q)(n:Nat):∀q,mK A n=some q->F q:=λq hq=>by
 unfold mK at hq;split at hq
 .cases hq
 .exact h q hq
theorem IY:∀q,mK A 0=some q->F q:=λq hq=>by unfold mK at hq;cases hq
theorem Sl.AG{α:Type}{enc:α->List aC}{xs:List α}(h:Sl enc sz w A xs)(hk:Kp F w w')(hF:∀q,mK A xs.length=some q->F q):Sl enc sz w' A xs:=λc=>by
 obtain⟨b,off,a,hc⟩:=h c;exact⟨b,off,a,λi x j u d hu=>hk.cell (hc i x j u d hu) (hF b (by unfold mK;rw[aaA aQ,a];rfl))⟩
def D0(x:Int):Int:=((x.toNat%256:Nat):Int)
def aW(x:Int):Int:=((x.toNat /256%256:Nat):Int)
def bW(x:Int):Int:=((x.toNat /65536%256:Nat):Int)
def cW(x:Int):Int:=((x.toNat /16777216%1048576:Nat):Int)
def dW(x:Int):Int:=((x.toNat /17592186044416:Nat):Int)
def KX(x:Int):Bool:=Pa.iT (D0 x) (aW x) (bW x) (cW x) (dW x)
theorem M4(x:Int)(b:0<=x/\x<18446744073709551616)(w:aA):aG prog 118 #[.int .u64 x] w λe w'=>e= .returned (if KX x then .tuple #[.agg #[.int .i64 (D0 x), .int .i64 (aW x), .int .i64 (bW x), .int .i64 (cW x), .int .i64 (dW x)],aU] else .tuple #[.agg #[aU,aU,aU,aU,aU], .int .i64 21])/\aD w w w':=by
 obtain⟨n,rfl⟩:=aaB b.1;have a:n<18446744073709551616:=aQ;exact Pa.ZW n _ _ _ _ _ w a (Pa.D8 n a) aQ _ rfl
def iN(c e:Int)(i:Nat)(x:Int)(k:Kv)(N E:Int)(k':Kv):Prop:=
 if c<=i then N=0/\E=22/\k'=k
 else if KX x then lF k e (D0 x) (aW x) (bW x) (cW x) (dW x) N E k'\/(N=0/\E=1/\k'=k)
 else N=0/\E=21/\k'=k
inductive uA (c e:Int) (k:Kv):List Int->List (Int×Int)->Kv->Prop
 |nil:uA c e k [] [] k
 |snoc {ws:List Int} {D:List (Int×Int)} {k1 k2:Kv} {N E:Int} (r:uA c e k ws D k1) (x:Int) (h:iN c e ws.length x k1 N E k2):uA c e k (ws++ [x]) (D++ [(N,E)]) k2
def u7(x:Int×Int):List aC:= [.int .u64 x.1, .int .i64 x.2]
theorem BN:eL u7 2:=⟨λ_=>rfl,λx u hu=>by simp[u7] at hu;rcases hu with rfl|rfl <;> rfl⟩
theorem Dm:jS prog 70 227 2 16:=fU (z:= .agg #[bC,aU]) underlying70 aV (by simp[Value.cells]) aQ
theorem iN.ki{c e:Int}{x:Int}(r:iN c e i x k N E k')(h:KI k n):KI k' (n+1):=by
 unfold iN at r;split at r
 .rw[r.2.2];exact h.mono (abP _)
 .split at r
  .rcases r with r|r
   .exact r.ki h
   .rw[r.2.2];exact h.mono (abP _)
  .rw[r.2.2];exact h.mono (abP _)
structure GJ(F:Nat->Prop)(w wr:aA)(m g:Nat)(c e:Int)(k:Kv)(n0:Nat)(ws:List Int)(A:Option aJ)(c2:Nat)(D:List (Int×Int))(k1:Kv):Prop where
 r:uA c e k ws D k1
 i:KI k1 (n0+ws.length)
 o:bI u7 2 wr w.heap.size 227 A c2 D
 s:gF (cE F A) wr m g c k1
 k:Kp F w wr
theorem GJ.app{c e:Int}{ws:List Int}{c2:Nat}{D:List (Int×Int)}{x:Int}(h:GJ F w wr m g c e k n0 ws A c2 D k1)(fl:Ol F w)(d:iN c e ws.length x k1 N E k2)
 (hs:gF (cE F A) wb m g c k2) (hk:Kp F w wb) (p:w.heap.size<=wb.heap.size) (a:bI u7 2 w9 w.heap.size 227 A9 c9 (D++ [(N,E)])) (f:wb.grownBy w9 (aY A)) (ha:aY A9=aY A\/aY A9=some wb.heap.size):GJ F w w9 m g c e k n0 (ws++ [x]) A9 c9 (D++ [(N,E)]) k2:=by
 obtain⟨j,l⟩:=dN.app (gF.cD m g c k2) hs (fl.kp hk) (λb hb n=>by have:=(h.o.lt b n).1;have:=fl b hb;omega) f ha (λq hq=>(a.lt q hq).2);refine⟨h.r.snoc x d,?_,a,j,hk.trans l⟩;have:=d.ki h.i;rw[aaM,adV,<-abD];exact this
def Jx(F:Nat->Prop)(m g:Nat)(c e:Int)(k:Kv)(n0:Nat)(ws:List Int)(w:aA)(r:Ending)(w':aA):Prop:=∃(A:Option aJ) (c2 n:Nat) (D:List (Int×Int)) (k1:Kv),r= .returned (.slice A n c2)/\n=D.length/\GJ F w w' m g c e k n0 ws A c2 D k1
theorem Gx{c:Int}(h:gF F w m g c k)(hI:KI k n0)(e:Int){ws:List Int}(hs:Sl eU 1 w A ws)(hA:∀q,mK A ws.length=some q->F q)(hw:∀x∈ws,0<=x/\x<18446744073709551616)(hn:n0+ws.length<999999):aG prog 79 #[.pointer m,e,(A,ws.length,cw)] w (Jx F m g c e k n0 ws w):=by
 have fl:Ol F w:=by
  obtain⟨_,_,h⟩:=h;exact h.fl
 have HF:=aP fl;have HS:=dA hs hA hw;have HQ:aH (GJ F w w m g c e k n0 [] none 0 [] k):=⟨.nil,hI,bI.nil _ _ _,(by
  obtain⟨V,a,h⟩:=h;exact⟨V,a,h.less (λb hb=>by rcases hb with hb|hb;exact hb;cases hb)⟩),Kp.refl _ _⟩
 have HN:=aP hn;have hl:ws.length<=1000000:=aQ;clear h hI hs hA hw fl hn;go_enter func79,ntmps79
 go_wp2_with fail
 go_loopw [7,15] (λv7 X wr=>∃(i n:Nat) (I:Option aJ) (c2:Nat) (D:List (Int×Int)),X= .int .i64 i/\v7= .slice I n c2/\i<=ws.length/\n<=i/\aH (n=D.length/\∃j,GJ F w wr m g c e k n0 (ws.take i) I c2 D j)) (λ_ X _=>ws.length - (aL X).toNat)
 case atStart=>exact⟨0,0,none,0, [],rfl,rfl,aaH _,Zw _,rfl,k,HQ.o⟩
 case round=>
  clear HQ;obtain⟨i,n,I,c2,D,rfl,rfl,hi,hni,v⟩:=hrel;obtain⟨Y,j,hx⟩:=v.o;clear v;have v:=aP hx;have y:=aP Y;by_cases Z:i<ws.length
  .obtain⟨b,off,rfl,z⟩:=(HS.o.1.AG hx.k HS.o.2.1).ZK Z;have HXW:=aP (HS.o.2.2 ws[i] (aaF Z));have a1:aH (ws.take (i+1)=ws.take i++ [ws[i]]):=by unfold aH;rw[abE,Zv Z];rfl
   have K:aH ((ws.take i).length=i):=by unfold aH;rw[abJ];omega
   have i0:(0:Int)<=i:=aQ;have i1:(i:Int)<(ws.length:Int):=aQ;have J:aH (w.heap.size<=wr.heap.size):=hx.k.size;obtain⟨V,a,a6⟩:=hx.s;have m1:=a6.c1;have p:=aP a6;generalize ws[i]=x at *;clear hx Y a6;by_cases hc:c<=(i:Int)
   .have HO:aH (iN c e (ws.take i).length x j 0 22 j):=by
     unfold aH iN;rw[K.o,Zz hc];exact⟨rfl,rfl,rfl⟩
    go_upto_region 6 with(fail)
    clear z m1;go_wp2_with(at_builtin;refine bP _ rfl _ _ rfl Dm BN (v.o.o.alloc _) (n:=n) y.o.symm rfl (m:=1) rfl (ys:= [(0,22)]) rfl (Sl.fI BN wr (0,22) _ rfl _ aT) dI aQ (aaC J.o aT) _ rfl (n+1) rfl ?_;intro O c9 w9 d t u)
    have f:=aX wr (aI #[bC, .int .i64 22] 227);have HE:aH (n+1=(D++ [((0:Int),(22:Int))]).length/\∃j,GJ F w w9 m g c e k n0 (ws.take (i+1)) O c9 (D++ [(0,22)]) j):=by
     refine⟨by rw[aaM,<-y.o];rfl,j,?_⟩;rw[a1.o];exact v.o.app HF.o HO.o ⟨V,a,(p.o.below f).1⟩ (v.o.k.trans ((p.o.below f).2.mono λb hb=> .inl hb)) (aaC J.o f.size) d t u
    clear d t u f;go_roundw
    case rel=>exact⟨i+1,n+1,O,c9,_,by go_num,rfl,aQ,aQ,HE.o⟩
    case measure=>simp[aL];omega
   .have H:=M4 x HXW.o wr;have HC:=aP hc;cases hr:KX x with
    |false=>
     rw[hr] at H;simp only[aaZ,aaY] at H;have H:=aP H;have HO:aH (iN c e (ws.take i).length x j 0 21 j):=by
      unfold aH iN;rw[K.o,aaA HC.o,hr];exact⟨rfl,rfl,rfl⟩
     clear hr;go_wp2_with fail
     refine aR H ?_;rintro r w2 ⟨rfl,l⟩;clear H m1 z;go_upto_region 9 with(fail)
     have f:aH (aD wr wr (w2.alloc (aI #[aU,aU,aU,aU,aU] 281))):=l.alloc l.size _;generalize w2.alloc (aI #[aU,aU,aU,aU,aU] 281)=P at *;have HO3:aH (bI u7 2 P w.heap.size 227 I c2 D):=v.o.o.keep f.o;have hz3:aH (w.heap.size<=P.heap.size):=aaC J.o f.o.size;clear l;go_wp2_with(at_builtin;refine bP _ rfl _ _ rfl Dm BN (HO3.o.alloc _) (n:=n) y.o.symm rfl (m:=1) rfl (ys:= [(0,21)]) rfl (Sl.fI BN P (0,21) _ rfl _ aT) dI aQ (aaC hz3.o aT) _ rfl (n+1) rfl ?_;intro O c9 w9 d t u)
     have C:=f.o.alloc f.o.size (aI #[bC, .int .i64 21] 227);have HE:aH (n+1=(D++ [((0:Int),(21:Int))]).length/\∃j,GJ F w w9 m g c e k n0 (ws.take (i+1)) O c9 (D++ [(0,21)]) j):=by
      refine⟨by rw[aaM,<-y.o];rfl,j,?_⟩;rw[a1.o];exact v.o.app HF.o HO.o ⟨V,a,(p.o.below C).1⟩ (v.o.k.trans ((p.o.below C).2.mono λb hb=> .inl hb)) (aaC J.o C.size) d t u
     clear d t u C;go_roundw
     case rel=>exact⟨i+1,n+1,O,c9,_,by go_num,rfl,aQ,aQ,HE.o⟩
     case measure=>simp[aL];omega
    |true=>
     rw[hr] at H;simp only[abI] at H;have HO:aH (∀N E B,(lF j e (D0 x) (aW x) (bW x) (cW x) (dW x) N E B\/(N=0/\E=1/\B=j))->iN c e (ws.take i).length x j N E B):=λN E B h=>by
      unfold iN;rw[K.o,aaA HC.o,hr];exact h
     have HDo:aH (∀(G:Nat->Prop) (W:aA) (a:Ka),bQ G W g a j->aG prog 119 #[.pointer g,e, .agg #[.int .i64 (D0 x), .int .i64 (aW x), .int .i64 (bW x), .int .i64 (cW x), .int .i64 (dW x)]] W (p9 G g j e (D0 x) (aW x) (bW x) (cW x) (dW x) W)):=λG W a hk=>by
      have h1:=v.o.i;have h2:=K.o;have h3:=HN.o;refine S6 hk (h1.kw aQ) ?_ e _ _ _ _ _;have:=h1.an;omega
     clear hr;generalize D0 x=Q at *;generalize aW x=R at *;generalize bW x=S at *;generalize cW x=T at *;generalize dW x=U at *;have H:=aP H;go_wp2_with fail
     refine aR H ?_;rintro r w2 ⟨rfl,l⟩;clear H m1 z;go_upto_region 10 with(fail)
     have bb:=bF.new w2 281 #[Q,R,S,T,U];have H3:=aP (And.intro ((iS.cD m g c V a j).box (p.o.below l).1 (p.o.below l).1.fl (aI #[Q,R,S,T,U] 281)) ((p.o.below l).2.trans ((p.o.below l).1.below (aX w2 (aI #[Q,R,S,T,U] 281))).2));generalize w2.alloc (aI #[Q,R,S,T,U] 281)=P at *;generalize w2.heap.size=q3 at *;have m0:=H3.o.1.c0;have x0:=bb.cell 0 Q rfl;have x1:=bb.cell 1 R rfl;have x2:=bb.cell 2 S rfl;have x3:=bb.cell 3 T rfl;have x4:=bb.cell 4 U rfl;have HDR:aH (aG prog 119 #[.pointer g,e, .agg #[Q,R,S,T,U]] P.drew λr w'=>∃(N E:Int) (B:Kv) (a2:Ka),r= .returned (.tuple #[.int .u64 N, .int .i64 E])/\aH (lF j e Q R S T U N E B\/(N=0/\E=1/\B=j))/\aH (iS (Fb (cE F I) q3) w' m g c V a2 B/\Kp (Fb (cE F I) q3) P w')):=by
      have hd:=H3.o.1.below (Below.refl P P).drew;obtain⟨G,hk,back⟩:=hd.1.kn;refine(HDo.o G _ a hk).mono ?_;rintro r w' ⟨N,E,B,hdo,rfl,⟨a2,h2⟩,k2'⟩;obtain⟨b1,b2⟩:=back a2 B w' h2 k2';exact⟨N,E,B,a2,rfl,hdo,b1,hd.2.trans b2⟩
     clear HDo l bb;go_region_held3 (λW=>W.cell? (m,0)=some (.pointer g)/\W.cell? (q3,0)=some (.int .i64 Q)/\W.cell? (q3,1)=some (.int .i64 R)/\W.cell? (q3,2)=some (.int .i64 S)/\W.cell? (q3,3)=some (.int .i64 T)/\W.cell? (q3,4)=some (.int .i64 U)) (first|with_reducible exact⟨‹_›,‹_›,‹_›,‹_›,‹_›,‹_›⟩|exact⟨m0,x0,x1,x2,x3,x4⟩|fail) ((go_at_call 119;(refine aR HDR ?_);rintro r w4 ⟨N,E,B,a2,rfl,HDD,L⟩;(have m04:=L.o.1.c0);(have x04:=L.o.2.cell x0 (.inr rfl));(have x14:=L.o.2.cell x1 (.inr rfl));(have x24:=L.o.2.cell x2 (.inr rfl));(have x34:=L.o.2.cell x3 (.inr rfl));(have x44:=L.o.2.cell x4 (.inr rfl))))
     have M:aH (gF (cE F I) w4 m g c B/\Kp (cE F I) wr w4):=⟨⟨V,a2,L.o.1.less (λb hb=> .inl hb)⟩,H3.o.2.trans (L.o.2.mono λb hb=> .inl hb)⟩
     have HO4:aH (bI u7 2 w4 w.heap.size 227 I c2 D):=v.o.o.kp M.o.2 (λq hq=> .inr hq);have hz4:aH (w.heap.size<=w4.heap.size):=aaC J.o M.o.2.size;have HOO:=aP (HO.o N E B HDD.o);clear L H3 HDR m0 x0 x1 x2 x3 x4 m04 x04 x14 x24 x34 x44 HO HDD;go_wp2_with(at_builtin;refine bP _ rfl _ _ rfl Dm BN (HO4.o.alloc _) (n:=n) y.o.symm rfl (m:=1) rfl (ys:= [(N,E)]) rfl (Sl.fI BN w4 (N,E) _ rfl _ aT) dI aQ (aaC hz4.o aT) _ rfl (n+1) rfl ?_;intro O c9 w9 d t u)
     have HE:aH (n+1=(D++ [(N,E)]).length/\∃j,GJ F w w9 m g c e k n0 (ws.take (i+1)) O c9 (D++ [(N,E)]) j):=by
      refine⟨by rw[aaM,<-y.o];rfl,B,?_⟩;rw[a1.o];obtain⟨bs4,a4,h4⟩:=M.o.1;have f:=h4.below (aX w4 (aI #[.int .u64 N, .int .i64 E] 227));exact v.o.app HF.o HOO.o ⟨bs4,a4,f.1⟩ ((v.o.k.trans (M.o.2.mono λb hb=> .inl hb)).trans (f.2.mono λb hb=> .inl hb)) (aaC hz4.o (aX w4 _).size) d t u
     clear d t u;go_roundw
     case rel=>exact⟨i+1,n+1,O,c9,_,by go_num,rfl,aQ,aQ,HE.o⟩
     case measure=>simp[aL];omega
  .obtain rfl:i=ws.length:=aQ;have i1:¬(ws.length:Int)<(ws.length:Int):=aQ;have HE:aH (Jx F m g c e k n0 ws w (.returned (.slice I n c2)) wr):=⟨I,c2,n,D,j,rfl,y.o,by have:=v.o;rw[ab9] at this;exact this⟩
   clear v hx Y;go_wp2_with fail
   go_ret
   exact HE.o
end
variable{X:(Nat->Prop)->aA->Prop}{H G F5:Nat->Prop}{r:Option Nat}{AR AW AX:Option aJ}{ws:List (Int×Int×Int)}{na:List Bool}{W W' w8:aA}{q q1 cA q3 q5 cR cX:Nat}{kE:Kv}{DA:List (Int×Int)}{us:List Int}
section
theorem Fp:jS prog 71 45 1 8:=fU (z:= .int .i64 0) underlying71 aV (by simp[Value.cells]) aQ
theorem UR{a:Ka}(h:bQ F w g a k)(i:Int):aG prog 74 #[.pointer a.gi,i] w λr w'=>∃(v:Int) (a':Ka),r= .returned (.int .i64 v)/\bQ F w' g a' k/\Kp F w w':=by
 obtain⟨G,b,back⟩:=h.ir;refine(XS b i).mono ?_;rintro r w' ⟨v,L,rfl,hl,d,k2⟩;obtain⟨b1,b2⟩:=back L w' hl d k2;exact⟨v,_,rfl,b1,b2⟩
def oZ(A2:Option aJ)(n2 c2:Nat)(A3:Option aJ)(n3 c3:Nat):Array aC:=#[aU,false,bH,(A2,n2,c2),(A3,n3,c3)]
structure nL(G:Nat->Prop)(w3 wr:aA)(q3 m g:Nat)(c:Int)(A2:Option aJ)(c2:Nat)(D:List Int)(A3:Option aJ)(c3:Nat)(E:List Int)(k:Kv):Prop where
 s:gF (cE (cE (Fb G q3) A2) A3) wr m g c k
 k:Kp G w3 wr
 b:bF wr q3 73 (oZ A2 D.length c2 A3 E.length c3)
 o2:bI eI 1 wr w3.heap.size 45 A2 c2 D
 o3:bI eI 1 wr w3.heap.size 45 A3 c3 E
 ap:aY A2=none\/aY A2≠aY A3
section
variable{G:Nat->Prop}{w3 wr wb w9:aA}{q3 m g:Nat}{c:Int}{A2 A3 A9:Option aJ}{c2 c3 c9:Nat}{D E:List Int}{k k2:Kv}
theorem nL.eQ(h:nL G w3 wr q3 m g c A2 c2 D A3 c3 E k)(hs:gF (cE (cE (Fb G q3) A2) A3) wb m g c k2)(kp:Kp (cE (cE (Fb G q3) A2) A3) wr wb):nL G w3 wb q3 m g c A2 c2 D A3 c3 E k2:=
 ⟨hs,h.k.trans (kp.mono λb hb=> .inl (.inl (.inl hb))),kp.aY h.b (.inl (.inl (.inr rfl))),h.o2.kp kp (λq hq=> .inl (.inr hq)),h.o3.kp kp (λq hq=> .inr hq),h.ap⟩
theorem nL.below(h:nL G w3 wr q3 m g c A2 c2 D A3 c3 E k)(hb:aD wr wr wb):nL G w3 wb q3 m g c A2 c2 D A3 c3 E k:=by
 obtain⟨b,a,hs⟩:=h.s;exact h.eQ ⟨b,a,(hs.below hb).1⟩ (hs.below hb).2
theorem dN.gr(M:dN X)(h:X F w)(f:w.grownBy w' r)(i:∀q,r=some q->F q)(fl:Ol H w')(hH:∀b,b<w.heap.size->H b->F b):X H w':=
 M F (λb=>b<w.heap.size/\some b≠r) H w w' h (Kp.grown f λb hb=>hb) (λx a d=>⟨a,λe=>d (i x e.symm)⟩) fl (λx a d hc=>d (hH x a hc))
theorem nL.Ff(h:nL G w3 wb q3 m g c A2 c2 D A3 c3 E k)(fl:Ol G w3)(hq:q3<w3.heap.size)(t:¬G q3){v:Int}(a:bI eI 1 w9 w3.heap.size 45 A9 c9 (D++ [v]))(j:wb.grownBy w9 (aY A2))(ha:aY A9=aY A2\/aY A9=some wb.heap.size)(u:n=(D++ [v]).length):w9.cell? (q3,3)=some (.slice A2 D.length c2)/\w9.frozen? (q3,3)=false/\nL G w3 (w9.setCell (q3,3) (.slice A9 n c9)) q3 m g c A9 c9 (D++ [v]) A3 c3 E k:=by
 subst u;have i:Kp G wb w9:=Kp.grown j λb hb=>⟨Zy (fl b hb) h.k.size,λe=>by have:=(h.o2.lt b e.symm).1;have:=fl b hb;omega⟩
 have f:bF w9 q3 73 (oZ A2 D.length c2 A3 E.length c3):=(j.block q3 h.b.lt (λe=>by have:=(h.o2.lt q3 e.symm).1;omega)).trans h.b;have p:=h.o3.kept j (by
  rcases h.ap with e|e
  .cases l:aY A3 with
   |none=>exact .inl rfl
   |some q=>exact .inr (by rw[e];intro hc;cases hc)
  .exact .inr (λhc=>e hc.symm))
 have r:∀q,aY A9=some q->q<w9.heap.size:=λq hq=>(a.lt q hq).2
 have o:gF (cE (cE (Fb G q3) A9) A3) w9 m g c k:=dN.gr (gF.cD m g c k) h.s j (λq hq=> .inl (.inr hq)) (λb hb=>by
  rcases hb with(hb|hb)|hb
  .rcases hb with hb|rfl
   .exact Zy (fl b hb) (aaC h.k.size i.size)
   .exact f.lt
  .exact r b hb
  .exact(p.lt b hb).2) (λb x hb=>by
  rcases hb with(hb|hb)|hb
  .exact .inl (.inl hb)
  .rcases ha with ha|ha
   .exact .inl (.inr (ha.symm.trans hb))
   .rw[ha] at hb;injection hb with hb;omega
  .exact .inr hb)
 have d:w9.grownBy (w9.setCell (q3,3) (.slice A9 (D++ [v]).length c9)) (some q3):=aZ (bK w9 q3) 3 _;refine⟨f.cell 3 _ rfl,f.frozen 3,?_,(h.k.trans i).trans (Kp.grown d λb hb=>⟨Zy (fl b hb) (aaC h.k.size i.size),λe=>t (by injection e with e;rw[<-e];exact hb)⟩),?_,?_,?_,?_⟩
 .exact dN.gr (gF.cD m g c k) o d (λq hq=>by injection hq with hq;rw[<-hq];exact .inl (.inl (.inr rfl))) (λb hb=>by
   obtain⟨_,_,o⟩:=o;exact Zy (o.fl b hb) d.size) (λb _ hb=>hb)
 .have:=f.bX 3 (.slice A9 (D++ [v]).length c9);exact this
 .exact(a).kept d (by
   cases l:aY A9 with
   |none=>exact .inl rfl
   |some q=>exact .inr (λe=>by injection e with e;have:=(a.lt q l).1;omega))
 .exact(p).kept d (by
   cases l:aY A3 with
   |none=>exact .inl rfl
   |some q=>exact .inr (λe=>by injection e with e;have:=(p.lt q l).1;omega))
 .rcases ha with ha|ha
  .rw[ha];exact h.ap
  .refine .inr (λe=>?_);rw[ha] at e;have:=(h.o3.lt _ e.symm).2;omega
theorem nL.Dj(h:nL G w3 wb q3 m g c A2 c2 D A3 c3 E k)(fl:Ol G w3)(hq:q3<w3.heap.size)(t:¬G q3){v:Int}(a:bI eI 1 w9 w3.heap.size 45 A9 c9 (E++ [v]))(l:wb.grownBy w9 (aY A3))(ha:aY A9=aY A3\/aY A9=some wb.heap.size)(u:n=(E++ [v]).length):w9.cell? (q3,4)=some (.slice A3 E.length c3)/\w9.frozen? (q3,4)=false/\nL G w3 (w9.setCell (q3,4) (.slice A9 n c9)) q3 m g c A2 c2 D A9 c9 (E++ [v]) k:=by
 subst u;have i:Kp G wb w9:=Kp.grown l λb hb=>⟨Zy (fl b hb) h.k.size,λe=>by have:=(h.o3.lt b e.symm).1;have:=fl b hb;omega⟩
 have f:bF w9 q3 73 (oZ A2 D.length c2 A3 E.length c3):=(l.block q3 h.b.lt (λe=>by have:=(h.o3.lt q3 e.symm).1;omega)).trans h.b;have p:=h.o2.kept l (h.ap);have r:∀q,aY A9=some q->q<w9.heap.size:=λq hq=>(a.lt q hq).2
 have o:gF (cE (cE (Fb G q3) A2) A9) w9 m g c k:=dN.gr (gF.cD m g c k) h.s l (λq hq=> .inr hq) (λb hb=>by
  rcases hb with(hb|hb)|hb
  .rcases hb with hb|rfl
   .exact Zy (fl b hb) (aaC h.k.size i.size)
   .exact f.lt
  .exact(p.lt b hb).2
  .exact r b hb) (λb x hb=>by
  rcases hb with(hb|hb)|hb
  .exact .inl (.inl hb)
  .exact .inl (.inr hb)
  .rcases ha with ha|ha
   .exact .inr (ha.symm.trans hb)
   .rw[ha] at hb;injection hb with hb;omega)
 have d:w9.grownBy (w9.setCell (q3,4) (.slice A9 (E++ [v]).length c9)) (some q3):=aZ (bK w9 q3) 4 _;refine⟨f.cell 4 _ rfl,f.frozen 4,?_,(h.k.trans i).trans (Kp.grown d λb hb=>⟨Zy (fl b hb) (aaC h.k.size i.size),λe=>t (by injection e with e;rw[<-e];exact hb)⟩),?_,?_,?_,?_⟩
 .exact dN.gr (gF.cD m g c k) o d (λq hq=>by injection hq with hq;rw[<-hq];exact .inl (.inl (.inr rfl))) (λb hb=>by
   obtain⟨_,_,o⟩:=o;exact Zy (o.fl b hb) d.size) (λb _ hb=>hb)
 .have:=f.bX 4 (.slice A9 (E++ [v]).length c9);exact this
 .exact(p).kept d (by
   cases j:aY A2 with
   |none=>exact .inl rfl
   |some q=>exact .inr (λe=>by injection e with e;have:=(p.lt q j).1;omega))
 .exact(a).kept d (by
   cases j:aY A9 with
   |none=>exact .inl rfl
   |some q=>exact .inr (λe=>by injection e with e;have:=(a.lt q j).1;omega))
 .rcases ha with ha|ha
  .rw[ha];exact h.ap
  .cases j:aY A2 with
   |none=>exact .inl rfl
   |some q=>
    refine .inr (λe=>?_);rw[ha] at e;injection e with e;have:=(h.o2.lt q j).2;omega
end
def mB(x:Int×Int×Int):List aC:= [.int .i64 x.1, .int .i64 x.2.1, .int .i64 x.2.2]
theorem uE:eL mB 3:=⟨λ_=>rfl,λx u hu=>by simp[mB] at hu;rcases hu with rfl|rfl|rfl <;> rfl⟩
theorem Sl.FG{xs:List (Int×Int×Int)}(h:Sl mB 3 w A xs)(hi:i<xs.length):
 ∃b off,A=some ⟨b,off,none⟩/\w.cell? ⟨b,off+i *3,none⟩=some (.int .i64 xs[i].1)/\w.cell? ⟨b,off+i *3+1,none⟩=some (.int .i64 xs[i].2.1)/\w.cell? ⟨b,off+i *3+2,none⟩=some (.int .i64 xs[i].2.2):=by
 obtain⟨b,off,a,hc⟩:=h.at_ hi;exact⟨b,off,a,by simpa using hc 0 _ (show(mB xs[i])[0]?=some (.int .i64 xs[i].1) from rfl),by simpa[abD] using hc 1 _ (show(mB xs[i])[1]?=some (.int .i64 xs[i].2.1) from rfl),by simpa[abD] using hc 2 _ (show(mB xs[i])[2]?=some (.int .i64 xs[i].2.2) from rfl)⟩
structure Wd where
 A:Option aJ
 c:Nat
 xs:List Int
def PL(x:Wd):List aC:= [.slice x.A x.xs.length x.c]
theorem Pf:eL PL 1:=⟨λ_=>rfl,λx u hu=>by simp[PL] at hu;subst hu;rfl⟩
structure BU(F:Nat->Prop)(w:aA)(AR:Option aJ)(rs:List Int)(AW:Option aJ)(ws:List (Int×Int×Int))(AX:Option aJ)(xs:List Wd):Prop where
 r:Sl eI 1 w AR rs
 rF:∀q,mK AR rs.length=some q->F q
 wt:Sl mB 3 w AW ws
 wF:∀q,mK AW ws.length=some q->F q
 x:Sl PL 1 w AX xs
 xF:∀q,mK AX xs.length=some q->F q
 y:∀z∈xs,Sl eU 1 w z.A z.xs/\(∀q,mK z.A z.xs.length=some q->F q)/\∀u∈z.xs,0<=u/\u<18446744073709551616
theorem BU.kp{rs:List Int}{xs:List Wd}(h:BU F w AR rs AW ws AX xs)(k:Kp F w w'):BU F w' AR rs AW ws AX xs:=
 ⟨h.r.AG k h.rF,h.rF,h.wt.AG k h.wF,h.wF,h.x.AG k h.xF,h.xF,λz a=>⟨(h.y z a).1.AG k (h.y z a).2.1,(h.y z a).2⟩⟩
def kI(k:Kv)(ws:List (Int×Int×Int)):Kv:=ws.foldl (λk x=>(gX k x.1 x.2.1 x.2.2).2) k
theorem SB(k:Kv)(ws:List (Int×Int×Int))(x:Int×Int×Int):kI k (ws++ [x])=(gX (kI k ws) x.1 x.2.1 x.2.2).2:=by
 unfold kI;rw[acC];rfl
theorem zQ(ws:List (Int×Int×Int)):∀{k:Kv},KI k n->KI (kI k ws) n:=by
 induction ws with
 |nil=>intro k h;exact h
 |cons x ws a=>intro k h;exact a (Cu h _ _ _)
theorem xZ(s:Sd)(e:Int)(b:Bool):(jY s e b).nw=s.nw:=by
 unfold jY;split <;> rfl
theorem yM(k:Kv)(e:Int):(dL k e).s.nw=k.s.nw:=by
 unfold dL;split
 .exact xZ _ _ _
 .rfl
theorem ND(l:List Int):∀k:Kv,(dQ k l).s.nw=k.s.nw:=by
 induction l with
 |nil=>intro k;rfl
 |cons e l a=>intro k;exact(a (dL k e)).trans (yM k e)
theorem kA.nw{l:List Nt}(r:kA l k k'):k'.s.nw=k.s.nw:=by
 induction r with
 |nil _=>rfl
 |cons r1 _ a=>exact a.trans ((yM _ _).trans (by rw[r1.sm.s]))
theorem kQ.nw(r:kQ k k'):k'.s.nw=k.s.nw:=by
 obtain⟨l1,a,T,k2,_,ho,rfl⟩:=r;exact(ND a k2).trans (ho.nw.trans (ND l1 k))
theorem Q4(k:Kv)(e o gr:Int):(gX k e o gr).2.s.nw=k.s.nw:=by
 unfold gX;split
 .rfl
 .split
  .rfl
  .split
   .rfl
   .exact yM _ _
theorem zR(ws:List (Int×Int×Int)):∀k:Kv,(kI k ws).s.nw=k.s.nw:=by
 induction ws with
 |nil=>intro k;rfl
 |cons x ws a=>intro k;exact(a _).trans (Q4 _ _ _ _)
theorem Hq{c:Int}(h:gF F w m g c k)(b:KI k n)(d:n<=1000000)(e o gr:Int):aG prog 75 #[.pointer g,e,o,gr] w λr w'=>∃v:Int,r= .returned (.int .i64 v)/\gF F w' m g c (gX k e o gr).2/\Kp F w w':=by
 obtain⟨f,a,h⟩:=h;obtain⟨G,i,back⟩:=h.kn;refine(Ad i (b.kw d) e o gr).mono ?_;rintro r w' ⟨rfl,⟨a',j⟩,k2⟩;obtain⟨b1,b2⟩:=back _ _ w' j k2;exact⟨_,rfl,⟨f,a',b1⟩,b2⟩
theorem Nv{c:Int}(h:gF F w m g c k)(b:KI k n)(d:n<=1000000):aG prog 76 #[.pointer g] w λr w'=>∃k',r= .returned (.tuple #[])/\aH (kQ k k'/\gF F w' m g c k'/\Kp F w w'):=by
 obtain⟨e,a,h⟩:=h;obtain⟨G,f,back⟩:=h.kn;refine(SE f (b.kw d) (by have:=b.an;omega)).mono ?_;rintro r w' ⟨k',hb,rfl,⟨a',i⟩,k2⟩;obtain⟨b1,b2⟩:=back _ _ w' i k2;exact⟨k',rfl,hb,⟨e,a',b1⟩,b2⟩
theorem Cq{c:Int}{a:Ka}(h:iS F w m g c na a k)(d:gQ k.s)(e:k.s.nw<1048576):aG prog 77 #[.pointer a.gs] w λr w'=>r= .returned (.tuple #[.agg #[.int .i64 (gH k.s).1.env, .bool (gH k.s).1.ch],true])/\gF F w' m g c {k with s:=(gH k.s).2}/\Kp F w w':=by
 obtain⟨G,f,back⟩:=h.kn;obtain⟨j,hs,b⟩:=f.sd;refine(YX hs d e).mono ?_;rintro r w' ⟨rfl,i,k2⟩;obtain⟨b1,b2⟩:=b _ w' i k2;obtain⟨d1,d2⟩:=back _ _ w' b1 b2;exact⟨rfl,⟨na,a,d1⟩,d2⟩
theorem Bn(s:Sd):(gH s).2.P.length=s.P.length:=by
 unfold gH;have h1:(dY s).P.length=s.P.length:=abB _;split
 .show(List.modify _ _ _).length=_;rw[ab0];exact h1
 .split <;> exact h1
theorem KI.tick(h:KI k n)(a:k.s.nw<1048576):KI {k with s:=(gH k.s).2} n:=h.DW (h.sd.tick a) ((Bn k.s).trans h.p4)
def sO(k:Kv)(c:Int)(ws:List (Int×Int×Int))(xs:List Wd)(rn:Rn)(D:List (Int×Int))(k':Kv):Prop:=∃k2,kQ (kI k ws) k2/\rn=(gH k2.s).1/\
 ((∃(i:Nat) (z:Wd),rn.env=i/\xs[i]?=some z/\uA c rn.env {k2 with s:=(gH k2.s).2} z.xs D k')\/((rn.env<0\/(xs.length:Int)<=rn.env)/\D= []/\k'={k2 with s:=(gH k2.s).2}))
def Uv(F:Nat->Prop)(m g:Nat)(c:Int)(k:Kv)(n0 M:Nat)(ws:List (Int×Int×Int))(xs:List Wd)(w:aA)(e:Ending)(w':aA):Prop:=∃(rn:Rn) (A A2 A3:Option aJ) (nA cA n2 c2 n3 c3:Nat) (D:List (Int×Int)) (k':Kv),e= .returned (.tuple #[.agg #[rn.env,rn.ch,(A,nA,cA),(A2,n2,c2),(A3,n3,c3)],aU])/\nA=D.length/\sO k c ws xs rn D k'/\KI k' (n0+M)/\bI u7 2 w' w.heap.size 227 A cA D/\gF (cE F A) w' m g c k'/\Kp F w w'
structure Gq(F5 F:Nat->Prop)(w W:aA)(q1:Nat)(A:Option aJ):Prop where
 f1:F5 (q1+1)
 f2:¬F (q1+1)
 fl:Ol F w
 k:Kp F w W
 ff:∀b,F b->F5 b
 ne:aY A≠some (q1+1)
def XC(F5 F:Nat->Prop)(w W:aA)(q1 m g:Nat)(c:Int)(k:Kv)(n0 M:Nat)(ws:List (Int×Int×Int))(xs:List Wd)(rn:Rn)(A:Option aJ)(nA cA:Nat)(DA:List (Int×Int))(kE:Kv):Prop:=
 nA=DA.length/\sO k c ws xs rn DA kE/\KI kE (n0+M)/\bI u7 2 W w.heap.size 227 A cA DA/\gF (cE F5 A) W m g c kE/\Gq F5 F w W q1 A
theorem gF.ol{c:Int}(h:gF F w m g c k):Ol F w:=by
 obtain⟨_,_,h⟩:=h;exact h.fl
theorem gF.less{c:Int}(h:gF F w m g c k)(d:∀b,G b->F b):gF G w m g c k:=by
 obtain⟨e,a,h⟩:=h;exact⟨e,a,h.less d⟩
theorem gF.row{c:Int}(h:gF F w m g c k)(d:w.grownBy W (some q))(hq:F q):gF F W m g c k:=
 dN.gr (gF.cD m g c k) h d (λx a=>by injection a with a;rw[<-a];exact hq) (λb hb=>Zy (h.ol b hb) d.size) (λb _ hb=>hb)
theorem LF{c:Int}(o:bI u7 2 W w.heap.size 227 A cA DA)(s:gF (cE F5 A) W m g c kE)(e:Gq F5 F w W q1 A)(a:W.grownBy W' (some (q1+1))):bI u7 2 W' w.heap.size 227 A cA DA/\gF (cE F A) W' m g c kE/\Kp F w W':=
 ⟨o.kept a (.inr e.ne),(s.row a (.inl e.f1)).less (λb hb=>hb.imp (e.ff b) id),e.k.trans (Kp.grown a λb hb=>⟨Zy (e.fl b hb) e.k.size,λhc=>e.f2 (by injection hc with hc;rw[<-hc];exact hb)⟩)⟩
theorem Tr{c e:Int}(h:GJ (Fb F5 q5) w8 w9 m g c e k n0 us A cA DA k1)(a:w9.grownBy W (some q3))(d:F5 q3)(f1:F5 (q1+1))(f2:¬F (q1+1))(f3:¬F q3)(fl:Ol F w)(hk:Kp F w w8)(ff:∀b,F b->F5 b)(h1:q1+1<w8.heap.size)(i:q3<w8.heap.size):bI u7 2 W w.heap.size 227 A cA DA/\gF (cE F5 A) W m g c k1/\Gq F5 F w W q1 A:=by
 refine⟨(h.o.kept a ?_).from_ hk.size,(h.s.row a (.inl (.inl d))).less (λb hb=>hb.imp .inl id),f1,f2,fl,(hk.trans (h.k.mono λb hb=> .inl (ff b hb))).trans (Kp.grown a λb hb=>⟨Zy (fl b hb) (aaC hk.size h.k.size),λhc=>f3 (by injection hc with hc;rw[<-hc];exact hb)⟩),ff,λhc=>by have:=(h.o.lt _ hc).1;omega⟩;cases f:aY A with
 |none=>exact .inl rfl
 |some q=>exact .inr (λhc=>by injection hc with hc;have:=(h.o.lt q f).1;omega)
def Gk(F:Nat->Prop)(q:Nat):Nat->Prop:=λb=>F b\/b=q\/b=q+1
theorem Nn{c:Int}(h:gF F w m g c k){M:Nat}(hI:KI k n0)(hM:n0+M<999999)(hnw:k.s.nw<1048576){cW:Nat}{rs:List Int}{xs:List Wd}(hin:BU F w AR rs AW ws AX xs)(hlr:rs.length<=1000/\ws.length<=1000/\xs.length<=1000)(hxM:∀z∈xs,z.xs.length<=M):
 aG prog 45 #[.pointer m, .agg #[(AR,rs.length,cR),(AW,ws.length,cW),(AX,xs.length,cX)]] w (Uv F m g c k n0 M ws xs w):=by
 obtain⟨bs,a,h⟩:=h;have V:=aX w (aI #[(AR,rs.length,cR),(AW,ws.length,cW),(AX,xs.length,cX)] 84);have K:=V.alloc V.size (aI (oZ none 0 0 none 0 0) 73);have hz2:((w.alloc (aI #[(AR,rs.length,cR),(AW,ws.length,cW),(AX,xs.length,cX)] 84)).alloc (aI (oZ none 0 0 none 0 0) 73)).heap.size=w.heap.size+1+1:=aT;have ib:=(bF.new w 84 #[(AR,rs.length,cR),(AW,ws.length,cW),(AX,xs.length,cX)]).keep (aX _ (aI (oZ none 0 0 none 0 0) 73));have rb:=bF.fI (w.alloc (aI #[(AR,rs.length,cR),(AW,ws.length,cW),(AX,xs.length,cX)] 84)) 73 (oZ none 0 0 none 0 0) (g:=w.heap.size+1) aT;have H2:aH (iS (Nw F w ((w.alloc (aI #[(AR,rs.length,cR),(AW,ws.length,cW),(AX,xs.length,cX)] 84)).alloc (aI (oZ none 0 0 none 0 0) 73))) ((w.alloc (aI #[(AR,rs.length,cR),(AW,ws.length,cW),(AX,xs.length,cX)] 84)).alloc (aI (oZ none 0 0 none 0 0) 73)) m g c bs a k/\Kp F w ((w.alloc (aI #[(AR,rs.length,cR),(AW,ws.length,cW),(AX,xs.length,cX)] 84)).alloc (aI (oZ none 0 0 none 0 0) 73))):=⟨dN.grow (iS.cD m g c bs a k) h h.fl K,(h.below K).2⟩
 have HB2:=aP K;have HIn:=aP hin;have Y:=aP h.fl;have HKI:=aP hI;have HMM:=bN hM hxM;simp only[oZ] at H2 K rb ib hz2 HB2;clear h V hin hI hM hxM;go_enter func45,ntmps45
 go_upto_region 1 with(fail)
 generalize ((w.alloc (aI #[(AR,rs.length,cR),(AW,ws.length,cW),(AX,xs.length,cX)] 84)).alloc (aI #[aU,false,bH,bH,bH] 73))=L at *;have m0:=H2.o.1.c0;obtain⟨ps,_⟩:=H2.o.1.ks;obtain⟨G1,hk1,_⟩:=H2.o.1.kn;obtain⟨G2,hs2,_⟩:=hk1.sd;have HN:=aP (vR hs2);have HX:=bN ib rb;clear hk1 hs2 K ib rb;go_wp2_with fail
 refine aR HN ?_;rintro e w3 ⟨rfl,rfl⟩;clear HN;go_upto_region 7 with(fail)
 have H3:aH (nL (Gk F w) (L.alloc (aI #[aU,false,bH,bH,bH] 73)) (L.alloc (aI #[aU,false,bH,bH,bH] 73)) L m g c none 0 [] none 0 [] k):=by
  have hb:=(iS.cD m g c bs a k).box H2.o.1 H2.o.1.fl (aI #[aU,false,bH,bH,bH] 73);refine⟨⟨bs,a,hb.less (λb hb=>?_)⟩,Kp.refl _ _,bF.new L _ _,bI.nil _ _ _,bI.nil _ _ _, .inl rfl⟩;rcases hb with(hb|hb)|hb
  .rcases hb with hb|rfl
   .refine .inl ?_;rcases hb with hb|hb|hb
    .exact .inl hb
    .exact .inr ⟨aQ,aQ⟩
    .exact .inr ⟨aQ,aQ⟩
   .exact .inr rfl
  .cases hb
  .cases hb
 have HB3:aH (aD w w (L.alloc (aI #[aU,false,bH,bH,bH] 73))):=HB2.o.alloc HB2.o.size _;have HG:aH (Ol (Gk F w) (L.alloc (aI #[aU,false,bH,bH,bH] 73))/\L.heap.size<(L.alloc (aI #[aU,false,bH,bH,bH] 73)).heap.size/\¬Gk F w L.heap.size):=by
  have hs:(L.alloc (aI #[aU,false,bH,bH,bH] 73)).heap.size=L.heap.size+1:=aT;refine⟨λb hb=>?_,aQ,λhb=>?_⟩
  .rcases hb with hb|hb|hb
   .have:=Y.o b hb;omega
   .omega
   .omega
  .rcases hb with hb|hb|hb
   .have:=Y.o _ hb;omega
   .omega
   .omega
 have HX3:aH (bF (L.alloc (aI #[aU,false,bH,bH,bH] 73)) w.heap.size 84 #[(AR,rs.length,cR),(AW,ws.length,cW),(AX,xs.length,cX)]/\bF (L.alloc (aI #[aU,false,bH,bH,bH] 73)) (w.heap.size+1) 73 (oZ none 0 0 none 0 0)):=⟨HX.o.1.keep (aX L _),HX.o.2.keep (aX L _)⟩
 have aa:aH (BU F (L.alloc (aI #[aU,false,bH,bH,bH] 73)) AR rs AW ws AX xs):=HIn.o.kp (Kp.cB HB3.o Y.o);have HKF:aH (∀W W',Kp (Gk F w) W W'->Kp F W W'):=λW W' h=>h.mono λb hb=> .inl hb
 clear H2 HB2 HX HIn m0 ps;generalize L.alloc (aI #[aU,false,bH,bH,bH] 73)=w3 at *;rw[hz2] at H3 HG;obtain⟨q1,hq1⟩:∃q,q=w.heap.size:=⟨_,rfl⟩
 have HQ1:=aP hq1;rw[<-hq1] at H3 HG HX3 HKF;clear hz2;have i0:=HX3.o.1.cell 0 (.slice AR rs.length cR) rfl;rw[<-hq1];clear hq1;go_wp2_with fail
 go_loopw [38] (λv38 wr=>∃i:Nat,v38= .int .i64 i/\i<=rs.length/\aH (∃A2 c2 D,D.length=i/\nL (Gk F q1) w3 wr (q1+1+1) m g c A2 c2 D none 0 [] k)) (λv38 _=>rs.length - (aL v38).toNat)
 case atStart=>exact⟨0,rfl,aaH _,none,0, [],rfl,H3.o⟩
 case round=>
  clear H3 i0;obtain⟨i,rfl,hi,HR⟩:=hrel;obtain⟨A2,c2,D,hD,U⟩:=HR.o;have HR:=aP U;have HD:=aP hD;by_cases hin:i<rs.length
  .have Z:=HKF.o _ _ U.k;obtain⟨b,off,rfl,hcell⟩:=(aa.o.kp Z).r.ET hin;have j0:(0:Int)<=i:=aQ;have j1:(i:Int)<(rs.length:Int):=aQ;have c3:=U.b.cell 3 (.slice A2 D.length c2) rfl;rw[hD] at c3;obtain⟨bs1,a1,hst⟩:=U.s;obtain⟨_,_,pi,_⟩:=hst.ks;generalize rs[i]=x at *;have HST:=aP hst;clear U Z hst hD;have N:aH (∀W,aD wr wr W->aG prog 74 #[.pointer a1.gi,x] W λr w'=>∃v:Int,r= .returned (.int .i64 v)/\aH (nL (Gk F q1) w3 w' (q1+1+1) m g c A2 c2 D none 0 [] k)/\w'.cell? (q1+1+1,3)=some (.slice A2 i c2)/\∀o,(w'.alloc o).cell? (q1+1+1,3)=some (.slice A2 i c2)):=λW hW=>by
    have hb:=HR.o.below hW;obtain⟨G5,hk5,back5⟩:=(HST.o.below hW).1.kn;refine(UR hk5 x).mono ?_;rintro r w' ⟨v,a',rfl,h2,k2⟩;obtain⟨d1,d2⟩:=back5 _ _ w' h2 k2;have ho:=hb.eQ ⟨bs1,a',d1⟩ d2;have this:=ho.b.cell 3 (.slice A2 D.length c2) rfl;rw[HD.o] at this;exact⟨v,rfl,ho,this,λo=>bG (aX w' o) this⟩
   have hir:i<=1000:=aQ;go_upto_region 10 with(fail)
   clear hcell;go_region_law (first|(refine kS _ rfl (.tmp 43) (.tmp 50) rfl Fp gK (base:=w3.heap.size) (xs:=D) (t.o.o2.alloc _) (n:=i) HD.o rfl (m:=1) rfl (ys:= [v]) rfl (Sl.fI gK J v _ rfl _ aT) dI aQ (aaC t.o.k.size aT) _ rfl (i+1) rfl ?_;intro A9 c9 w9 O hg9 at9;(obtain⟨b9,f9,HO9⟩:=(t.o.below (aX J (aI #[v] 45))).Ff HG.o.1 HG.o.2.1 HG.o.2.2 O hg9 at9 (n:=i+1) (by rw[aaM,HD.o];rfl)))|(go_simp;(refine aS (N.o _ (Below.refl _ _).drew) ?_);rintro r J ⟨v,rfl,t,c36,c37⟩))
   all_goals (
    have HO:=aP HO9;have HE:(D++ [v]).length=i+1:=by rw[aaM,HD.o];rfl
    clear HO9 b9 f9 hg9 at9 O t N HR HST c36 c37 c3;generalize (w9.setCell (q1+1+1,3) (.slice A9 (i+1) c9))=w10 at *;clear w9;go_wp2_with fail
    refine⟨⟨i+1,?_,aQ,A9,c9,D++ [v],HE,HO.o⟩,?_⟩
    .rfl
    .simp only[aL];omega)
  .have Z:=HKF.o _ _ U.k;have i1:=(U.k.aY HX3.o.1 (.inr (.inl rfl))).cell 1 (.slice AW ws.length cW) rfl;have H5:aH (nL (Gk F q1) w3 wr (q1+1+1) m g c A2 c2 D none 0 [] k):=HR;have j1:¬(i:Int)<(rs.length:Int):=aQ;clear Z U HR hD;go_wp2_with fail
   go_loopw [57] (λv57 wr2=>∃j:Nat,v57= .int .i64 j/\j<=ws.length/\aH (∃A3 c3 E,E.length=j/\nL (Gk F q1) w3 wr2 (q1+1+1) m g c A2 c2 D A3 c3 E (kI k (ws.take j)))) (λv57 _=>ws.length - (aL v57).toNat)
   case atStart=>exact⟨0,rfl,aaH _,none,0, [],rfl,H5.o⟩
   case round=>
    clear H5 i1;obtain⟨j,rfl,hj,HR⟩:=hrel;obtain⟨A3,c3,E,hE,U⟩:=HR.o;have HR:=aP U;have HE:=aP hE;by_cases hjn:j<ws.length
    .have Z:=HKF.o _ _ U.k;obtain⟨b,off,rfl,hc0,hc1,hc2⟩:=(aa.o.kp Z).wt.FG hjn;have j0:(0:Int)<=j:=aQ;have j1':(j:Int)<(ws.length:Int):=aQ;have HT:aH (ws.take (j+1)=ws.take j++ [ws[j]]):=(aa3 hjn).symm;generalize ws[j]=x at *;obtain⟨xe,xo,xg⟩:=x;simp only at hc0 hc1 hc2;have c4:=U.b.cell 4 (.slice A3 E.length c3) rfl;rw[hE] at c4;have p:aH (KI (kI k (ws.take j)) n0/\n0<=1000000):=⟨zQ _ HKI.o,by have:=HMM.o.1;omega⟩
     clear U Z hE;go_upto_region 15 with(fail)
     have c5:(wr.alloc (aI #[xe,xo,xg] 172)).cell? (q1+1+1,4)=some (.slice A3 j c3):=bG (aX wr _) c4;have HXb:=aP (bF.new wr 172 #[xe,xo,xg]);have y0:=HXb.o.cell 0 xe rfl;have y1:=HXb.o.cell 1 xo rfl;have y2:=HXb.o.cell 2 xg rfl;have HBx:aH (aD wr wr (wr.alloc (aI #[xe,xo,xg] 172))):=aX wr _;clear hc0 hc1 hc2 c4 HXb;generalize (wr.alloc (aI #[xe,xo,xg] 172))=wx at *;have N:aH (∀W,aD wx wx W->aG prog 75 #[.pointer g,xe,xo,xg] W λr w'=>∃v:Int,r= .returned (.int .i64 v)/\aH (nL (Gk F q1) w3 w' (q1+1+1) m g c A2 c2 D A3 c3 E (kI k (ws.take (j+1))))/\w'.cell? (q1+1+1,4)=some (.slice A3 j c3)/\∀o,(w'.alloc o).cell? (q1+1+1,4)=some (.slice A3 j c3)):=λW hW=>by
      have hb:=HR.o.below (HBx.o.trans (hW.mono HBx.o.size));refine(Hq hb.s p.o.1 p.o.2 xe xo xg).mono ?_;rintro r w' ⟨v,rfl,h2,k2⟩;have ho:=hb.eQ h2 k2;have this:=ho.b.cell 4 (.slice A3 E.length c3) rfl;rw[HE.o] at this;rw[HT.o,SB];exact⟨v,rfl,ho,this,λo=>bG (aX w' o) this⟩
     have hjr:j<=1000:=aQ;clear HR p HT HBx;go_region_law (first|(refine kS _ rfl (.tmp 62) (.tmp 71) rfl Fp gK (base:=w3.heap.size) (xs:=E) (t.o.o3.alloc _) (n:=j) HE.o rfl (m:=1) rfl (ys:= [v]) rfl (Sl.fI gK J v _ rfl _ aT) dI aQ (aaC t.o.k.size aT) _ rfl (j+1) rfl ?_;intro A9 c9 w9 O hg9 at9;(obtain⟨b9,f9,HO9⟩:=(t.o.below (aX J (aI #[v] 45))).Dj HG.o.1 HG.o.2.1 HG.o.2.2 O hg9 at9 (n:=j+1) (by rw[aaM,HE.o];rfl)))|(go_simp;(refine aS (N.o _ (Below.refl _ _).drew) ?_);rintro r J ⟨v,rfl,t,c36,c37⟩))
     all_goals (
      have HO:=aP HO9;have HE2:(E++ [v]).length=j+1:=by rw[aaM,HE.o];rfl
      clear HO9 b9 f9 hg9 at9 O t N c36 c37 c5;generalize (w9.setCell (q1+1+1,4) (.slice A9 (j+1) c9))=w10 at *;clear w9;go_wp2_with fail
      refine⟨⟨j+1,?_,aQ,A9,c9,E++ [v],HE2,HO.o⟩,?_⟩
      .rfl
      .simp only[aL];omega)
    .have j1':¬(j:Int)<(ws.length:Int):=aQ;have hT:ws.take j=ws:=aaS aQ;rw[hT] at U HR;have p:aH (KI (kI k ws) n0/\n0<=1000000):=⟨zQ _ HKI.o,by have:=HMM.o.1;omega⟩
     have HBf:=aP (Nv U.s p.o.1 p.o.2);clear U hE;go_wp2_with fail
     refine aR HBf ?_;rintro e w4 ⟨k2,rfl,HB4⟩;have H4:aH (nL (Gk F q1) w3 w4 (q1+1+1) m g c A2 c2 D A3 c3 E k2):=HR.o.eQ HB4.o.2.1 HB4.o.2.2;have HK2:aH (KI k2 n0/\k2.s.nw<1048576/\kQ (kI k ws) k2):=⟨HB4.o.1.ki p.o.1,by rw[HB4.o.1.nw,zR];exact hnw,HB4.o.1⟩
     obtain⟨bs2,a2,hst2⟩:=H4.o.s;obtain⟨ps,_⟩:=hst2.ks;have jN:=aP (Cq hst2 HK2.o.1.sd HK2.o.2.1);clear HBf HB4 HR p hst2;go_wp2_with fail
     refine aR jN ?_;rintro e w5 ⟨rfl,h5,k5⟩;have H5:aH (nL (Gk F q1) w3 w5 (q1+1+1) m g c A2 c2 D A3 c3 E {k2 with s:=(gH k2.s).2}):=H4.o.eQ h5 k5;have HK5:aH (KI {k2 with s:=(gH k2.s).2} n0):=HK2.o.1.tick HK2.o.2.1;clear jN h5 k5 H4 ps;obtain⟨k3,hk3⟩:∃q,q=({k2 with s:=(gH k2.s).2}:Kv):=⟨_,rfl⟩
     obtain⟨rn,hrn⟩:∃q,q=(gH k2.s).1:=⟨_,rfl⟩
     rw[<-hk3] at H5 HK5;have HK3:=bN hk3 hrn;rw[<-hrn];clear hk3 hrn;go_upto_region 21 with(fail)
     obtain⟨F5,hF5⟩:∃X,X=cE (cE (Fb (Gk F q1) (q1+1+1)) A2) A3:=⟨_,rfl⟩
     have B:aH ((∀b,Gk F q1 b->F5 b)/\F5 (q1+1+1)):=by
      rw[hF5];exact⟨λb hb=> .inl (.inl (.inl hb)), .inl (.inl (.inr rfl))⟩
     have H6:aH (gF (Fb F5 w5) (w5.alloc (aI #[rn.env,rn.ch] 69)) m g c k3/\Kp (Gk F q1) w3 (w5.alloc (aI #[rn.env,rn.ch] 69))):=by
      have h1:=H5.o.below (aX w5 (aI #[rn.env,rn.ch] 69));obtain⟨bs5,a5,h5⟩:=H5.o.s;have h6:=(iS.cD m g c bs5 a5 k3).box h5 h5.fl (aI #[rn.env,rn.ch] 69);rw[<-hF5] at h6;exact⟨⟨bs5,a5,h6⟩,h1.k⟩
     have u:aH (bF (w5.alloc (aI #[rn.env,rn.ch] 69)) w5.heap.size 69 #[rn.env,rn.ch]/\bF (w5.alloc (aI #[rn.env,rn.ch] 69)) (q1+1+1) 73 (oZ A2 D.length c2 A3 E.length c3)/\q1+1+1≠w5.heap.size/\¬Gk F q1 w5.heap.size/\¬Gk F q1 (q1+1+1)):=by
      have hlt:=H5.o.b.lt;refine⟨bF.new w5 _ _,H5.o.b.keep (aX w5 _),aQ,λhb=>?_,HG.o.2.2⟩;have h1:=HG.o.1 _ hb;have h2:=H5.o.k.size;omega
     generalize hq5:w5.heap.size=q5 at *;clear hq5 H5 hF5;generalize (w5.alloc (aI #[rn.env,rn.ch] 69))=J at *;clear w5;have b0:=u.o.1.cell 0 rn.env rfl;have b1:=u.o.1.cell 1 (.bool rn.ch) rfl;have o0:=u.o.2.1.cell 0 (.int .i64 0) rfl;have o1:=u.o.2.1.cell 1 (.bool false) rfl;have f0:=u.o.2.1.frozen 0;have f1:=u.o.2.1.frozen 1;have ne5:q1+1+1≠q5:=u.o.2.2.1;have H7:aH (gF (Fb F5 q5) ((J.setCell (q1+1+1,0) rn.env).setCell (q1+1+1,1) (.bool rn.ch)) m g c k3/\Kp (Gk F q1) w3 ((J.setCell (q1+1+1,0) rn.env).setCell (q1+1+1,1) (.bool rn.ch))):=by
      have P:J.grownBy ((J.setCell (q1+1+1,0) rn.env).setCell (q1+1+1,1) (.bool rn.ch)) (some (q1+1+1)):=aZ (aZ (bK _ _) 0 _) 1 _;obtain⟨bs6,a6,h6⟩:=H6.o.1;refine⟨⟨bs6,a6,dN.gr (iS.cD m g c bs6 a6 k3) h6 P (λq hq=>by injection hq with hq;rw[<-hq];exact .inl B.o.2) (λb hb=>Zy (h6.fl b hb) P.size) (λb _ hb=>hb)⟩,H6.o.2.trans (Kp.grown P λb hb=>⟨Zy (HG.o.1 b hb) H6.o.2.size,λe=>u.o.2.2.2.2 (by injection e with e;rw[<-e];exact hb)⟩)⟩
     have HB7:aH (bF ((J.setCell (q1+1+1,0) rn.env).setCell (q1+1+1,1) (.bool rn.ch)) q5 69 #[rn.env,rn.ch]/\bF ((J.setCell (q1+1+1,0) rn.env).setCell (q1+1+1,1) (.bool rn.ch)) (q1+1+1) 73 #[rn.env,rn.ch,bH, .slice A2 D.length c2, .slice A3 E.length c3]):=by
      have P:J.grownBy ((J.setCell (q1+1+1,0) rn.env).setCell (q1+1+1,1) (.bool rn.ch)) (some (q1+1+1)):=aZ (aZ (bK _ _) 0 _) 1 _;refine⟨(P.block q5 u.o.1.lt (λe=>ne5 (by injection e with e;exact e.symm))).trans u.o.1,?_⟩;exact(u.o.2.1.bX 0 rn.env).bX 1 (.bool rn.ch)
     go_upto_region 22 with(fail)
     clear b0 b1 o0 o1 f0 f1;generalize ((J.setCell (q1+1+1,0) rn.env).setCell (q1+1+1,1) (.bool rn.ch))=w7 at *;have b0:=HB7.o.1.cell 0 rn.env rfl;have b1:=HB7.o.1.cell 1 (.bool rn.ch) rfl;have HBd:=aP (Eh H7.o.1 (HK5.o.kw (by have:=HMM.o.1;omega)) rn.env rn.ch);clear H6;go_wp2_with fail
     refine aR HBd ?_;rintro e H ⟨rfl,h8,k8⟩;have a7:aH (Kp (Gk F q1) w3 H):=H7.o.2.trans (k8.mono λb hb=> .inl (B.o.1 b hb));have H8:aH (gF (Fb F5 q5) H m g c k3):=h8;have Q:aH (bF H q5 69 #[rn.env,rn.ch]/\bF H (q1+1+1) 73 #[rn.env,rn.ch,bH, .slice A2 D.length c2, .slice A3 E.length c3]):=⟨k8.aY HB7.o.1 (.inr rfl),k8.aY HB7.o.2 (.inl B.o.2)⟩
     have HX8:aH (bF H q1 84 #[(AR,rs.length,cR),(AW,ws.length,cW),(AX,xs.length,cX)]/\bF H (q1+1) 73 (oZ none 0 0 none 0 0)):=⟨a7.o.aY HX3.o.1 (.inr (.inl rfl)),a7.o.aY HX3.o.2 (.inr (.inr rfl))⟩
     have R:aH (BU F H AR rs AW ws AX xs):=aa.o.kp (HKF.o _ _ a7.o);clear HBd h8 k8 b0 b1 H7 HB7 u w7 HX3 aa;obtain⟨env,ch⟩:=rn;simp only at Q HK3⊢;have C:aH (F5 (q1+1)/\¬F (q1+1)/\Kp F w H/\w.heap.size<=w3.heap.size/\q1+1<w3.heap.size/\q1+1≠q1+1+1):=by
      refine⟨B.o.1 _ (.inr (.inr rfl)),λhb=>by have:=Y.o _ hb;have:=HQ1.o;omega,(Kp.cB HB3.o Y.o).trans (HKF.o _ _ a7.o),HB3.o.size,HG.o.1 _ (.inr (.inr rfl)),aQ⟩
     have HTR:aH (∀(I:List (Int×Int)) (k':Kv),((∃(i:Nat) (z:Wd),env=i/\xs[i]?=some z/\uA c env k3 z.xs I k')\/((env<0\/(xs.length:Int)<=env)/\I= []/\k'=k3))->sO k c ws xs ⟨env,ch⟩ I k'):=λI k' h=>⟨k2,HK2.o.2.2,HK3.o.2,by rw[<-HK3.o.1];exact h⟩
     have e0:=Q.o.1.cell 0 env rfl;have i2:=HX8.o.1.cell 2 (.slice AX xs.length cX) rfl;have hnE:aH ((env<0\/(xs.length:Int)<=env)->XC F5 F w H q1 m g c k n0 M ws xs ⟨env,ch⟩ none 0 0 [] k3):=λhn=>⟨rfl,HTR.o [] k3 (.inr ⟨hn,rfl,rfl⟩),HK5.o.mono (Nat.le_add_right _ _),bI.nil _ _ _,H8.o.less (λb hb=>by
      rcases hb with hb|hb
      .exact .inl hb
      .cases hb),C.o.1,C.o.2.1,Y.o,C.o.2.2.1,λb hb=>B.o.1 b (.inl hb),λhc=>by cases hc⟩
     have HEB:aH (bF H (q1+1+1) 73 #[env,ch,bH, .slice A2 D.length c2, .slice A3 E.length c3]/\bF H (q1+1) 73 (oZ none 0 0 none 0 0)):=⟨Q.o.2,HX8.o.2⟩
     have hne:q1+1≠q1+1+1:=aQ;by_cases h1:env<0
     .have S:aH _:=hnE.o (.inl h1);go_upto_region 25 with(fail)
      obtain⟨A,f,cA,I,T,EQ,d⟩:∃(A:Option aJ) (f cA:Nat) (I:List (Int×Int)) (T:Kv),aH (XC F5 F w H q1 m g c k n0 M ws xs ⟨env,ch⟩ A f cA I T)/\aH (bF H (q1+1+1) 73 #[env,ch,(A,f,cA), .slice A2 D.length c2, .slice A3 E.length c3]/\bF H (q1+1) 73 (oZ none 0 0 none 0 0)):=⟨none,0,0, [],k3,S,HEB⟩
      clear e0 i2 S HEB Q HX8 R a7 C hnE HTR H8;generalize H=wE at *;have g0:=d.o.1.cell 0 (.int .i64 (env)) rfl;have g1:=d.o.1.cell 1 (.bool ch) rfl;have g2:=d.o.1.cell 2 (.slice A f cA) rfl;have g3:=d.o.1.cell 3 (.slice A2 D.length c2) rfl;have g4:=d.o.1.cell 4 (.slice A3 E.length c3) rfl;have r0:=d.o.2.cell 0 (.int .i64 0) rfl;have r1:=d.o.2.cell 1 (.bool false) rfl;have r2:=d.o.2.cell 2 (.slice none 0 0) rfl;have r3:=d.o.2.cell 3 (.slice none 0 0) rfl;have r4:=d.o.2.cell 4 (.slice none 0 0) rfl;have s0:=d.o.2.frozen 0;have s1:=d.o.2.frozen 1;have s2:=d.o.2.frozen 2;have s3:=d.o.2.frozen 3;have s4:=d.o.2.frozen 4;obtain⟨u1,u2,u3,u4,u5,u6⟩:=EQ.o;have HWE:aH (bI u7 2 (((((wE.setCell (q1+1,0) (.int .i64 (env))).setCell (q1+1,1) (.bool ch)).setCell (q1+1,2) (.slice A f cA)).setCell (q1+1,3) (.slice A2 D.length c2)).setCell (q1+1,4) (.slice A3 E.length c3)) w.heap.size 227 A cA I/\gF (cE F A) (((((wE.setCell (q1+1,0) (.int .i64 (env))).setCell (q1+1,1) (.bool ch)).setCell (q1+1,2) (.slice A f cA)).setCell (q1+1,3) (.slice A2 D.length c2)).setCell (q1+1,4) (.slice A3 E.length c3)) m g c T/\Kp F w (((((wE.setCell (q1+1,0) (.int .i64 (env))).setCell (q1+1,1) (.bool ch)).setCell (q1+1,2) (.slice A f cA)).setCell (q1+1,3) (.slice A2 D.length c2)).setCell (q1+1,4) (.slice A3 E.length c3))):=LF u4 u5 u6 (aZ (aZ (aZ (aZ (aZ (bK wE (q1+1)) 0 _) 1 _) 2 _) 3 _) 4 _);have l:aH (bF (((((wE.setCell (q1+1,0) (.int .i64 (env))).setCell (q1+1,1) (.bool ch)).setCell (q1+1,2) (.slice A f cA)).setCell (q1+1,3) (.slice A2 D.length c2)).setCell (q1+1,4) (.slice A3 E.length c3)) (q1+1) 73 #[.int .i64 (env),ch,(A,f,cA), .slice A2 D.length c2, .slice A3 E.length c3]):=((((d.o.2.bX 0 _).bX 1 _).bX 2 _).bX 3 _).bX 4 _;have EU:=dA u1 u2 u3;clear u1 u2 u3 u4 u5 u6 EQ;go_wp2_with fail
      generalize (((((wE.setCell (q1+1,0) (.int .i64 (env))).setCell (q1+1,1) (.bool ch)).setCell (q1+1,2) (.slice A f cA)).setCell (q1+1,3) (.slice A2 D.length c2)).setCell (q1+1,4) (.slice A3 E.length c3))=wZ at *;have v0:=l.o.cell 0 (.int .i64 (env)) rfl;have v1:=l.o.cell 1 (.bool ch) rfl;have v2:=l.o.cell 2 (.slice A f cA) rfl;have v3:=l.o.cell 3 (.slice A2 D.length c2) rfl;have v4:=l.o.cell 4 (.slice A3 E.length c3) rfl;refine bodyPost_ret (v:= .tuple #[.agg #[.int .i64 (env),ch,(A,f,cA), .slice A2 D.length c2, .slice A3 E.length c3],aU]) ?_ rfl ⟨⟨env,ch⟩,A,A2,A3,f,cA,_,_,_,_,I,T,rfl,EU.o.1,EU.o.2.1,EU.o.2.2,HWE.o⟩;simp[results,results45,go_sem,v0,v1,v2,v3,v4]
     by_cases h2:(xs.length:Int)<=env
     .have S:aH _:=hnE.o (.inr h2);go_upto_region 25 with(fail)
      obtain⟨A,f,cA,I,T,EQ,d⟩:∃(A:Option aJ) (f cA:Nat) (I:List (Int×Int)) (T:Kv),aH (XC F5 F w H q1 m g c k n0 M ws xs ⟨env,ch⟩ A f cA I T)/\aH (bF H (q1+1+1) 73 #[env,ch,(A,f,cA), .slice A2 D.length c2, .slice A3 E.length c3]/\bF H (q1+1) 73 (oZ none 0 0 none 0 0)):=⟨none,0,0, [],k3,S,HEB⟩
      clear e0 i2 S HEB Q HX8 R a7 C hnE HTR H8;generalize H=wE at *;have g0:=d.o.1.cell 0 (.int .i64 (env)) rfl;have g1:=d.o.1.cell 1 (.bool ch) rfl;have g2:=d.o.1.cell 2 (.slice A f cA) rfl;have g3:=d.o.1.cell 3 (.slice A2 D.length c2) rfl;have g4:=d.o.1.cell 4 (.slice A3 E.length c3) rfl;have r0:=d.o.2.cell 0 (.int .i64 0) rfl;have r1:=d.o.2.cell 1 (.bool false) rfl;have r2:=d.o.2.cell 2 (.slice none 0 0) rfl;have r3:=d.o.2.cell 3 (.slice none 0 0) rfl;have r4:=d.o.2.cell 4 (.slice none 0 0) rfl;have s0:=d.o.2.frozen 0;have s1:=d.o.2.frozen 1;have s2:=d.o.2.frozen 2;have s3:=d.o.2.frozen 3;have s4:=d.o.2.frozen 4;obtain⟨u1,u2,u3,u4,u5,u6⟩:=EQ.o;have HWE:aH (bI u7 2 (((((wE.setCell (q1+1,0) (.int .i64 (env))).setCell (q1+1,1) (.bool ch)).setCell (q1+1,2) (.slice A f cA)).setCell (q1+1,3) (.slice A2 D.length c2)).setCell (q1+1,4) (.slice A3 E.length c3)) w.heap.size 227 A cA I/\gF (cE F A) (((((wE.setCell (q1+1,0) (.int .i64 (env))).setCell (q1+1,1) (.bool ch)).setCell (q1+1,2) (.slice A f cA)).setCell (q1+1,3) (.slice A2 D.length c2)).setCell (q1+1,4) (.slice A3 E.length c3)) m g c T/\Kp F w (((((wE.setCell (q1+1,0) (.int .i64 (env))).setCell (q1+1,1) (.bool ch)).setCell (q1+1,2) (.slice A f cA)).setCell (q1+1,3) (.slice A2 D.length c2)).setCell (q1+1,4) (.slice A3 E.length c3))):=LF u4 u5 u6 (aZ (aZ (aZ (aZ (aZ (bK wE (q1+1)) 0 _) 1 _) 2 _) 3 _) 4 _);have l:aH (bF (((((wE.setCell (q1+1,0) (.int .i64 (env))).setCell (q1+1,1) (.bool ch)).setCell (q1+1,2) (.slice A f cA)).setCell (q1+1,3) (.slice A2 D.length c2)).setCell (q1+1,4) (.slice A3 E.length c3)) (q1+1) 73 #[.int .i64 (env),ch,(A,f,cA), .slice A2 D.length c2, .slice A3 E.length c3]):=((((d.o.2.bX 0 _).bX 1 _).bX 2 _).bX 3 _).bX 4 _;have EU:=dA u1 u2 u3;clear u1 u2 u3 u4 u5 u6 EQ;go_wp2_with fail
      generalize (((((wE.setCell (q1+1,0) (.int .i64 (env))).setCell (q1+1,1) (.bool ch)).setCell (q1+1,2) (.slice A f cA)).setCell (q1+1,3) (.slice A2 D.length c2)).setCell (q1+1,4) (.slice A3 E.length c3))=wZ at *;have v0:=l.o.cell 0 (.int .i64 (env)) rfl;have v1:=l.o.cell 1 (.bool ch) rfl;have v2:=l.o.cell 2 (.slice A f cA) rfl;have v3:=l.o.cell 3 (.slice A2 D.length c2) rfl;have v4:=l.o.cell 4 (.slice A3 E.length c3) rfl;refine bodyPost_ret (v:= .tuple #[.agg #[.int .i64 (env),ch,(A,f,cA), .slice A2 D.length c2, .slice A3 E.length c3],aU]) ?_ rfl ⟨⟨env,ch⟩,A,A2,A3,f,cA,_,_,_,_,I,T,rfl,EU.o.1,EU.o.2.1,EU.o.2.2,HWE.o⟩;simp[results,results45,go_sem,v0,v1,v2,v3,v4]
     obtain⟨i,rfl⟩:=aaB (by omega:0<=env);have hix:i<xs.length:=aQ;have hg:xs[i]?=some xs[i]:=Zv hix;have hz:=aaF hix;have HZ:=dA hg (R.o.y _ hz) (HMM.o.2 _ hz);obtain⟨b,off,rfl,hc⟩:=R.o.x.at_ hix;have z0:=hc 0 _ (show(PL xs[i])[0]?=some (.slice xs[i].A xs[i].xs.length xs[i].c) from rfl);simp only[acD,aaU] at z0;generalize xs[i]=z at *;clear hc hg hz;have h1':(0:Int)<=i:=aQ;have h2':(i:Int)<(xs.length:Int):=aQ;have N:aH (∀W,aD H H W->aG prog 79 #[.pointer m,i,(z.A,z.xs.length,z.c)] W λr w'=>∃(A:Option aJ) (f cA:Nat),r= .returned (.slice A f cA)/\aH (∃(I:List (Int×Int)) (T:Kv),XC F5 F w (w'.setCell (q1+1+1,2) (.slice A f cA)) q1 m g c k n0 M ws xs ⟨i,ch⟩ A f cA I T/\bF (w'.setCell (q1+1+1,2) (.slice A f cA)) (q1+1+1) 73 #[i,ch,(A,f,cA), .slice A2 D.length c2, .slice A3 E.length c3]/\bF (w'.setCell (q1+1+1,2) (.slice A f cA)) (q1+1) 73 (oZ none 0 0 none 0 0))/\w'.cell? (q1+1+1,2)=some (.slice none 0 0)/\w'.frozen? (q1+1+1,2)=false):=λW hW=>by
      obtain⟨bs8,a8,h8⟩:=H8.o;obtain⟨h8W,k8W⟩:=h8.below hW;have hk8:Kp F H W:=k8W.mono λb hb=> .inl (B.o.1 b (.inl hb))
      have hyy:=HZ.o.2.1;refine(Gx ⟨bs8,a8,h8W⟩ HK5.o (i:Int) (hyy.1.AG hk8 hyy.2.1) (λq hq=> .inl (B.o.1 _ (.inl (hyy.2.1 q hq)))) hyy.2.2 (cw:=z.c) (by have:=HMM.o.1;have:=HZ.o.2.2;omega)).mono ?_;rintro r w' ⟨A,cA,f,I,T,rfl,hnA,hAn⟩;have V:bF w' (q1+1+1) 73 #[i,ch,bH, .slice A2 D.length c2, .slice A3 E.length c3]:=hAn.k.aY (k8W.aY Q.o.2 (.inl B.o.2)) (.inl B.o.2);have K:bF w' (q1+1) 73 (oZ none 0 0 none 0 0):=hAn.k.aY (k8W.aY HX8.o.2 (.inl C.o.1)) (.inl C.o.1);have P:w'.grownBy (w'.setCell (q1+1+1,2) (.slice A f cA)) (some (q1+1+1)):=aZ (bK _ _) 2 _;have f3:¬F (q1+1+1):=λhb=>HG.o.2.2 (.inl hb)
      have hs8:=hW.size;have hl3:=(Q.o.2:bF _ _ _ _).lt;obtain⟨t1,t2,t3⟩:=Tr (F:=F) (w:=w) (q1:=q1) hAn P B.o.2 C.o.1 C.o.2.1 f3 Y.o (C.o.2.2.1.trans hk8) (λb hb=>B.o.1 b (.inl hb)) aQ aQ;refine⟨A,f,cA,rfl,⟨I,T,⟨hnA,HTR.o I T (.inl ⟨i,z,rfl,HZ.o.1,hAn.r⟩),hAn.i.mono (by have:=HZ.o.2.2;omega),t1,t2,t3⟩,V.bX 2 _,(P.block _ K.lt (λe=>hne (by injection e))).trans K⟩,V.cell 2 _ rfl,V.frozen 2⟩
     go_upto_region 24 with(fail)
     go_region_law (go_simp;(refine aS (N.o _ (Below.refl _ _).drew) ?_);rintro r J ⟨A,f,cA,rfl,t,c36,c37⟩)
     all_goals (
      obtain⟨I,T,S,EB0⟩:=t.o;have EQ:=aP S;have d:=aP EB0;clear S EB0 t N c36 c37 e0 i2 z0 Q HX8 R a7 C hnE HTR H8 HEB;generalize (J.setCell (q1+1+1,2) (.slice A f cA))=wE at *;clear J;have g0:=d.o.1.cell 0 (.int .i64 (i)) rfl;have g1:=d.o.1.cell 1 (.bool ch) rfl;have g2:=d.o.1.cell 2 (.slice A f cA) rfl;have g3:=d.o.1.cell 3 (.slice A2 D.length c2) rfl;have g4:=d.o.1.cell 4 (.slice A3 E.length c3) rfl;have r0:=d.o.2.cell 0 (.int .i64 0) rfl;have r1:=d.o.2.cell 1 (.bool false) rfl;have r2:=d.o.2.cell 2 (.slice none 0 0) rfl;have r3:=d.o.2.cell 3 (.slice none 0 0) rfl;have r4:=d.o.2.cell 4 (.slice none 0 0) rfl;have s0:=d.o.2.frozen 0;have s1:=d.o.2.frozen 1;have s2:=d.o.2.frozen 2;have s3:=d.o.2.frozen 3;have s4:=d.o.2.frozen 4;obtain⟨u1,u2,u3,u4,u5,u6⟩:=EQ.o;have HWE:aH (bI u7 2 (((((wE.setCell (q1+1,0) (.int .i64 (i))).setCell (q1+1,1) (.bool ch)).setCell (q1+1,2) (.slice A f cA)).setCell (q1+1,3) (.slice A2 D.length c2)).setCell (q1+1,4) (.slice A3 E.length c3)) w.heap.size 227 A cA I/\gF (cE F A) (((((wE.setCell (q1+1,0) (.int .i64 (i))).setCell (q1+1,1) (.bool ch)).setCell (q1+1,2) (.slice A f cA)).setCell (q1+1,3) (.slice A2 D.length c2)).setCell (q1+1,4) (.slice A3 E.length c3)) m g c T/\Kp F w (((((wE.setCell (q1+1,0) (.int .i64 (i))).setCell (q1+1,1) (.bool ch)).setCell (q1+1,2) (.slice A f cA)).setCell (q1+1,3) (.slice A2 D.length c2)).setCell (q1+1,4) (.slice A3 E.length c3))):=LF u4 u5 u6 (aZ (aZ (aZ (aZ (aZ (bK wE (q1+1)) 0 _) 1 _) 2 _) 3 _) 4 _);have l:aH (bF (((((wE.setCell (q1+1,0) (.int .i64 (i))).setCell (q1+1,1) (.bool ch)).setCell (q1+1,2) (.slice A f cA)).setCell (q1+1,3) (.slice A2 D.length c2)).setCell (q1+1,4) (.slice A3 E.length c3)) (q1+1) 73 #[.int .i64 (i),ch,(A,f,cA), .slice A2 D.length c2, .slice A3 E.length c3]):=((((d.o.2.bX 0 _).bX 1 _).bX 2 _).bX 3 _).bX 4 _;have EU:=dA u1 u2 u3;clear u1 u2 u3 u4 u5 u6 EQ;go_wp2_with fail
      generalize (((((wE.setCell (q1+1,0) (.int .i64 (i))).setCell (q1+1,1) (.bool ch)).setCell (q1+1,2) (.slice A f cA)).setCell (q1+1,3) (.slice A2 D.length c2)).setCell (q1+1,4) (.slice A3 E.length c3))=wZ at *;have v0:=l.o.cell 0 (.int .i64 (i)) rfl;have v1:=l.o.cell 1 (.bool ch) rfl;have v2:=l.o.cell 2 (.slice A f cA) rfl;have v3:=l.o.cell 3 (.slice A2 D.length c2) rfl;have v4:=l.o.cell 4 (.slice A3 E.length c3) rfl;refine bodyPost_ret (v:= .tuple #[.agg #[.int .i64 (i),ch,(A,f,cA), .slice A2 D.length c2, .slice A3 E.length c3],aU]) ?_ rfl ⟨⟨i,ch⟩,A,A2,A3,f,cA,_,_,_,_,I,T,rfl,EU.o.1,EU.o.2.1,EU.o.2.2,HWE.o⟩;simp[results,results45,go_sem,v0,v1,v2,v3,v4])
end
end
end Go.Proofs.YtacgiflhgdaeaaaGreat
