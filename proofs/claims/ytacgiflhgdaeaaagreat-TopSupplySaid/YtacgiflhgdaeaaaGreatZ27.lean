/- Texts laid as one. -/
import Derived.Laws.BitsLemmas
import Derived.Test.YtacgiflhgdaeaaaGreatZ21
import Derived.Test.YtacgiflhgdaeaaaGreatZ24
import Derived.Test.YtacgiflhgdaeaaaGreatZ26
set_option linter.unusedVariables false
set_option linter.unusedSimpArgs false
set_option maxRecDepth 100000
set_option maxHeartbeats 20000000
namespace Go.Proofs.YtacgiflhgdaeaaaGreat
open Go.Proofs.Tryz
open Go renaming World->aA,Value->aC,Addr->aJ,Calls->aG
open Go.RowKit renaming Below->aD,Hid->aH,intOf->aL
open Go.Obj renaming cells->aI
section
open Go.RowKit Go.Lib Go.Shelf dH Fr Up Nt
variable{C:Cf}{e:Int}{i:Nat}
section
def Oc(C:Cf)(i:Nat):Prop:=i<128/\(cN C i).nu≠0
theorem XH{s:Int}(h:fW C e s=some i):Oc C i/\e=((i /16:Nat):Int)/\s=((i%16:Nat):Int):=by
 unfold fW at h;cases hi:tC e s with
 |none=>rw[hi] at h;cases h
 |some k=>
  rw[hi] at h;simp only at h;split at h
  .cases h
  .injection h with h;subst h;rename_i d;obtain⟨h1,a,b,f,g,j,c,hk⟩:=BV hi;exact⟨⟨h1,d⟩,by rw[f];omega,by rw[g];omega⟩
theorem SY{env from_ other to_ rights more:Int}:(iC C env from_ other to_ rights more=(23,C))\/∃i:Nat,Oc C i/\env=((i /16:Nat):Int)/\0<=rights/\oJ (cN C i).rt rights=rights/\iC C env from_ other to_ rights more=dM C other to_ (cN C i).kd (cN C i).ob rights (cN C i).nu:=by
 cases a:fW C env from_ with
 |none=>exact .inl (LJ a other to_ rights more)
 |some i=>
  by_cases hc:rights<0\/oJ (cN C i).rt rights≠rights\/oJ (cN C i).rt more≠more
  .exact .inl (QL a other to_ hc)
  .obtain⟨h1,c,_⟩:=XH a;have d:¬rights<0:=λe=>hc (.inl e)
   have b:oJ (cN C i).rt rights=rights:=aa4 λe=>hc (.inr (.inl e))
   have f:oJ (cN C i).rt more=more:=aa4 λe=>hc (.inr (.inr e))
   exact .inr ⟨i,h1,c,aQ,b,NN a other to_ d b f⟩
end
theorem XF(s:fO)(o:Int):(C7 s o).n=s.n/\(C7 s o).B=s.B/\(C7 s o).T.length=s.T.length:=by
 unfold C7;split
 .exact⟨rfl,rfl,aT⟩
 .exact⟨rfl,rfl,rfl⟩
theorem S9(s:fO)(o a v:Int):(mV s o a v).n=s.n/\(mV s o a v).T=s.T/\(mV s o a v).B.length=s.B.length/\∀j:Nat,(j:Int)≠o->Jv (mV s o a v) j=Jv s j:=by
 unfold mV;split
 .rename_i h;obtain⟨k,m,rfl,rfl,_,hm⟩:=M1 h;refine⟨rfl,rfl,aT,λj b=>?_⟩;unfold Jv;apply aeM;intro p;rw[abU,abU];split
  .rw[acL,acL];simp only[aaW];rw[adA,aaL aQ]
  .rfl
 .exact⟨rfl,rfl,rfl,λ_ _=>rfl⟩
def Yt(C:Cf)(o:Int):Prop:=∃i,Oc C i/\(cN C i).kd=1/\(cN C i).ob=o
def HD(k:Kv):Prop:=∀o,gI k.f o=true->Yt k.c o
variable{n:Nat}{k1 k2 k':Kv}{s:Sd}{op N E:Int}
section
theorem Bc:∀(n:Nat) (L:List Nat),L.Nodup->(∀x∈L,x<n)->L.length<=n
 |0,L,_,h=>by
  cases L with
  |nil=>exact aaH _
  |cons x L=>exact absurd (h x aT) (acK _)
 |n+1,L,hd,h=>by
  have h1:=Bc n (L.erase n) (hd.erase n) (λx a=>by
   have b:=h x (List.mem_of_mem_erase a);have c:x≠n:=λe=>by
    rw[e] at a;exact(List.Nodup.not_mem_erase hd) a
   omega)
  have b:L.length<=(L.erase n).length+1:=by
   rw[List.length_erase];split <;> omega
  omega
theorem KI.kw{k:Kv}(h:KI k n)(g:n<=1000000):KW k:=by
 refine⟨by have:=h.tl;omega,?_,⟨h.cn.1,by have:=h.cn.2;omega⟩,h.sd,λx a=>⟨(h.bb x a).1.1,by have:=(h.bb x a).1.2;omega⟩,by have:=h.an;omega⟩;have h1:=Bc 24 (k.b.map λx=>x.eO.toNat *6+x.fV.toNat) ?_ (λy c=>?_)
 .rw[abT] at h1;omega
 .rw[List.Nodup,List.pairwise_map];refine h.bu.imp_of_mem ?_;intro x y a c d he;obtain⟨⟨e,f⟩,x3,x4⟩:=h.bb x a;obtain⟨⟨i,j⟩,y3,y4⟩:=h.bb y c;exact d ⟨aQ,aQ⟩
 .obtain⟨x,a,rfl⟩:=ac1.1 c;obtain⟨⟨e,f⟩,x3,x4⟩:=h.bb x a;omega
theorem Ni{t:List En}(h:DS t)(X:En):DS (B8 t X):=by
 unfold B8;split
 .unfold ld;have hk:DS (mZ t X)/\∀e∈mZ t X,¬(e.env=X.env/\e.cY=X.cY):=by
   unfold mZ;cases a:fi t X.env X.cY with
   |some i=>
    obtain⟨hi,⟨b,c⟩,_⟩:=BS a;have:=PQ h hi;rw[b,c] at this;exact⟨D6 h i,this⟩
   |none=>
    have:=U5 a;simp only;split
    .exact⟨D6 h 0,λe he=>this e (ad2 he)⟩
    .exact⟨h,this⟩
  exact QO hk.1 hk.2
 .exact h
theorem Mz{t:List En}(h:t.length<=16)(X:En):(B8 t X).length<=16:=by
 unfold B8;split
 .unfold ld mZ;rw[aaT,ac5];cases a:fi t X.env X.cY with
  |some i=>
   obtain⟨hi,_,_⟩:=BS a;simp only;rw[acO,aaK hi];omega
  |none=>
   simp only;split
   .rw[acO,aaK aQ];omega
   .omega
 .exact h
theorem OV(G:List dK):∀t:List En,(jO t G).Sublist t:=by
 induction G with
 |nil=>intro t;exact adD _
 |cons p G a=>
  intro t;refine List.Sublist.trans (a (CZ t p)) ?_;unfold CZ;split
  .exact List.filter_sublist
  .exact adD _
theorem IS(L:List Nt)(o:Int):∀n,(rM L o n).Sublist L
 |0=>adD _
 |n+1=>by
  refine List.Sublist.trans (l₂:=rM L o n) ?_ (IS L o n);show(qX (rM L o n) (n:Nat) o).Sublist (rM L o n);generalize rM L o n=M;unfold qX;split
  .exact afI _ _
  .exact adD _
structure Sm(k k':Kv):Prop where
 s:k'.s=k.s
 n:k'.n=k.n
 c:k'.c.n=k.c.n
 t:k'.t.Sublist k.t
 b:k'.b.Sublist k.b
 f:k'.f.n=k.f.n
 v:k'.v=k.v
theorem Sm.refl(k:Kv):Sm k k:=⟨rfl,rfl,rfl,adD _,adD _,rfl,rfl⟩
theorem Sm.trans{k:Kv}(h:Sm k k1)(a:Sm k1 k2):Sm k k2:=⟨a.s.trans h.s,a.n.trans h.n,a.c.trans h.c,a.t.trans h.t,a.b.trans h.b,a.f.trans h.f,a.v.trans h.v⟩
theorem pE.sm{k:Kv}{o:Int}(r:pE k o k'):Sm k k':=by
 obtain⟨L,_,rfl⟩:=r;exact⟨rfl,rfl,KB _ _,OV _ _,IS _ _ _,(XF k.f o).1,rfl⟩
theorem MO(k:Kv)(num:Int)(self:Bool)(L:List dK):Sm k (vK k num self L):=⟨rfl,rfl,KB _ _,OV _ _,adD _,rfl,rfl⟩
theorem iF.sm{l:List dK}{k:Kv}(r:iF l k k'):Sm k k':=by
 induction r with
 |nil _=>exact Sm.refl _
 |skip _ _ a=>exact a
 |rH _ r1 _ a=>exact r1.sm.trans a
theorem iU.sm{l:List Int}{k:Kv}(r:iU e l k k'):Sm k k':=by
 induction r with
 |nil _=>exact Sm.refl _
 |no _ _ a=>exact a
 |drop _ L _ _ a=>exact(MO _ _ _ L).trans a
theorem pH.sm{o:Int}{k:Kv}(r:pH e o k k'):Sm k k':=by
 cases r with
 |no _ h=>rw[h];exact Sm.refl _
 |keep _ r _=>exact r.sm
 |rH _ r _ a=>exact r.sm.trans a.sm
theorem KI.sm{k:Kv}(h:KI k n)(s:Sm k k'):KI k' n:=
 ⟨by rw[s.s];exact h.sd,by rw[s.s];exact h.p4,by rw[s.c];exact h.cn,aaR s.t.length_le h.tl,h.tu.sublist s.t,λx a=>h.bb x (s.b.subset a),h.bu.sublist s.b,by rw[s.f];exact h.f6,by rw[s.n];exact h.an⟩
theorem KI.LH{k:Kv}(h:KI k n)(hs:gE s)(hp:s.P.length=4):KI {k with s:=s} n:=⟨hs,hp,h.cn,h.tl,h.tu,h.bb,h.bu,h.f6,h.an⟩
theorem GM(h:gE s)(hp:s.P.length=4)(e:Int)(b:Bool):gE (gS s e b)/\(gS s e b).P.length=4:=by
 unfold gS;split
 .exact⟨h.zT _ _,by show(List.modify _ _ _).length=4;rw[ab9];exact hp⟩
 .exact⟨h,hp⟩
theorem KI.tell{k:Kv}(h:KI k n)(e:Int):KI (fI k e) n:=by
 unfold fI;split
 .obtain⟨h1,a⟩:=GM h.sd h.p4 e true;exact h.LH h1 a
 .exact h
theorem KI.tJ(l:List Int):∀{k:Kv},KI k n->KI (eZ k l) n:=by
 induction l with
 |nil=>intro k h;exact h
 |cons e l a=>intro k h;exact a (h.tell e)
theorem GZ(h:gE s)(hp:s.P.length=4)(e bu pe:Int):gE (kK s e bu pe)/\(kK s e bu pe).P.length=4:=by
 unfold kK;split
 .rename_i hi;have hi:=acC hi;refine⟨h.res aQ bu pe,?_⟩;unfold pK;split
  .show(List.modify _ _ _).length=4;rw[ab9];exact hp
  .exact hp
 .exact⟨h,hp⟩
theorem VA(h:gE s)(hp:s.P.length=4)(e:Int):gE (lU s e)/\(lU s e).P.length=4:=by
 unfold lU;cases a:rO s e with
 |none=>exact⟨h,hp⟩
 |some v=>
  simp only;unfold rO at a;split at a
  .cases hq:s.P[e.toNat]? with
   |none=>rw[hq] at a;cases a
   |some p=>
    rw[hq] at a;refine⟨h.rel hq a,?_⟩;show(List.modify _ _ _).length=4;rw[ab9];exact hp
  .cases a
theorem KI.put{k:Kv}(h:KI k n)(e s kd ob rt pf:Int):KI {k with c:=(dM k.c e s kd ob rt pf).2} (n+1):=by
 have h1:=BJ h.cn.1 e s kd ob rt pf;have a:=h.cn;exact⟨h.sd,h.p4,⟨h1.1,by have:=h1.2;show(dM k.c e s kd ob rt pf).2.n<=((n+1:Nat):Int);omega⟩,h.tl,h.tu,h.bb,h.bu,h.f6,Nat.le_succ_of_le h.an⟩
theorem KI.pass{k:Kv}(h:KI k n)(env from_ other to_ rights more:Int):KI {k with c:=(iC k.c env from_ other to_ rights more).2} (n+1):=by
 rcases SY (C:=k.c) (env:=env) (from_:=from_) (other:=other) (to_:=to_) (rights:=rights) (more:=more) with a|⟨i,_,_,_,_,b⟩
 .rw[a];exact h.mono (ab2 _)
 .rw[b];exact h.put _ _ _ _ _ _
theorem nV.ki{k:Kv}{A B C D:Int}(h:KI k n)(r:nV k e op A B C D N E k'):KI k' (n+1):=by
 have hs:=h.mono (ab2 n);cases r with
 |alloc _=>
  unfold pS;split
  .exact hs
  .split
   .exact hs
   .split
    .rename_i b;have:kG k.f=k.f:=by unfold kG;rw[b]
     rw[this];exact hs
    .rename_i i b;have hp:=h.put e A 1 i 15 0;have c:(kG k.f).n=6:=by
      unfold kG;rw[b];exact h.f6
     split <;> exact⟨hp.sd,hp.p4,hp.cn,hp.tl,hp.tu,hp.bb,hp.bu,c,hp.an⟩
 |free _ r=>
  unfold yA at r;split at r
  .rw[r.2];exact hs
  .exact hs.sm r.2.sm
 |read _=>exact hs
 |write _=>
  unfold sY;split
  .exact hs
  .rename_i x _;split
   .exact hs
   .have:=(S9 k.f x.ob B (C%256)).1;exact⟨hs.sd,hs.p4,hs.cn,hs.tl,hs.tu,hs.bb,hs.bu,this.trans h.f6,hs.an⟩
 |load _=>
  unfold qQ;split
  .exact hs
  .split
   .exact hs
   .exact⟨hs.sd,hs.p4,hs.cn,Mz h.tl _,Ni h.tu _,hs.bb,hs.bu,hs.f6,hs.an⟩
 |ER _=>exact hs.sm ⟨rfl,rfl,rfl,List.filter_sublist,adD _,rfl,rfl⟩
 |hand _ r=>
  unfold iL at r;split at r
  .injection r with _ r;rw[r];exact h.pass _ _ _ _ _ _
  .split at r
   .split at r
    .injection r with _ r;rw[r];exact h.pass _ _ _ _ _ _
    .rw[r.2];exact hs
   .split at r
    .unfold yI at r;split at r
     .rw[r.2];exact hs
     .obtain⟨_,L,_,rfl⟩:=r;exact hs.sm (MO _ _ _ L)
    .unfold GQ at r;split at r
     .rw[r.2];exact hs
     .obtain⟨_,L,_,d⟩:=r;exact hs.sm ((MO _ _ _ L).trans d.sm)
 |line _=>exact hs
 |vM _ hm=>exact⟨hs.sd,hs.p4,hs.cn,hs.tl,hs.tu,hs.bb,hs.bu,hs.f6,by have:=h.an;have:=hm.2;show(_:Nat)<=n+1;simp only;omega⟩
 |time _ r=>
  unfold qM at r;split at r
  .rw[r.2];obtain⟨h1,a⟩:=GZ h.sd h.p4 e C D;exact hs.LH h1 a
  .split at r
   .rw[r.2];obtain⟨h1,a⟩:=VA h.sd h.p4 e;exact hs.LH h1 a
   .rcases r with rfl|rfl
    .exact hs
    .obtain⟨h1,a⟩:=GM h.sd h.p4 e false;exact hs.LH h1 a
 |send _ r=>
  rcases r with rfl|⟨o,rfl⟩
  .exact hs
  .exact hs.tell o
 |next _ _=>exact hs
 |null _=>exact hs
theorem kD.ki{l:List Nt}{k:Kv}(r:kD l k k'):KI k n->KI k' n:=by
 induction r with
 |nil _=>exact λh=>h
 |cons r1 _ a=>exact λh=>a ((h.sm r1.sm).tell _)
theorem jV.ki{k:Kv}(h:KI k n)(r:jV k k'):KI k' n:=by
 obtain⟨l1,a,T,e,_,ho,rfl⟩:=r;have h1:=h.tJ l1;have c:KI {eZ k l1 with b:=k.b.filter λx=>decide (k.s.nw<x.bO),v:=T.foldl pD k.v} n:=
  ⟨h1.sd,h1.p4,h1.cn,h1.tl,h1.tu,λx d=>h.bb x (acW.1 d).1,h.bu.filter _,h1.f6,h1.an⟩
 exact(ho.ki c).tJ a
theorem Iu{k:Kv}(h:KI k n)(e o gr:Int):KI (jQ k e o gr).2 n:=by
 unfold jQ;split
 .exact h
 .rename_i hc;split
  .exact h
  .split
   .exact h
   .rename_i hw;refine KI.tell ?_ e;have hw:(gP k.b e o k.s.nw gr).1=0:=aa4 hw;have he:(0<=e/\e<4)/\0<=o/\o<6:=by
     simp only[Bool.not_eq_true',not_or,oZ,decide_eq_false_iff_not,Decidable.not_not] at hc;omega
    unfold gP at hw;split at hw
    .rename_i f;split at hw
     .cases hw
     .rename_i hp;have c:(gP k.b e o k.s.nw gr).2=k.b++ [⟨e,o,k.s.nw+gr,0⟩]:=by
       unfold gP;rw[aaK f,aaL hp]
      refine⟨h.sd,h.p4,h.cn,h.tl,h.tu,λx a=>?_,?_,h.f6,h.an⟩
      .replace a:x∈(gP k.b e o k.s.nw gr).2:=a;rw[c] at a;rcases aa8.1 a with a|a
       .exact h.bb x a
       .rw[aaZ.1 a];exact he
      .show List.Pairwise _ (gP k.b e o k.s.nw gr).2;rw[c,abH];refine⟨h.bu,ac8 _ _,λx a y g=>?_⟩;rw[aaZ.1 g];intro d;have j:NB k.b e o=none:=by
        unfold rA at hp;cases hq:NB k.b e o with
        |none=>rfl
        |some i=>rw[hq] at hp;simp only at hp;omega
       have:=abP.1 j x a;unfold tY at this;simp[d.1,d.2] at this
    .cases hw
end
variable{A A9:Option aJ}{F:Nat->Prop}{sz m g n0 c9 cw:Nat}{w w' wr wb w9:aA}{D:List (Int×Int)}
section
def jU(A:Option aJ)(n:Nat):Option Nat:=if n=0 then none else aZ A
theorem MJ(h:∀q,aZ A=some q->F q)(n:Nat):∀q,jU A n=some q->F q:=λq hq=>by
 unfold jU at hq;split at hq
 .cases hq
 .exact h q hq
theorem tN:∀q,jU A 0=some q->F q:=λq hq=>by unfold jU at hq;cases hq
theorem Sl.xC{α:Type}{enc:α->List aC}{xs:List α}(h:Sl enc sz w A xs)(hk:Kp F w w')(hF:∀q,jU A xs.length=some q->F q):Sl enc sz w' A xs:=λc=>by
 obtain⟨b,off,a,hc⟩:=h c;exact⟨b,off,a,λi x j u d hu=>hk.cell (hc i x j u d hu) (hF b (by unfold jU;rw[aaL aQ,a];rfl))⟩
def nJ(x:Int):Int:=((x.toNat%256:Nat):Int)
def aW(x:Int):Int:=((x.toNat /256%256:Nat):Int)
def bW(x:Int):Int:=((x.toNat /65536%256:Nat):Int)
def cW(x:Int):Int:=((x.toNat /16777216%1048576:Nat):Int)
def dW(x:Int):Int:=((x.toNat /17592186044416:Nat):Int)
def sR(x:Int):Bool:=Pa.dI (nJ x) (aW x) (bW x) (cW x) (dW x)
theorem Dx(x:Int)(b:0<=x/\x<18446744073709551616)(w:aA):aG prog 118 #[.int .u64 x] w λe w'=>e= .returned (if sR x then .tuple #[.agg #[.int .i64 (nJ x), .int .i64 (aW x), .int .i64 (bW x), .int .i64 (cW x), .int .i64 (dW x)],aU] else .tuple #[.agg #[aU,aU,aU,aU,aU], .int .i64 21])/\aD w w w':=by
 obtain⟨n,rfl⟩:=aaO b.1;have a:n<18446744073709551616:=aQ;exact Pa.Dw n _ _ _ _ _ w a (Pa.YZ n a) aQ _ rfl
def sO(c e:Int)(i:Nat)(x:Int)(k:Kv)(N E:Int)(k':Kv):Prop:=
 if c<=i then N=0/\E=22/\k'=k
 else if sR x then nV k e (nJ x) (aW x) (bW x) (cW x) (dW x) N E k'\/(N=0/\E=1/\k'=k)
 else N=0/\E=21/\k'=k
inductive xO (c e:Int) (k:Kv):List Int->List (Int×Int)->Kv->Prop
 |nil:xO c e k [] [] k
 |snoc {ws:List Int} {D:List (Int×Int)} {k1 k2:Kv} {N E:Int} (r:xO c e k ws D k1) (x:Int) (h:sO c e ws.length x k1 N E k2):xO c e k (ws++ [x]) (D++ [(N,E)]) k2
def sU(x:Int×Int):List aC:= [.int .u64 x.1, .int .i64 x.2]
theorem yP:eY sU 2:=⟨λ_=>rfl,λx u hu=>by simp[sU] at hu;rcases hu with rfl|rfl <;> rfl⟩
theorem Fi:jM prog 70 227 2 16:=gA (z:= .agg #[cO,aU]) underlying70 aV (by simp[Value.cells]) aQ
theorem sO.ki{c:Int}{x:Int}{k:Kv}(r:sO c e i x k N E k')(h:KI k n):KI k' (n+1):=by
 unfold sO at r;split at r
 .rw[r.2.2];exact h.mono (ab2 _)
 .split at r
  .rcases r with r|r
   .exact r.ki h
   .rw[r.2.2];exact h.mono (ab2 _)
  .rw[r.2.2];exact h.mono (ab2 _)
structure IE(F:Nat->Prop)(w wr:aA)(m g:Nat)(c e:Int)(k:Kv)(n0:Nat)(ws:List Int)(A:Option aJ)(c2:Nat)(D:List (Int×Int))(k1:Kv):Prop where
 r:xO c e k ws D k1
 i:KI k1 (n0+ws.length)
 o:bB sU 2 wr w.heap.size 227 A c2 D
 s:gC (cB F A) wr m g c k1
 k:Kp F w wr
theorem IE.app{c:Int}{k:Kv}{ws:List Int}{c2:Nat}{x:Int}(h:IE F w wr m g c e k n0 ws A c2 D k1)(fl:Ol F w)(d:sO c e ws.length x k1 N E k2)
 (hs:gC (cB F A) wb m g c k2) (hk:Kp F w wb) (t:w.heap.size<=wb.heap.size) (a:bB sU 2 w9 w.heap.size 227 A9 c9 (D++ [(N,E)])) (f:wb.grownBy w9 (aZ A)) (j:aZ A9=aZ A\/aZ A9=some wb.heap.size):IE F w w9 m g c e k n0 (ws++ [x]) A9 c9 (D++ [(N,E)]) k2:=by
 obtain⟨l,n⟩:=dV.app (gC.bX m g c k2) hs (fl.kp hk) (λb p s=>by have:=(h.o.lt b s).1;have:=fl b p;omega) f j (λq hq=>(a.lt q hq).2);refine⟨h.r.snoc x d,?_,a,l,hk.trans n⟩;have:=d.ki h.i;rw[aaT,ac5,<-abV];exact this
def Mf(F:Nat->Prop)(m g:Nat)(c e:Int)(k:Kv)(n0:Nat)(ws:List Int)(w:aA)(r:Ending)(w':aA):Prop:=∃(A:Option aJ) (c2 n:Nat) (D:List (Int×Int)) (k1:Kv),r= .returned (.slice A n c2)/\n=D.length/\IE F w w' m g c e k n0 ws A c2 D k1
theorem Jx{c:Int}{k:Kv}(h:gC F w m g c k)(hI:KI k n0)(e:Int){ws:List Int}(hs:Sl eU 1 w A ws)(hA:∀q,jU A ws.length=some q->F q)(hw:∀x∈ws,0<=x/\x<18446744073709551616)(hn:n0+ws.length<999999):aG prog 79 #[.pointer m,e,(A,ws.length,cw)] w (Mf F m g c e k n0 ws w):=by
 have fl:Ol F w:=by
  obtain⟨_,_,h⟩:=h;exact h.fl
 have HF:=aP fl;have HS:=cZ hs hA hw;have HQ:aH (IE F w w m g c e k n0 [] none 0 [] k):=⟨.nil,hI,bB.nil _ _ _,(by
  obtain⟨X,a,h⟩:=h;exact⟨X,a,h.less (λb p=>by rcases p with p|p;exact p;cases p)⟩),Kp.refl _ _⟩
 have HN:=aP hn;have hl:ws.length<=1000000:=aQ;clear h hI hs hA hw fl hn;go_enter func79,ntmps79
 go_wp2_with fail
 go_loopw [7,15] (λv7 Y wr=>∃(i n:Nat) (J:Option aJ) (c2:Nat) (D:List (Int×Int)),Y= .int .i64 i/\v7= .slice J n c2/\i<=ws.length/\n<=i/\aH (n=D.length/\∃j,IE F w wr m g c e k n0 (ws.take i) J c2 D j)) (λ_ Y _=>ws.length - (aL Y).toNat)
 case atStart=>exact⟨0,0,none,0, [],rfl,rfl,aaQ _,aaH _,rfl,k,HQ.o⟩
 case round=>
  clear HQ;obtain⟨i,n,J,c2,D,rfl,rfl,hi,hni,y⟩:=hrel;obtain⟨Z,j,hx⟩:=y.o;clear y;have y:=aP hx;have z:=aP Z;by_cases a1:i<ws.length
  .obtain⟨b,off,rfl,B⟩:=(HS.o.1.xC hx.k HS.o.2.1).Bz a1;have HXW:=aP (HS.o.2.2 ws[i] (aaM a1));have a6:aH (ws.take (i+1)=ws.take i++ [ws[i]]):=by unfold aH;rw[abN,aaG a1];rfl
   have L:aH ((ws.take i).length=i):=by unfold aH;rw[aa9];omega
   have i0:(0:Int)<=i:=aQ;have i1:(i:Int)<(ws.length:Int):=aQ;have K:aH (w.heap.size<=wr.heap.size):=hx.k.size;obtain⟨X,a,a7⟩:=hx.s;have m1:=a7.c1;have t:=aP a7;generalize ws[i]=x at *;clear hx Z a7;by_cases hc:c<=(i:Int)
   .have HO:aH (sO c e (ws.take i).length x j 0 22 j):=by
     unfold aH sO;rw[L.o,aaK hc];exact⟨rfl,rfl,rfl⟩
    go_upto_region 6 with(fail)
    clear B m1;go_wp2_with(at_builtin;refine bN _ rfl _ _ rfl Fi yP (y.o.o.alloc _) (n:=n) z.o.symm rfl (m:=1) rfl (ys:= [(0,22)]) rfl (Sl.gK yP wr (0,22) _ rfl _ aT) dT aQ (aaR K.o aT) _ rfl (n+1) rfl ?_;intro P c9 w9 d u v)
    have f:=aX wr (aI #[cO, .int .i64 22] 227);have HE:aH (n+1=(D++ [((0:Int),(22:Int))]).length/\∃j,IE F w w9 m g c e k n0 (ws.take (i+1)) P c9 (D++ [(0,22)]) j):=by
     refine⟨by rw[aaT,<-z.o];rfl,j,?_⟩;rw[a6.o];exact y.o.app HF.o HO.o ⟨X,a,(t.o.below f).1⟩ (y.o.k.trans ((t.o.below f).2.mono λb p=> .inl p)) (aaR K.o f.size) d u v
    clear d u v f;go_roundw
    case rel=>exact⟨i+1,n+1,P,c9,_,by go_num,rfl,aQ,aQ,HE.o⟩
    case measure=>simp[aL];omega
   .have I:=Dx x HXW.o wr;have HC:=aP hc;cases hr:sR x with
    |false=>
     rw[hr] at I;simp only[abB,ab4] at I;have I:=aP I;have HO:aH (sO c e (ws.take i).length x j 0 21 j):=by
      unfold aH sO;rw[L.o,aaL HC.o,hr];exact⟨rfl,rfl,rfl⟩
     clear hr;go_wp2_with fail
     refine aR I ?_;rintro r w2 ⟨rfl,l⟩;clear I m1 B;go_upto_region 9 with(fail)
     have f:aH (aD wr wr (w2.alloc (aI #[aU,aU,aU,aU,aU] 281))):=l.alloc l.size _;generalize w2.alloc (aI #[aU,aU,aU,aU,aU] 281)=Q at *;have HO3:aH (bB sU 2 Q w.heap.size 227 J c2 D):=y.o.o.keep f.o;have hz3:aH (w.heap.size<=Q.heap.size):=aaR K.o f.o.size;clear l;go_wp2_with(at_builtin;refine bN _ rfl _ _ rfl Fi yP (HO3.o.alloc _) (n:=n) z.o.symm rfl (m:=1) rfl (ys:= [(0,21)]) rfl (Sl.gK yP Q (0,21) _ rfl _ aT) dT aQ (aaR hz3.o aT) _ rfl (n+1) rfl ?_;intro P c9 w9 d u v)
     have H:=f.o.alloc f.o.size (aI #[cO, .int .i64 21] 227);have HE:aH (n+1=(D++ [((0:Int),(21:Int))]).length/\∃j,IE F w w9 m g c e k n0 (ws.take (i+1)) P c9 (D++ [(0,21)]) j):=by
      refine⟨by rw[aaT,<-z.o];rfl,j,?_⟩;rw[a6.o];exact y.o.app HF.o HO.o ⟨X,a,(t.o.below H).1⟩ (y.o.k.trans ((t.o.below H).2.mono λb p=> .inl p)) (aaR K.o H.size) d u v
     clear d u v H;go_roundw
     case rel=>exact⟨i+1,n+1,P,c9,_,by go_num,rfl,aQ,aQ,HE.o⟩
     case measure=>simp[aL];omega
    |true=>
     rw[hr] at I;simp only[acY] at I;have HO:aH (∀N E C,(nV j e (nJ x) (aW x) (bW x) (cW x) (dW x) N E C\/(N=0/\E=1/\C=j))->sO c e (ws.take i).length x j N E C):=λN E C h=>by
      unfold sO;rw[L.o,aaL HC.o,hr];exact h
     have HDo:aH (∀(G:Nat->Prop) (W:aA) (a:Ka),bJ G W g a j->aG prog 119 #[.pointer g,e, .agg #[.int .i64 (nJ x), .int .i64 (aW x), .int .i64 (bW x), .int .i64 (cW x), .int .i64 (dW x)]] W (dP G g j e (nJ x) (aW x) (bW x) (cW x) (dW x) W)):=λG W a hk=>by
      have h1:=y.o.i;have h2:=L.o;have h3:=HN.o;refine Nv hk (h1.kw aQ) ?_ e _ _ _ _ _;have:=h1.an;omega
     clear hr;generalize nJ x=R at *;generalize aW x=S at *;generalize bW x=T at *;generalize cW x=U at *;generalize dW x=V at *;have I:=aP I;go_wp2_with fail
     refine aR I ?_;rintro r w2 ⟨rfl,l⟩;clear I m1 B;go_upto_region 10 with(fail)
     have bb:=bC.new w2 281 #[R,S,T,U,V];have H3:=aP (And.intro ((iD.bX m g c X a j).box (t.o.below l).1 (t.o.below l).1.fl (aI #[R,S,T,U,V] 281)) ((t.o.below l).2.trans ((t.o.below l).1.below (aX w2 (aI #[R,S,T,U,V] 281))).2));generalize w2.alloc (aI #[R,S,T,U,V] 281)=Q at *;generalize w2.heap.size=q3 at *;have m0:=H3.o.1.c0;have x0:=bb.cell 0 R rfl;have x1:=bb.cell 1 S rfl;have x2:=bb.cell 2 T rfl;have x3:=bb.cell 3 U rfl;have x4:=bb.cell 4 V rfl;have HDR:aH (aG prog 119 #[.pointer g,e, .agg #[R,S,T,U,V]] Q.drew λr w'=>∃(N E:Int) (C:Kv) (a2:Ka),r= .returned (.tuple #[.int .u64 N, .int .i64 E])/\aH (nV j e R S T U V N E C\/(N=0/\E=1/\C=j))/\aH (iD (Fb (cB F J) q3) w' m g c X a2 C/\Kp (Fb (cB F J) q3) Q w')):=by
      have hd:=H3.o.1.below (Below.refl Q Q).drew;obtain⟨G,hk,back⟩:=hd.1.kn;refine(HDo.o G _ a hk).mono ?_;rintro r w' ⟨N,E,C,hdo,rfl,⟨a2,h2⟩,k2'⟩;obtain⟨b1,b2⟩:=back a2 C w' h2 k2';exact⟨N,E,C,a2,rfl,hdo,b1,hd.2.trans b2⟩
     clear HDo l bb;go_region_held3 (λW=>W.cell? (m,0)=some (.pointer g)/\W.cell? (q3,0)=some (.int .i64 R)/\W.cell? (q3,1)=some (.int .i64 S)/\W.cell? (q3,2)=some (.int .i64 T)/\W.cell? (q3,3)=some (.int .i64 U)/\W.cell? (q3,4)=some (.int .i64 V)) (first|with_reducible exact⟨‹_›,‹_›,‹_›,‹_›,‹_›,‹_›⟩|exact⟨m0,x0,x1,x2,x3,x4⟩|fail) ((go_at_call 119;(refine aR HDR ?_);rintro r w4 ⟨N,E,C,a2,rfl,HDD,M⟩;(have m04:=M.o.1.c0);(have x04:=M.o.2.cell x0 (.inr rfl));(have x14:=M.o.2.cell x1 (.inr rfl));(have x24:=M.o.2.cell x2 (.inr rfl));(have x34:=M.o.2.cell x3 (.inr rfl));(have x44:=M.o.2.cell x4 (.inr rfl))))
     have O:aH (gC (cB F J) w4 m g c C/\Kp (cB F J) wr w4):=⟨⟨X,a2,M.o.1.less (λb p=> .inl p)⟩,H3.o.2.trans (M.o.2.mono λb p=> .inl p)⟩
     have HO4:aH (bB sU 2 w4 w.heap.size 227 J c2 D):=y.o.o.kp O.o.2 (λq hq=> .inr hq);have hz4:aH (w.heap.size<=w4.heap.size):=aaR K.o O.o.2.size;have HOO:=aP (HO.o N E C HDD.o);clear M H3 HDR m0 x0 x1 x2 x3 x4 m04 x04 x14 x24 x34 x44 HO HDD;go_wp2_with(at_builtin;refine bN _ rfl _ _ rfl Fi yP (HO4.o.alloc _) (n:=n) z.o.symm rfl (m:=1) rfl (ys:= [(N,E)]) rfl (Sl.gK yP w4 (N,E) _ rfl _ aT) dT aQ (aaR hz4.o aT) _ rfl (n+1) rfl ?_;intro P c9 w9 d u v)
     have HE:aH (n+1=(D++ [(N,E)]).length/\∃j,IE F w w9 m g c e k n0 (ws.take (i+1)) P c9 (D++ [(N,E)]) j):=by
      refine⟨by rw[aaT,<-z.o];rfl,C,?_⟩;rw[a6.o];obtain⟨bs4,a4,h4⟩:=O.o.1;have f:=h4.below (aX w4 (aI #[.int .u64 N, .int .i64 E] 227));exact y.o.app HF.o HOO.o ⟨bs4,a4,f.1⟩ ((y.o.k.trans (O.o.2.mono λb p=> .inl p)).trans (f.2.mono λb p=> .inl p)) (aaR hz4.o (aX w4 _).size) d u v
     clear d u v;go_roundw
     case rel=>exact⟨i+1,n+1,P,c9,_,by go_num,rfl,aQ,aQ,HE.o⟩
     case measure=>simp[aL];omega
  .obtain rfl:i=ws.length:=aQ;have i1:¬(ws.length:Int)<(ws.length:Int):=aQ;have HE:aH (Mf F m g c e k n0 ws w (.returned (.slice J n c2)) wr):=⟨J,c2,n,D,j,rfl,z.o,by have:=y.o;rw[acJ] at this;exact this⟩
   clear y hx Z;go_wp2_with fail
   go_ret
   exact HE.o
end
variable{X:(Nat->Prop)->aA->Prop}{H G F5:Nat->Prop}{r:Option Nat}{AR AW AX:Option aJ}{ws:List (Int×Int×Int)}{ja:List Bool}{W W' w8:aA}{q q1 cA q3 q5 cR cX:Nat}{kE:Kv}{DA:List (Int×Int)}
section
theorem Ia:jM prog 71 45 1 8:=gA (z:= .int .i64 0) underlying71 aV (by simp[Value.cells]) aQ
theorem XR{a:Ka}{k:Kv}(h:bJ F w g a k)(i:Int):aG prog 74 #[.pointer a.gi,i] w λr w'=>∃(v:Int) (a':Ka),r= .returned (.int .i64 v)/\bJ F w' g a' k/\Kp F w w':=by
 obtain⟨G,b,back⟩:=h.ir;refine(Bu b i).mono ?_;rintro r w' ⟨v,L,rfl,d,e,k2⟩;obtain⟨b1,b2⟩:=back L w' d e k2;exact⟨v,_,rfl,b1,b2⟩
def pC(A2:Option aJ)(n2 c2:Nat)(A3:Option aJ)(n3 c3:Nat):Array aC:=#[aU,false,bA,(A2,n2,c2),(A3,n3,c3)]
structure oF(G:Nat->Prop)(w3 wr:aA)(q3 m g:Nat)(c:Int)(A2:Option aJ)(c2:Nat)(D:List Int)(A3:Option aJ)(c3:Nat)(E:List Int)(k:Kv):Prop where
 s:gC (cB (cB (Fb G q3) A2) A3) wr m g c k
 k:Kp G w3 wr
 b:bC wr q3 73 (pC A2 D.length c2 A3 E.length c3)
 o2:bB eI 1 wr w3.heap.size 45 A2 c2 D
 o3:bB eI 1 wr w3.heap.size 45 A3 c3 E
 ap:aZ A2=none\/aZ A2≠aZ A3
section
variable{G:Nat->Prop}{w3 wr wb w9:aA}{q3 m g:Nat}{c:Int}{A2 A3 A9:Option aJ}{c2 c3 c9:Nat}{D E:List Int}{k k2:Kv}
theorem oF.eV(h:oF G w3 wr q3 m g c A2 c2 D A3 c3 E k)(hs:gC (cB (cB (Fb G q3) A2) A3) wb m g c k2)(kp:Kp (cB (cB (Fb G q3) A2) A3) wr wb):oF G w3 wb q3 m g c A2 c2 D A3 c3 E k2:=
 ⟨hs,h.k.trans (kp.mono λb a=> .inl (.inl (.inl a))),kp.aZ h.b (.inl (.inl (.inr rfl))),h.o2.kp kp (λq hq=> .inl (.inr hq)),h.o3.kp kp (λq hq=> .inr hq),h.ap⟩
theorem oF.below(h:oF G w3 wr q3 m g c A2 c2 D A3 c3 E k)(b:aD wr wr wb):oF G w3 wb q3 m g c A2 c2 D A3 c3 E k:=by
 obtain⟨d,a,hs⟩:=h.s;exact h.eV ⟨d,a,(hs.below b).1⟩ (hs.below b).2
theorem dV.gr(M:dV X)(h:X F w)(f:w.grownBy w' r)(i:∀q,r=some q->F q)(fl:Ol H w')(hH:∀b,b<w.heap.size->H b->F b):X H w':=
 M F (λb=>b<w.heap.size/\some b≠r) H w w' h (Kp.grown f λb j=>j) (λx a d=>⟨a,λe=>d (i x e.symm)⟩) fl (λx a d hc=>d (hH x a hc))
theorem oF.Gu(h:oF G w3 wb q3 m g c A2 c2 D A3 c3 E k)(fl:Ol G w3)(hq:q3<w3.heap.size)(x:¬G q3){v:Int}(d:bB eI 1 w9 w3.heap.size 45 A9 c9 (D++ [v]))(o:wb.grownBy w9 (aZ A2))(i:aZ A9=aZ A2\/aZ A9=some wb.heap.size)(y:n=(D++ [v]).length):w9.cell? (q3,3)=some (.slice A2 D.length c2)/\w9.frozen? (q3,3)=false/\oF G w3 (w9.setCell (q3,3) (.slice A9 n c9)) q3 m g c A9 c9 (D++ [v]) A3 c3 E k:=by
 subst y;have l:Kp G wb w9:=Kp.grown o λb a=>⟨aaJ (fl b a) h.k.size,λe=>by have:=(h.o2.lt b e.symm).1;have:=fl b a;omega⟩
 have j:bC w9 q3 73 (pC A2 D.length c2 A3 E.length c3):=(o.block q3 h.b.lt (λe=>by have:=(h.o2.lt q3 e.symm).1;omega)).trans h.b;have t:=h.o3.kept o (by
  rcases h.ap with e|e
  .cases p:aZ A3 with
   |none=>exact .inl rfl
   |some q=>exact .inr (by rw[e];intro hc;cases hc)
  .exact .inr (λhc=>e hc.symm))
 have u:∀q,aZ A9=some q->q<w9.heap.size:=λq hq=>(d.lt q hq).2
 have r:gC (cB (cB (Fb G q3) A9) A3) w9 m g c k:=dV.gr (gC.bX m g c k) h.s o (λq hq=> .inl (.inr hq)) (λb a=>by
  rcases a with(a|a)|a
  .rcases a with a|rfl
   .exact aaJ (fl b a) (aaR h.k.size l.size)
   .exact j.lt
  .exact u b a
  .exact(t.lt b a).2) (λb z a=>by
  rcases a with(a|a)|a
  .exact .inl (.inl a)
  .rcases i with i|i
   .exact .inl (.inr (i.symm.trans a))
   .rw[i] at a;injection a with a;omega
  .exact .inr a)
 have f:w9.grownBy (w9.setCell (q3,3) (.slice A9 (D++ [v]).length c9)) (some q3):=aY (bE w9 q3) 3 _;refine⟨j.cell 3 _ rfl,j.frozen 3,?_,(h.k.trans l).trans (Kp.grown f λb a=>⟨aaJ (fl b a) (aaR h.k.size l.size),λe=>x (by injection e with e;rw[<-e];exact a)⟩),?_,?_,?_,?_⟩
 .exact dV.gr (gC.bX m g c k) r f (λq hq=>by injection hq with hq;rw[<-hq];exact .inl (.inl (.inr rfl))) (λb a=>by
   obtain⟨_,_,r⟩:=r;exact aaJ (r.fl b a) f.size) (λb _ a=>a)
 .have:=j.bQ 3 (.slice A9 (D++ [v]).length c9);exact this
 .exact(d).kept f (by
   cases p:aZ A9 with
   |none=>exact .inl rfl
   |some q=>exact .inr (λe=>by injection e with e;have:=(d.lt q p).1;omega))
 .exact(t).kept f (by
   cases p:aZ A3 with
   |none=>exact .inl rfl
   |some q=>exact .inr (λe=>by injection e with e;have:=(t.lt q p).1;omega))
 .rcases i with i|i
  .rw[i];exact h.ap
  .refine .inr (λe=>?_);rw[i] at e;have:=(h.o3.lt _ e.symm).2;omega
theorem oF.Jr(h:oF G w3 wb q3 m g c A2 c2 D A3 c3 E k)(fl:Ol G w3)(hq:q3<w3.heap.size)(x:¬G q3){v:Int}(d:bB eI 1 w9 w3.heap.size 45 A9 c9 (E++ [v]))(p:wb.grownBy w9 (aZ A3))(i:aZ A9=aZ A3\/aZ A9=some wb.heap.size)(y:n=(E++ [v]).length):w9.cell? (q3,4)=some (.slice A3 E.length c3)/\w9.frozen? (q3,4)=false/\oF G w3 (w9.setCell (q3,4) (.slice A9 n c9)) q3 m g c A2 c2 D A9 c9 (E++ [v]) k:=by
 subst y;have l:Kp G wb w9:=Kp.grown p λb a=>⟨aaJ (fl b a) h.k.size,λe=>by have:=(h.o3.lt b e.symm).1;have:=fl b a;omega⟩
 have j:bC w9 q3 73 (pC A2 D.length c2 A3 E.length c3):=(p.block q3 h.b.lt (λe=>by have:=(h.o3.lt q3 e.symm).1;omega)).trans h.b;have t:=h.o2.kept p (h.ap);have u:∀q,aZ A9=some q->q<w9.heap.size:=λq hq=>(d.lt q hq).2
 have r:gC (cB (cB (Fb G q3) A2) A9) w9 m g c k:=dV.gr (gC.bX m g c k) h.s p (λq hq=> .inr hq) (λb a=>by
  rcases a with(a|a)|a
  .rcases a with a|rfl
   .exact aaJ (fl b a) (aaR h.k.size l.size)
   .exact j.lt
  .exact(t.lt b a).2
  .exact u b a) (λb z a=>by
  rcases a with(a|a)|a
  .exact .inl (.inl a)
  .exact .inl (.inr a)
  .rcases i with i|i
   .exact .inr (i.symm.trans a)
   .rw[i] at a;injection a with a;omega)
 have f:w9.grownBy (w9.setCell (q3,4) (.slice A9 (E++ [v]).length c9)) (some q3):=aY (bE w9 q3) 4 _;refine⟨j.cell 4 _ rfl,j.frozen 4,?_,(h.k.trans l).trans (Kp.grown f λb a=>⟨aaJ (fl b a) (aaR h.k.size l.size),λe=>x (by injection e with e;rw[<-e];exact a)⟩),?_,?_,?_,?_⟩
 .exact dV.gr (gC.bX m g c k) r f (λq hq=>by injection hq with hq;rw[<-hq];exact .inl (.inl (.inr rfl))) (λb a=>by
   obtain⟨_,_,r⟩:=r;exact aaJ (r.fl b a) f.size) (λb _ a=>a)
 .have:=j.bQ 4 (.slice A9 (E++ [v]).length c9);exact this
 .exact(t).kept f (by
   cases o:aZ A2 with
   |none=>exact .inl rfl
   |some q=>exact .inr (λe=>by injection e with e;have:=(t.lt q o).1;omega))
 .exact(d).kept f (by
   cases o:aZ A9 with
   |none=>exact .inl rfl
   |some q=>exact .inr (λe=>by injection e with e;have:=(d.lt q o).1;omega))
 .rcases i with i|i
  .rw[i];exact h.ap
  .cases o:aZ A2 with
   |none=>exact .inl rfl
   |some q=>
    refine .inr (λe=>?_);rw[i] at e;injection e with e;have:=(h.o2.lt q o).2;omega
end
def kR(x:Int×Int×Int):List aC:= [.int .i64 x.1, .int .i64 x.2.1, .int .i64 x.2.2]
theorem uW:eY kR 3:=⟨λ_=>rfl,λx u hu=>by simp[kR] at hu;rcases hu with rfl|rfl|rfl <;> rfl⟩
theorem Sl.GU{xs:List (Int×Int×Int)}(h:Sl kR 3 w A xs)(hi:i<xs.length):
 ∃b off,A=some ⟨b,off,none⟩/\w.cell? ⟨b,off+i *3,none⟩=some (.int .i64 xs[i].1)/\w.cell? ⟨b,off+i *3+1,none⟩=some (.int .i64 xs[i].2.1)/\w.cell? ⟨b,off+i *3+2,none⟩=some (.int .i64 xs[i].2.2):=by
 obtain⟨b,off,a,hc⟩:=h.at_ hi;exact⟨b,off,a,by simpa using hc 0 _ (show(kR xs[i])[0]?=some (.int .i64 xs[i].1) from rfl),by simpa[abV] using hc 1 _ (show(kR xs[i])[1]?=some (.int .i64 xs[i].2.1) from rfl),by simpa[abV] using hc 2 _ (show(kR xs[i])[2]?=some (.int .i64 xs[i].2.2) from rfl)⟩
structure Wd where
 A:Option aJ
 c:Nat
 xs:List Int
def NP(x:Wd):List aC:= [.slice x.A x.xs.length x.c]
theorem Qj:eY NP 1:=⟨λ_=>rfl,λx u hu=>by simp[NP] at hu;subst hu;rfl⟩
structure xQ(F:Nat->Prop)(w:aA)(AR:Option aJ)(rs:List Int)(AW:Option aJ)(ws:List (Int×Int×Int))(AX:Option aJ)(xs:List Wd):Prop where
 r:Sl eI 1 w AR rs
 rF:∀q,jU AR rs.length=some q->F q
 wt:Sl kR 3 w AW ws
 wF:∀q,jU AW ws.length=some q->F q
 x:Sl NP 1 w AX xs
 xF:∀q,jU AX xs.length=some q->F q
 y:∀z∈xs,Sl eU 1 w z.A z.xs/\(∀q,jU z.A z.xs.length=some q->F q)/\∀u∈z.xs,0<=u/\u<18446744073709551616
theorem xQ.kp{rs:List Int}{xs:List Wd}(h:xQ F w AR rs AW ws AX xs)(k:Kp F w w'):xQ F w' AR rs AW ws AX xs:=
 ⟨h.r.xC k h.rF,h.rF,h.wt.xC k h.wF,h.wF,h.x.xC k h.xF,h.xF,λz a=>⟨(h.y z a).1.xC k (h.y z a).2.1,(h.y z a).2⟩⟩
def pT(k:Kv)(ws:List (Int×Int×Int)):Kv:=ws.foldl (λk x=>(jQ k x.1 x.2.1 x.2.2).2) k
theorem SP(k:Kv)(ws:List (Int×Int×Int))(x:Int×Int×Int):pT k (ws++ [x])=(jQ (pT k ws) x.1 x.2.1 x.2.2).2:=by
 unfold pT;rw[acQ];rfl
theorem FQ(ws:List (Int×Int×Int)):∀{k:Kv},KI k n->KI (pT k ws) n:=by
 induction ws with
 |nil=>intro k h;exact h
 |cons x ws a=>intro k h;exact a (Iu h _ _ _)
theorem yL(s:Sd)(e:Int)(b:Bool):(gS s e b).nw=s.nw:=by
 unfold gS;split <;> rfl
theorem CG(k:Kv)(e:Int):(fI k e).s.nw=k.s.nw:=by
 unfold fI;split
 .exact yL _ _ _
 .rfl
theorem OO(l:List Int):∀k:Kv,(eZ k l).s.nw=k.s.nw:=by
 induction l with
 |nil=>intro k;rfl
 |cons e l a=>intro k;exact(a (fI k e)).trans (CG k e)
theorem kD.nw{l:List Nt}{k:Kv}(r:kD l k k'):k'.s.nw=k.s.nw:=by
 induction r with
 |nil _=>rfl
 |cons r1 _ a=>exact a.trans ((CG _ _).trans (by rw[r1.sm.s]))
theorem jV.nw{k:Kv}(r:jV k k'):k'.s.nw=k.s.nw:=by
 obtain⟨l1,a,T,k2,_,ho,rfl⟩:=r;exact(OO a k2).trans (ho.nw.trans (OO l1 k))
theorem Is(k:Kv)(e o gr:Int):(jQ k e o gr).2.s.nw=k.s.nw:=by
 unfold jQ;split
 .rfl
 .split
  .rfl
  .split
   .rfl
   .exact CG _ _
theorem Ag(ws:List (Int×Int×Int)):∀k:Kv,(pT k ws).s.nw=k.s.nw:=by
 induction ws with
 |nil=>intro k;rfl
 |cons x ws a=>intro k;exact(a _).trans (Is _ _ _ _)
theorem Fq{c:Int}{k:Kv}(h:gC F w m g c k)(b:KI k n)(d:n<=1000000)(e o gr:Int):aG prog 75 #[.pointer g,e,o,gr] w λr w'=>∃v:Int,r= .returned (.int .i64 v)/\gC F w' m g c (jQ k e o gr).2/\Kp F w w':=by
 obtain⟨f,a,h⟩:=h;obtain⟨G,i,back⟩:=h.kn;refine(Dz i (b.kw d) e o gr).mono ?_;rintro r w' ⟨rfl,⟨a',j⟩,k2⟩;obtain⟨b1,b2⟩:=back _ _ w' j k2;exact⟨_,rfl,⟨f,a',b1⟩,b2⟩
theorem Oj{c:Int}{k:Kv}(h:gC F w m g c k)(b:KI k n)(d:n<=1000000):aG prog 76 #[.pointer g] w λr w'=>∃k',r= .returned (.tuple #[])/\aH (jV k k'/\gC F w' m g c k'/\Kp F w w'):=by
 obtain⟨e,a,h⟩:=h;obtain⟨G,f,back⟩:=h.kn;refine(SQ f (b.kw d) (by have:=b.an;omega)).mono ?_;rintro r w' ⟨k',i,rfl,⟨a',j⟩,k2⟩;obtain⟨b1,b2⟩:=back _ _ w' j k2;exact⟨k',rfl,i,⟨e,a',b1⟩,b2⟩
theorem Gp{c:Int}{a:Ka}{k:Kv}(h:iD F w m g c ja a k)(d:gE k.s)(e:k.s.nw<1048576):aG prog 77 #[.pointer a.gs] w λr w'=>r= .returned (.tuple #[.agg #[.int .i64 (cI k.s).1.env, .bool (cI k.s).1.ch],true])/\gC F w' m g c {k with s:=(cI k.s).2}/\Kp F w w':=by
 obtain⟨G,f,back⟩:=h.kn;obtain⟨j,hs,b⟩:=f.sd;refine(ZR hs d e).mono ?_;rintro r w' ⟨rfl,i,k2⟩;obtain⟨b1,b2⟩:=b _ w' i k2;obtain⟨d1,d2⟩:=back _ _ w' b1 b2;exact⟨rfl,⟨ja,a,d1⟩,d2⟩
theorem ET(s:Sd):(cI s).2.P.length=s.P.length:=by
 unfold cI;have h1:(dC s).P.length=s.P.length:=abT _;split
 .show(List.modify _ _ _).length=_;rw[ab9];exact h1
 .split <;> exact h1
theorem KI.tick{k:Kv}(h:KI k n)(a:k.s.nw<1048576):KI {k with s:=(cI k.s).2} n:=h.LH (h.sd.tick a) ((ET k.s).trans h.p4)
def qI(k:Kv)(c:Int)(ws:List (Int×Int×Int))(xs:List Wd)(rn:Rn)(D:List (Int×Int))(k':Kv):Prop:=∃k2,jV (pT k ws) k2/\rn=(cI k2.s).1/\
 ((∃(i:Nat) (z:Wd),rn.env=i/\xs[i]?=some z/\xO c rn.env {k2 with s:=(cI k2.s).2} z.xs D k')\/((rn.env<0\/(xs.length:Int)<=rn.env)/\D= []/\k'={k2 with s:=(cI k2.s).2}))
def Vp(F:Nat->Prop)(m g:Nat)(c:Int)(k:Kv)(n0 M:Nat)(ws:List (Int×Int×Int))(xs:List Wd)(w:aA)(e:Ending)(w':aA):Prop:=∃(rn:Rn) (A A2 A3:Option aJ) (nA cA n2 c2 n3 c3:Nat) (D:List (Int×Int)) (k':Kv),e= .returned (.tuple #[.agg #[rn.env,rn.ch,(A,nA,cA),(A2,n2,c2),(A3,n3,c3)],aU])/\nA=D.length/\qI k c ws xs rn D k'/\KI k' (n0+M)/\bB sU 2 w' w.heap.size 227 A cA D/\gC (cB F A) w' m g c k'/\Kp F w w'
structure Jz(F5 F:Nat->Prop)(w W:aA)(q1:Nat)(A:Option aJ):Prop where
 f1:F5 (q1+1)
 f2:¬F (q1+1)
 fl:Ol F w
 k:Kp F w W
 ff:∀b,F b->F5 b
 ne:aZ A≠some (q1+1)
def VH(F5 F:Nat->Prop)(w W:aA)(q1 m g:Nat)(c:Int)(k:Kv)(n0 M:Nat)(ws:List (Int×Int×Int))(xs:List Wd)(rn:Rn)(A:Option aJ)(nA cA:Nat)(DA:List (Int×Int))(kE:Kv):Prop:=
 nA=DA.length/\qI k c ws xs rn DA kE/\KI kE (n0+M)/\bB sU 2 W w.heap.size 227 A cA DA/\gC (cB F5 A) W m g c kE/\Jz F5 F w W q1 A
theorem gC.ol{c:Int}{k:Kv}(h:gC F w m g c k):Ol F w:=by
 obtain⟨_,_,h⟩:=h;exact h.fl
theorem gC.less{c:Int}{k:Kv}(h:gC F w m g c k)(d:∀b,G b->F b):gC G w m g c k:=by
 obtain⟨e,a,h⟩:=h;exact⟨e,a,h.less d⟩
theorem gC.row{c:Int}{k:Kv}(h:gC F w m g c k)(e:w.grownBy W (some q))(hq:F q):gC F W m g c k:=
 dV.gr (gC.bX m g c k) h e (λx a=>by injection a with a;rw[<-a];exact hq) (λb d=>aaJ (h.ol b d) e.size) (λb _ d=>d)
theorem MY{c:Int}(o:bB sU 2 W w.heap.size 227 A cA DA)(s:gC (cB F5 A) W m g c kE)(e:Jz F5 F w W q1 A)(d:W.grownBy W' (some (q1+1))):bB sU 2 W' w.heap.size 227 A cA DA/\gC (cB F A) W' m g c kE/\Kp F w W':=
 ⟨o.kept d (.inr e.ne),(s.row d (.inl e.f1)).less (λb a=>a.imp (e.ff b) id),e.k.trans (Kp.grown d λb a=>⟨aaJ (e.fl b a) e.k.size,λhc=>e.f2 (by injection hc with hc;rw[<-hc];exact a)⟩)⟩
theorem Qb{c:Int}{k:Kv}{us:List Int}(h:IE (Fb F5 q5) w8 w9 m g c e k n0 us A cA DA k1)(d:w9.grownBy W (some q3))(f:F5 q3)(f1:F5 (q1+1))(f2:¬F (q1+1))(f3:¬F q3)(fl:Ol F w)(hk:Kp F w w8)(ff:∀b,F b->F5 b)(h1:q1+1<w8.heap.size)(j:q3<w8.heap.size):bB sU 2 W w.heap.size 227 A cA DA/\gC (cB F5 A) W m g c k1/\Jz F5 F w W q1 A:=by
 refine⟨(h.o.kept d ?_).from_ hk.size,(h.s.row d (.inl (.inl f))).less (λb a=>a.imp .inl id),f1,f2,fl,(hk.trans (h.k.mono λb a=> .inl (ff b a))).trans (Kp.grown d λb a=>⟨aaJ (fl b a) (aaR hk.size h.k.size),λhc=>f3 (by injection hc with hc;rw[<-hc];exact a)⟩),ff,λhc=>by have:=(h.o.lt _ hc).1;omega⟩;cases i:aZ A with
 |none=>exact .inl rfl
 |some q=>exact .inr (λhc=>by injection hc with hc;have:=(h.o.lt q i).1;omega)
def Gk(F:Nat->Prop)(q:Nat):Nat->Prop:=λb=>F b\/b=q\/b=q+1
theorem Og{c:Int}{k:Kv}(h:gC F w m g c k){M:Nat}(hI:KI k n0)(hM:n0+M<999999)(hnw:k.s.nw<1048576){cW:Nat}{rs:List Int}{xs:List Wd}(hin:xQ F w AR rs AW ws AX xs)(hlr:rs.length<=1000/\ws.length<=1000/\xs.length<=1000)(hxM:∀z∈xs,z.xs.length<=M):
 aG prog 45 #[.pointer m, .agg #[(AR,rs.length,cR),(AW,ws.length,cW),(AX,xs.length,cX)]] w (Vp F m g c k n0 M ws xs w):=by
 obtain⟨bs,a,h⟩:=h;have Y:=aX w (aI #[(AR,rs.length,cR),(AW,ws.length,cW),(AX,xs.length,cX)] 84);have L:=Y.alloc Y.size (aI (pC none 0 0 none 0 0) 73);have hz2:((w.alloc (aI #[(AR,rs.length,cR),(AW,ws.length,cW),(AX,xs.length,cX)] 84)).alloc (aI (pC none 0 0 none 0 0) 73)).heap.size=w.heap.size+1+1:=aT;have ib:=(bC.new w 84 #[(AR,rs.length,cR),(AW,ws.length,cW),(AX,xs.length,cX)]).keep (aX _ (aI (pC none 0 0 none 0 0) 73));have rb:=bC.gK (w.alloc (aI #[(AR,rs.length,cR),(AW,ws.length,cW),(AX,xs.length,cX)] 84)) 73 (pC none 0 0 none 0 0) (g:=w.heap.size+1) aT;have H2:aH (iD (Nw F w ((w.alloc (aI #[(AR,rs.length,cR),(AW,ws.length,cW),(AX,xs.length,cX)] 84)).alloc (aI (pC none 0 0 none 0 0) 73))) ((w.alloc (aI #[(AR,rs.length,cR),(AW,ws.length,cW),(AX,xs.length,cX)] 84)).alloc (aI (pC none 0 0 none 0 0) 73)) m g c bs a k/\Kp F w ((w.alloc (aI #[(AR,rs.length,cR),(AW,ws.length,cW),(AX,xs.length,cX)] 84)).alloc (aI (pC none 0 0 none 0 0) 73))):=⟨dV.grow (iD.bX m g c bs a k) h h.fl L,(h.below L).2⟩
 have HB2:=aP L;have HIn:=aP hin;have Z:=aP h.fl;have HKI:=aP hI;have HMM:=bH hM hxM;simp only[pC] at H2 L rb ib hz2 HB2;clear h Y hin hI hM hxM;go_enter func45,ntmps45
 go_upto_region 1 with(fail)
 generalize ((w.alloc (aI #[(AR,rs.length,cR),(AW,ws.length,cW),(AX,xs.length,cX)] 84)).alloc (aI #[aU,false,bA,bA,bA] 73))=N at *;have m0:=H2.o.1.c0;obtain⟨ps,_⟩:=H2.o.1.ks;obtain⟨G1,hk1,_⟩:=H2.o.1.kn;obtain⟨G2,hs2,_⟩:=hk1.sd;have HN:=aP (wK hs2);have HX:=bH ib rb;clear hk1 hs2 L ib rb;go_wp2_with fail
 refine aR HN ?_;rintro e w3 ⟨rfl,rfl⟩;clear HN;go_upto_region 7 with(fail)
 have H3:aH (oF (Gk F w) (N.alloc (aI #[aU,false,bA,bA,bA] 73)) (N.alloc (aI #[aU,false,bA,bA,bA] 73)) N m g c none 0 [] none 0 [] k):=by
  have d:=(iD.bX m g c bs a k).box H2.o.1 H2.o.1.fl (aI #[aU,false,bA,bA,bA] 73);refine⟨⟨bs,a,d.less (λb d=>?_)⟩,Kp.refl _ _,bC.new N _ _,bB.nil _ _ _,bB.nil _ _ _, .inl rfl⟩;rcases d with(d|d)|d
  .rcases d with d|rfl
   .refine .inl ?_;rcases d with d|d|d
    .exact .inl d
    .exact .inr ⟨aQ,aQ⟩
    .exact .inr ⟨aQ,aQ⟩
   .exact .inr rfl
  .cases d
  .cases d
 have HB3:aH (aD w w (N.alloc (aI #[aU,false,bA,bA,bA] 73))):=HB2.o.alloc HB2.o.size _;have HG:aH (Ol (Gk F w) (N.alloc (aI #[aU,false,bA,bA,bA] 73))/\N.heap.size<(N.alloc (aI #[aU,false,bA,bA,bA] 73)).heap.size/\¬Gk F w N.heap.size):=by
  have hs:(N.alloc (aI #[aU,false,bA,bA,bA] 73)).heap.size=N.heap.size+1:=aT;refine⟨λb d=>?_,aQ,λd=>?_⟩
  .rcases d with d|d|d
   .have:=Z.o b d;omega
   .omega
   .omega
  .rcases d with d|d|d
   .have:=Z.o _ d;omega
   .omega
   .omega
 have HX3:aH (bC (N.alloc (aI #[aU,false,bA,bA,bA] 73)) w.heap.size 84 #[(AR,rs.length,cR),(AW,ws.length,cW),(AX,xs.length,cX)]/\bC (N.alloc (aI #[aU,false,bA,bA,bA] 73)) (w.heap.size+1) 73 (pC none 0 0 none 0 0)):=⟨HX.o.1.keep (aX N _),HX.o.2.keep (aX N _)⟩
 have HIn3:aH (xQ F (N.alloc (aI #[aU,false,bA,bA,bA] 73)) AR rs AW ws AX xs):=HIn.o.kp (Kp.dD HB3.o Z.o);have HKF:aH (∀W W',Kp (Gk F w) W W'->Kp F W W'):=λW W' h=>h.mono λb d=> .inl d
 clear H2 HB2 HX HIn m0 ps;generalize N.alloc (aI #[aU,false,bA,bA,bA] 73)=w3 at *;rw[hz2] at H3 HG;obtain⟨q1,hq1⟩:∃q,q=w.heap.size:=⟨_,rfl⟩
 have HQ1:=aP hq1;rw[<-hq1] at H3 HG HX3 HKF;clear hz2;have i0:=HX3.o.1.cell 0 (.slice AR rs.length cR) rfl;rw[<-hq1];clear hq1;go_wp2_with fail
 go_loopw [38] (λv38 wr=>∃i:Nat,v38= .int .i64 i/\i<=rs.length/\aH (∃A2 c2 D,D.length=i/\oF (Gk F q1) w3 wr (q1+1+1) m g c A2 c2 D none 0 [] k)) (λv38 _=>rs.length - (aL v38).toNat)
 case atStart=>exact⟨0,rfl,aaQ _,none,0, [],rfl,H3.o⟩
 case round=>
  clear H3 i0;obtain⟨i,rfl,hi,HR⟩:=hrel;obtain⟨A2,c2,D,hD,V⟩:=HR.o;have HR:=aP V;have HD:=aP hD;by_cases hin:i<rs.length
  .have a7:=HKF.o _ _ V.k;obtain⟨b,off,rfl,hcell⟩:=(HIn3.o.kp a7).r.EJ hin;have j0:(0:Int)<=i:=aQ;have j1:(i:Int)<(rs.length:Int):=aQ;have c3:=V.b.cell 3 (.slice A2 D.length c2) rfl;rw[hD] at c3;obtain⟨bs1,a1,hst⟩:=V.s;obtain⟨_,_,pi,_⟩:=hst.ks;generalize rs[i]=x at *;have HST:=aP hst;clear V a7 hst hD;have O:aH (∀W,aD wr wr W->aG prog 74 #[.pointer a1.gi,x] W λr w'=>∃v:Int,r= .returned (.int .i64 v)/\aH (oF (Gk F q1) w3 w' (q1+1+1) m g c A2 c2 D none 0 [] k)/\w'.cell? (q1+1+1,3)=some (.slice A2 i c2)/\∀o,(w'.alloc o).cell? (q1+1+1,3)=some (.slice A2 i c2)):=λW hW=>by
    have d:=HR.o.below hW;obtain⟨G5,hk5,back5⟩:=(HST.o.below hW).1.kn;refine(XR hk5 x).mono ?_;rintro r w' ⟨v,a',rfl,h2,k2⟩;obtain⟨d1,d2⟩:=back5 _ _ w' h2 k2;have ho:=d.eV ⟨bs1,a',d1⟩ d2;have this:=ho.b.cell 3 (.slice A2 D.length c2) rfl;rw[HD.o] at this;exact⟨v,rfl,ho,this,λo=>bD (aX w' o) this⟩
   have hir:i<=1000:=aQ;go_upto_region 10 with(fail)
   clear hcell;go_region_law (first|(refine lO _ rfl (.tmp 43) (.tmp 50) rfl Ia fX (base:=w3.heap.size) (xs:=D) (u.o.o2.alloc _) (n:=i) HD.o rfl (m:=1) rfl (ys:= [v]) rfl (Sl.gK fX K v _ rfl _ aT) dT aQ (aaR u.o.k.size aT) _ rfl (i+1) rfl ?_;intro A9 c9 w9 P hg9 at9;(obtain⟨b9,f9,HO9⟩:=(u.o.below (aX K (aI #[v] 45))).Gu HG.o.1 HG.o.2.1 HG.o.2.2 P hg9 at9 (n:=i+1) (by rw[aaT,HD.o];rfl)))|(go_simp;(refine aS (O.o _ (Below.refl _ _).drew) ?_);rintro r K ⟨v,rfl,u,c36,c37⟩))
   all_goals (
    have HO:=aP HO9;have HE:(D++ [v]).length=i+1:=by rw[aaT,HD.o];rfl
    clear HO9 b9 f9 hg9 at9 P u O HR HST c36 c37 c3;generalize (w9.setCell (q1+1+1,3) (.slice A9 (i+1) c9))=w10 at *;clear w9;go_wp2_with fail
    refine⟨⟨i+1,?_,aQ,A9,c9,D++ [v],HE,HO.o⟩,?_⟩
    .rfl
    .simp only[aL];omega)
  .have a7:=HKF.o _ _ V.k;have i1:=(V.k.aZ HX3.o.1 (.inr (.inl rfl))).cell 1 (.slice AW ws.length cW) rfl;have H5:aH (oF (Gk F q1) w3 wr (q1+1+1) m g c A2 c2 D none 0 [] k):=HR;have j1:¬(i:Int)<(rs.length:Int):=aQ;clear a7 V HR hD;go_wp2_with fail
   go_loopw [57] (λv57 wr2=>∃j:Nat,v57= .int .i64 j/\j<=ws.length/\aH (∃A3 c3 E,E.length=j/\oF (Gk F q1) w3 wr2 (q1+1+1) m g c A2 c2 D A3 c3 E (pT k (ws.take j)))) (λv57 _=>ws.length - (aL v57).toNat)
   case atStart=>exact⟨0,rfl,aaQ _,none,0, [],rfl,H5.o⟩
   case round=>
    clear H5 i1;obtain⟨j,rfl,hj,HR⟩:=hrel;obtain⟨A3,c3,E,hE,V⟩:=HR.o;have HR:=aP V;have HE:=aP hE;by_cases hjn:j<ws.length
    .have a7:=HKF.o _ _ V.k;obtain⟨b,off,rfl,hc0,hc1,hc2⟩:=(HIn3.o.kp a7).wt.GU hjn;have j0:(0:Int)<=j:=aQ;have j1':(j:Int)<(ws.length:Int):=aQ;have HT:aH (ws.take (j+1)=ws.take j++ [ws[j]]):=(abS hjn).symm;generalize ws[j]=x at *;obtain⟨xe,xo,xg⟩:=x;simp only at hc0 hc1 hc2;have c4:=V.b.cell 4 (.slice A3 E.length c3) rfl;rw[hE] at c4;have t:aH (KI (pT k (ws.take j)) n0/\n0<=1000000):=⟨FQ _ HKI.o,by have:=HMM.o.1;omega⟩
     clear V a7 hE;go_upto_region 15 with(fail)
     have c5:(wr.alloc (aI #[xe,xo,xg] 172)).cell? (q1+1+1,4)=some (.slice A3 j c3):=bD (aX wr _) c4;have HXb:=aP (bC.new wr 172 #[xe,xo,xg]);have y0:=HXb.o.cell 0 xe rfl;have y1:=HXb.o.cell 1 xo rfl;have y2:=HXb.o.cell 2 xg rfl;have HBx:aH (aD wr wr (wr.alloc (aI #[xe,xo,xg] 172))):=aX wr _;clear hc0 hc1 hc2 c4 HXb;generalize (wr.alloc (aI #[xe,xo,xg] 172))=wx at *;have O:aH (∀W,aD wx wx W->aG prog 75 #[.pointer g,xe,xo,xg] W λr w'=>∃v:Int,r= .returned (.int .i64 v)/\aH (oF (Gk F q1) w3 w' (q1+1+1) m g c A2 c2 D A3 c3 E (pT k (ws.take (j+1))))/\w'.cell? (q1+1+1,4)=some (.slice A3 j c3)/\∀o,(w'.alloc o).cell? (q1+1+1,4)=some (.slice A3 j c3)):=λW hW=>by
      have d:=HR.o.below (HBx.o.trans (hW.mono HBx.o.size));refine(Fq d.s t.o.1 t.o.2 xe xo xg).mono ?_;rintro r w' ⟨v,rfl,h2,k2⟩;have ho:=d.eV h2 k2;have this:=ho.b.cell 4 (.slice A3 E.length c3) rfl;rw[HE.o] at this;rw[HT.o,SP];exact⟨v,rfl,ho,this,λo=>bD (aX w' o) this⟩
     have hjr:j<=1000:=aQ;clear HR t HT HBx;go_region_law (first|(refine lO _ rfl (.tmp 62) (.tmp 71) rfl Ia fX (base:=w3.heap.size) (xs:=E) (u.o.o3.alloc _) (n:=j) HE.o rfl (m:=1) rfl (ys:= [v]) rfl (Sl.gK fX K v _ rfl _ aT) dT aQ (aaR u.o.k.size aT) _ rfl (j+1) rfl ?_;intro A9 c9 w9 P hg9 at9;(obtain⟨b9,f9,HO9⟩:=(u.o.below (aX K (aI #[v] 45))).Jr HG.o.1 HG.o.2.1 HG.o.2.2 P hg9 at9 (n:=j+1) (by rw[aaT,HE.o];rfl)))|(go_simp;(refine aS (O.o _ (Below.refl _ _).drew) ?_);rintro r K ⟨v,rfl,u,c36,c37⟩))
     all_goals (
      have HO:=aP HO9;have HE2:(E++ [v]).length=j+1:=by rw[aaT,HE.o];rfl
      clear HO9 b9 f9 hg9 at9 P u O c36 c37 c5;generalize (w9.setCell (q1+1+1,4) (.slice A9 (j+1) c9))=w10 at *;clear w9;go_wp2_with fail
      refine⟨⟨j+1,?_,aQ,A9,c9,E++ [v],HE2,HO.o⟩,?_⟩
      .rfl
      .simp only[aL];omega)
    .have j1':¬(j:Int)<(ws.length:Int):=aQ;have hT:ws.take j=ws:=aa7 aQ;rw[hT] at V HR;have t:aH (KI (pT k ws) n0/\n0<=1000000):=⟨FQ _ HKI.o,by have:=HMM.o.1;omega⟩
     have HBf:=aP (Oj V.s t.o.1 t.o.2);clear V hE;go_wp2_with fail
     refine aR HBf ?_;rintro e w4 ⟨k2,rfl,HB4⟩;have H4:aH (oF (Gk F q1) w3 w4 (q1+1+1) m g c A2 c2 D A3 c3 E k2):=HR.o.eV HB4.o.2.1 HB4.o.2.2;have HK2:aH (KI k2 n0/\k2.s.nw<1048576/\jV (pT k ws) k2):=⟨HB4.o.1.ki t.o.1,by rw[HB4.o.1.nw,Ag];exact hnw,HB4.o.1⟩
     obtain⟨bs2,a2,hst2⟩:=H4.o.s;obtain⟨ps,_⟩:=hst2.ks;have o8:=aP (Gp hst2 HK2.o.1.sd HK2.o.2.1);clear HBf HB4 HR t hst2;go_wp2_with fail
     refine aR o8 ?_;rintro e w5 ⟨rfl,h5,k5⟩;have H5:aH (oF (Gk F q1) w3 w5 (q1+1+1) m g c A2 c2 D A3 c3 E {k2 with s:=(cI k2.s).2}):=H4.o.eV h5 k5;have HK5:aH (KI {k2 with s:=(cI k2.s).2} n0):=HK2.o.1.tick HK2.o.2.1;clear o8 h5 k5 H4 ps;obtain⟨k3,hk3⟩:∃q,q=({k2 with s:=(cI k2.s).2}:Kv):=⟨_,rfl⟩
     obtain⟨rn,hrn⟩:∃q,q=(cI k2.s).1:=⟨_,rfl⟩
     rw[<-hk3] at H5 HK5;have HK3:=bH hk3 hrn;rw[<-hrn];clear hk3 hrn;go_upto_region 21 with(fail)
     obtain⟨F5,hF5⟩:∃X,X=cB (cB (Fb (Gk F q1) (q1+1+1)) A2) A3:=⟨_,rfl⟩
     have C:aH ((∀b,Gk F q1 b->F5 b)/\F5 (q1+1+1)):=by
      rw[hF5];exact⟨λb d=> .inl (.inl (.inl d)), .inl (.inl (.inr rfl))⟩
     have H6:aH (gC (Fb F5 w5) (w5.alloc (aI #[rn.env,rn.ch] 69)) m g c k3/\Kp (Gk F q1) w3 (w5.alloc (aI #[rn.env,rn.ch] 69))):=by
      have h1:=H5.o.below (aX w5 (aI #[rn.env,rn.ch] 69));obtain⟨bs5,a5,h5⟩:=H5.o.s;have h6:=(iD.bX m g c bs5 a5 k3).box h5 h5.fl (aI #[rn.env,rn.ch] 69);rw[<-hF5] at h6;exact⟨⟨bs5,a5,h6⟩,h1.k⟩
     have B:aH (bC (w5.alloc (aI #[rn.env,rn.ch] 69)) w5.heap.size 69 #[rn.env,rn.ch]/\bC (w5.alloc (aI #[rn.env,rn.ch] 69)) (q1+1+1) 73 (pC A2 D.length c2 A3 E.length c3)/\q1+1+1≠w5.heap.size/\¬Gk F q1 w5.heap.size/\¬Gk F q1 (q1+1+1)):=by
      have hlt:=H5.o.b.lt;refine⟨bC.new w5 _ _,H5.o.b.keep (aX w5 _),aQ,λd=>?_,HG.o.2.2⟩;have h1:=HG.o.1 _ d;have h2:=H5.o.k.size;omega
     generalize hq5:w5.heap.size=q5 at *;clear hq5 H5 hF5;generalize (w5.alloc (aI #[rn.env,rn.ch] 69))=K at *;clear w5;have b0:=B.o.1.cell 0 rn.env rfl;have b1:=B.o.1.cell 1 (.bool rn.ch) rfl;have o0:=B.o.2.1.cell 0 (.int .i64 0) rfl;have o1:=B.o.2.1.cell 1 (.bool false) rfl;have f0:=B.o.2.1.frozen 0;have f1:=B.o.2.1.frozen 1;have ne5:q1+1+1≠q5:=B.o.2.2.1;have H7:aH (gC (Fb F5 q5) ((K.setCell (q1+1+1,0) rn.env).setCell (q1+1+1,1) (.bool rn.ch)) m g c k3/\Kp (Gk F q1) w3 ((K.setCell (q1+1+1,0) rn.env).setCell (q1+1+1,1) (.bool rn.ch))):=by
      have Q:K.grownBy ((K.setCell (q1+1+1,0) rn.env).setCell (q1+1+1,1) (.bool rn.ch)) (some (q1+1+1)):=aY (aY (bE _ _) 0 _) 1 _;obtain⟨bs6,a6,h6⟩:=H6.o.1;refine⟨⟨bs6,a6,dV.gr (iD.bX m g c bs6 a6 k3) h6 Q (λq hq=>by injection hq with hq;rw[<-hq];exact .inl C.o.2) (λb d=>aaJ (h6.fl b d) Q.size) (λb _ d=>d)⟩,H6.o.2.trans (Kp.grown Q λb d=>⟨aaJ (HG.o.1 b d) H6.o.2.size,λe=>B.o.2.2.2.2 (by injection e with e;rw[<-e];exact d)⟩)⟩
     have HB7:aH (bC ((K.setCell (q1+1+1,0) rn.env).setCell (q1+1+1,1) (.bool rn.ch)) q5 69 #[rn.env,rn.ch]/\bC ((K.setCell (q1+1+1,0) rn.env).setCell (q1+1+1,1) (.bool rn.ch)) (q1+1+1) 73 #[rn.env,rn.ch,bA, .slice A2 D.length c2, .slice A3 E.length c3]):=by
      have Q:K.grownBy ((K.setCell (q1+1+1,0) rn.env).setCell (q1+1+1,1) (.bool rn.ch)) (some (q1+1+1)):=aY (aY (bE _ _) 0 _) 1 _;refine⟨(Q.block q5 B.o.1.lt (λe=>ne5 (by injection e with e;exact e.symm))).trans B.o.1,?_⟩;exact(B.o.2.1.bQ 0 rn.env).bQ 1 (.bool rn.ch)
     go_upto_region 22 with(fail)
     clear b0 b1 o0 o1 f0 f1;generalize ((K.setCell (q1+1+1,0) rn.env).setCell (q1+1+1,1) (.bool rn.ch))=w7 at *;have b0:=HB7.o.1.cell 0 rn.env rfl;have b1:=HB7.o.1.cell 1 (.bool rn.ch) rfl;have HBd:=aP (Fc H7.o.1 (HK5.o.kw (by have:=HMM.o.1;omega)) rn.env rn.ch);clear H6;go_wp2_with fail
     refine aR HBd ?_;rintro e I ⟨rfl,h8,k8⟩;have HK8:aH (Kp (Gk F q1) w3 I):=H7.o.2.trans (k8.mono λb d=> .inl (C.o.1 b d));have H8:aH (gC (Fb F5 q5) I m g c k3):=h8;have R:aH (bC I q5 69 #[rn.env,rn.ch]/\bC I (q1+1+1) 73 #[rn.env,rn.ch,bA, .slice A2 D.length c2, .slice A3 E.length c3]):=⟨k8.aZ HB7.o.1 (.inr rfl),k8.aZ HB7.o.2 (.inl C.o.2)⟩
     have HX8:aH (bC I q1 84 #[(AR,rs.length,cR),(AW,ws.length,cW),(AX,xs.length,cX)]/\bC I (q1+1) 73 (pC none 0 0 none 0 0)):=⟨HK8.o.aZ HX3.o.1 (.inr (.inl rfl)),HK8.o.aZ HX3.o.2 (.inr (.inr rfl))⟩
     have S:aH (xQ F I AR rs AW ws AX xs):=HIn3.o.kp (HKF.o _ _ HK8.o);clear HBd h8 k8 b0 b1 H7 HB7 B w7 HX3 HIn3;obtain⟨env,ch⟩:=rn;simp only at R HK3⊢;have H:aH (F5 (q1+1)/\¬F (q1+1)/\Kp F w I/\w.heap.size<=w3.heap.size/\q1+1<w3.heap.size/\q1+1≠q1+1+1):=by
      refine⟨C.o.1 _ (.inr (.inr rfl)),λd=>by have:=Z.o _ d;have:=HQ1.o;omega,(Kp.dD HB3.o Z.o).trans (HKF.o _ _ HK8.o),HB3.o.size,HG.o.1 _ (.inr (.inr rfl)),aQ⟩
     have HTR:aH (∀(J:List (Int×Int)) (k':Kv),((∃(i:Nat) (z:Wd),env=i/\xs[i]?=some z/\xO c env k3 z.xs J k')\/((env<0\/(xs.length:Int)<=env)/\J= []/\k'=k3))->qI k c ws xs ⟨env,ch⟩ J k'):=λJ k' h=>⟨k2,HK2.o.2.2,HK3.o.2,by rw[<-HK3.o.1];exact h⟩
     have e0:=R.o.1.cell 0 env rfl;have i2:=HX8.o.1.cell 2 (.slice AX xs.length cX) rfl;have hnE:aH ((env<0\/(xs.length:Int)<=env)->VH F5 F w I q1 m g c k n0 M ws xs ⟨env,ch⟩ none 0 0 [] k3):=λhn=>⟨rfl,HTR.o [] k3 (.inr ⟨hn,rfl,rfl⟩),HK5.o.mono (Nat.le_add_right _ _),bB.nil _ _ _,H8.o.less (λb d=>by
      rcases d with d|d
      .exact .inl d
      .cases d),H.o.1,H.o.2.1,Z.o,H.o.2.2.1,λb d=>C.o.1 b (.inl d),λhc=>by cases hc⟩
     have HEB:aH (bC I (q1+1+1) 73 #[env,ch,bA, .slice A2 D.length c2, .slice A3 E.length c3]/\bC I (q1+1) 73 (pC none 0 0 none 0 0)):=⟨R.o.2,HX8.o.2⟩
     have hne:q1+1≠q1+1+1:=aQ;by_cases h1:env<0
     .have T:aH _:=hnE.o (.inl h1);go_upto_region 25 with(fail)
      obtain⟨A,l,cA,J,U,EQ,f⟩:∃(A:Option aJ) (l cA:Nat) (J:List (Int×Int)) (U:Kv),aH (VH F5 F w I q1 m g c k n0 M ws xs ⟨env,ch⟩ A l cA J U)/\aH (bC I (q1+1+1) 73 #[env,ch,(A,l,cA), .slice A2 D.length c2, .slice A3 E.length c3]/\bC I (q1+1) 73 (pC none 0 0 none 0 0)):=⟨none,0,0, [],k3,T,HEB⟩
      clear e0 i2 T HEB R HX8 S HK8 H hnE HTR H8;generalize I=wE at *;have g0:=f.o.1.cell 0 (.int .i64 (env)) rfl;have g1:=f.o.1.cell 1 (.bool ch) rfl;have g2:=f.o.1.cell 2 (.slice A l cA) rfl;have g3:=f.o.1.cell 3 (.slice A2 D.length c2) rfl;have g4:=f.o.1.cell 4 (.slice A3 E.length c3) rfl;have r0:=f.o.2.cell 0 (.int .i64 0) rfl;have r1:=f.o.2.cell 1 (.bool false) rfl;have r2:=f.o.2.cell 2 (.slice none 0 0) rfl;have r3:=f.o.2.cell 3 (.slice none 0 0) rfl;have r4:=f.o.2.cell 4 (.slice none 0 0) rfl;have s0:=f.o.2.frozen 0;have s1:=f.o.2.frozen 1;have s2:=f.o.2.frozen 2;have s3:=f.o.2.frozen 3;have s4:=f.o.2.frozen 4;obtain⟨u1,u2,u3,u4,u5,u6⟩:=EQ.o;have HWE:aH (bB sU 2 (((((wE.setCell (q1+1,0) (.int .i64 (env))).setCell (q1+1,1) (.bool ch)).setCell (q1+1,2) (.slice A l cA)).setCell (q1+1,3) (.slice A2 D.length c2)).setCell (q1+1,4) (.slice A3 E.length c3)) w.heap.size 227 A cA J/\gC (cB F A) (((((wE.setCell (q1+1,0) (.int .i64 (env))).setCell (q1+1,1) (.bool ch)).setCell (q1+1,2) (.slice A l cA)).setCell (q1+1,3) (.slice A2 D.length c2)).setCell (q1+1,4) (.slice A3 E.length c3)) m g c U/\Kp F w (((((wE.setCell (q1+1,0) (.int .i64 (env))).setCell (q1+1,1) (.bool ch)).setCell (q1+1,2) (.slice A l cA)).setCell (q1+1,3) (.slice A2 D.length c2)).setCell (q1+1,4) (.slice A3 E.length c3))):=MY u4 u5 u6 (aY (aY (aY (aY (aY (bE wE (q1+1)) 0 _) 1 _) 2 _) 3 _) 4 _);have p:aH (bC (((((wE.setCell (q1+1,0) (.int .i64 (env))).setCell (q1+1,1) (.bool ch)).setCell (q1+1,2) (.slice A l cA)).setCell (q1+1,3) (.slice A2 D.length c2)).setCell (q1+1,4) (.slice A3 E.length c3)) (q1+1) 73 #[.int .i64 (env),ch,(A,l,cA), .slice A2 D.length c2, .slice A3 E.length c3]):=((((f.o.2.bQ 0 _).bQ 1 _).bQ 2 _).bQ 3 _).bQ 4 _;have EU:=cZ u1 u2 u3;clear u1 u2 u3 u4 u5 u6 EQ;go_wp2_with fail
      generalize (((((wE.setCell (q1+1,0) (.int .i64 (env))).setCell (q1+1,1) (.bool ch)).setCell (q1+1,2) (.slice A l cA)).setCell (q1+1,3) (.slice A2 D.length c2)).setCell (q1+1,4) (.slice A3 E.length c3))=wZ at *;have v0:=p.o.cell 0 (.int .i64 (env)) rfl;have v1:=p.o.cell 1 (.bool ch) rfl;have v2:=p.o.cell 2 (.slice A l cA) rfl;have v3:=p.o.cell 3 (.slice A2 D.length c2) rfl;have v4:=p.o.cell 4 (.slice A3 E.length c3) rfl;refine bodyPost_ret (v:= .tuple #[.agg #[.int .i64 (env),ch,(A,l,cA), .slice A2 D.length c2, .slice A3 E.length c3],aU]) ?_ rfl ⟨⟨env,ch⟩,A,A2,A3,l,cA,_,_,_,_,J,U,rfl,EU.o.1,EU.o.2.1,EU.o.2.2,HWE.o⟩;simp[results,results45,go_sem,v0,v1,v2,v3,v4]
     by_cases h2:(xs.length:Int)<=env
     .have T:aH _:=hnE.o (.inr h2);go_upto_region 25 with(fail)
      obtain⟨A,l,cA,J,U,EQ,f⟩:∃(A:Option aJ) (l cA:Nat) (J:List (Int×Int)) (U:Kv),aH (VH F5 F w I q1 m g c k n0 M ws xs ⟨env,ch⟩ A l cA J U)/\aH (bC I (q1+1+1) 73 #[env,ch,(A,l,cA), .slice A2 D.length c2, .slice A3 E.length c3]/\bC I (q1+1) 73 (pC none 0 0 none 0 0)):=⟨none,0,0, [],k3,T,HEB⟩
      clear e0 i2 T HEB R HX8 S HK8 H hnE HTR H8;generalize I=wE at *;have g0:=f.o.1.cell 0 (.int .i64 (env)) rfl;have g1:=f.o.1.cell 1 (.bool ch) rfl;have g2:=f.o.1.cell 2 (.slice A l cA) rfl;have g3:=f.o.1.cell 3 (.slice A2 D.length c2) rfl;have g4:=f.o.1.cell 4 (.slice A3 E.length c3) rfl;have r0:=f.o.2.cell 0 (.int .i64 0) rfl;have r1:=f.o.2.cell 1 (.bool false) rfl;have r2:=f.o.2.cell 2 (.slice none 0 0) rfl;have r3:=f.o.2.cell 3 (.slice none 0 0) rfl;have r4:=f.o.2.cell 4 (.slice none 0 0) rfl;have s0:=f.o.2.frozen 0;have s1:=f.o.2.frozen 1;have s2:=f.o.2.frozen 2;have s3:=f.o.2.frozen 3;have s4:=f.o.2.frozen 4;obtain⟨u1,u2,u3,u4,u5,u6⟩:=EQ.o;have HWE:aH (bB sU 2 (((((wE.setCell (q1+1,0) (.int .i64 (env))).setCell (q1+1,1) (.bool ch)).setCell (q1+1,2) (.slice A l cA)).setCell (q1+1,3) (.slice A2 D.length c2)).setCell (q1+1,4) (.slice A3 E.length c3)) w.heap.size 227 A cA J/\gC (cB F A) (((((wE.setCell (q1+1,0) (.int .i64 (env))).setCell (q1+1,1) (.bool ch)).setCell (q1+1,2) (.slice A l cA)).setCell (q1+1,3) (.slice A2 D.length c2)).setCell (q1+1,4) (.slice A3 E.length c3)) m g c U/\Kp F w (((((wE.setCell (q1+1,0) (.int .i64 (env))).setCell (q1+1,1) (.bool ch)).setCell (q1+1,2) (.slice A l cA)).setCell (q1+1,3) (.slice A2 D.length c2)).setCell (q1+1,4) (.slice A3 E.length c3))):=MY u4 u5 u6 (aY (aY (aY (aY (aY (bE wE (q1+1)) 0 _) 1 _) 2 _) 3 _) 4 _);have p:aH (bC (((((wE.setCell (q1+1,0) (.int .i64 (env))).setCell (q1+1,1) (.bool ch)).setCell (q1+1,2) (.slice A l cA)).setCell (q1+1,3) (.slice A2 D.length c2)).setCell (q1+1,4) (.slice A3 E.length c3)) (q1+1) 73 #[.int .i64 (env),ch,(A,l,cA), .slice A2 D.length c2, .slice A3 E.length c3]):=((((f.o.2.bQ 0 _).bQ 1 _).bQ 2 _).bQ 3 _).bQ 4 _;have EU:=cZ u1 u2 u3;clear u1 u2 u3 u4 u5 u6 EQ;go_wp2_with fail
      generalize (((((wE.setCell (q1+1,0) (.int .i64 (env))).setCell (q1+1,1) (.bool ch)).setCell (q1+1,2) (.slice A l cA)).setCell (q1+1,3) (.slice A2 D.length c2)).setCell (q1+1,4) (.slice A3 E.length c3))=wZ at *;have v0:=p.o.cell 0 (.int .i64 (env)) rfl;have v1:=p.o.cell 1 (.bool ch) rfl;have v2:=p.o.cell 2 (.slice A l cA) rfl;have v3:=p.o.cell 3 (.slice A2 D.length c2) rfl;have v4:=p.o.cell 4 (.slice A3 E.length c3) rfl;refine bodyPost_ret (v:= .tuple #[.agg #[.int .i64 (env),ch,(A,l,cA), .slice A2 D.length c2, .slice A3 E.length c3],aU]) ?_ rfl ⟨⟨env,ch⟩,A,A2,A3,l,cA,_,_,_,_,J,U,rfl,EU.o.1,EU.o.2.1,EU.o.2.2,HWE.o⟩;simp[results,results45,go_sem,v0,v1,v2,v3,v4]
     obtain⟨i,rfl⟩:=aaO (by omega:0<=env);have hix:i<xs.length:=aQ;have hg:xs[i]?=some xs[i]:=aaG hix;have hz:=aaM hix;have HZ:=cZ hg (S.o.y _ hz) (HMM.o.2 _ hz);obtain⟨b,off,rfl,hc⟩:=S.o.x.at_ hix;have z0:=hc 0 _ (show(NP xs[i])[0]?=some (.slice xs[i].A xs[i].xs.length xs[i].c) from rfl);simp only[acI,aa3] at z0;generalize xs[i]=z at *;clear hc hg hz;have h1':(0:Int)<=i:=aQ;have h2':(i:Int)<(xs.length:Int):=aQ;have O:aH (∀W,aD I I W->aG prog 79 #[.pointer m,i,(z.A,z.xs.length,z.c)] W λr w'=>∃(A:Option aJ) (l cA:Nat),r= .returned (.slice A l cA)/\aH (∃(J:List (Int×Int)) (U:Kv),VH F5 F w (w'.setCell (q1+1+1,2) (.slice A l cA)) q1 m g c k n0 M ws xs ⟨i,ch⟩ A l cA J U/\bC (w'.setCell (q1+1+1,2) (.slice A l cA)) (q1+1+1) 73 #[i,ch,(A,l,cA), .slice A2 D.length c2, .slice A3 E.length c3]/\bC (w'.setCell (q1+1+1,2) (.slice A l cA)) (q1+1) 73 (pC none 0 0 none 0 0))/\w'.cell? (q1+1+1,2)=some (.slice none 0 0)/\w'.frozen? (q1+1+1,2)=false):=λW hW=>by
      obtain⟨bs8,a8,h8⟩:=H8.o;obtain⟨h8W,k8W⟩:=h8.below hW;have hk8:Kp F I W:=k8W.mono λb d=> .inl (C.o.1 b (.inl d))
      have hyy:=HZ.o.2.1;refine(Jx ⟨bs8,a8,h8W⟩ HK5.o (i:Int) (hyy.1.xC hk8 hyy.2.1) (λq hq=> .inl (C.o.1 _ (.inl (hyy.2.1 q hq)))) hyy.2.2 (cw:=z.c) (by have:=HMM.o.1;have:=HZ.o.2.2;omega)).mono ?_;rintro r w' ⟨A,cA,l,J,U,rfl,hnA,hAn⟩;have Y:bC w' (q1+1+1) 73 #[i,ch,bA, .slice A2 D.length c2, .slice A3 E.length c3]:=hAn.k.aZ (k8W.aZ R.o.2 (.inl C.o.2)) (.inl C.o.2);have L:bC w' (q1+1) 73 (pC none 0 0 none 0 0):=hAn.k.aZ (k8W.aZ HX8.o.2 (.inl H.o.1)) (.inl H.o.1);have Q:w'.grownBy (w'.setCell (q1+1+1,2) (.slice A l cA)) (some (q1+1+1)):=aY (bE _ _) 2 _;have f3:¬F (q1+1+1):=λd=>HG.o.2.2 (.inl d)
      have hs8:=hW.size;have hl3:=(R.o.2:bC _ _ _ _).lt;obtain⟨t1,t2,t3⟩:=Qb (F:=F) (w:=w) (q1:=q1) hAn Q C.o.2 H.o.1 H.o.2.1 f3 Z.o (H.o.2.2.1.trans hk8) (λb d=>C.o.1 b (.inl d)) aQ aQ;refine⟨A,l,cA,rfl,⟨J,U,⟨hnA,HTR.o J U (.inl ⟨i,z,rfl,HZ.o.1,hAn.r⟩),hAn.i.mono (by have:=HZ.o.2.2;omega),t1,t2,t3⟩,Y.bQ 2 _,(Q.block _ L.lt (λe=>hne (by injection e))).trans L⟩,Y.cell 2 _ rfl,Y.frozen 2⟩
     go_upto_region 24 with(fail)
     go_region_law (go_simp;(refine aS (O.o _ (Below.refl _ _).drew) ?_);rintro r K ⟨A,l,cA,rfl,u,c36,c37⟩)
     all_goals (
      obtain⟨J,U,T,EB0⟩:=u.o;have EQ:=aP T;have f:=aP EB0;clear T EB0 u O c36 c37 e0 i2 z0 R HX8 S HK8 H hnE HTR H8 HEB;generalize (K.setCell (q1+1+1,2) (.slice A l cA))=wE at *;clear K;have g0:=f.o.1.cell 0 (.int .i64 (i)) rfl;have g1:=f.o.1.cell 1 (.bool ch) rfl;have g2:=f.o.1.cell 2 (.slice A l cA) rfl;have g3:=f.o.1.cell 3 (.slice A2 D.length c2) rfl;have g4:=f.o.1.cell 4 (.slice A3 E.length c3) rfl;have r0:=f.o.2.cell 0 (.int .i64 0) rfl;have r1:=f.o.2.cell 1 (.bool false) rfl;have r2:=f.o.2.cell 2 (.slice none 0 0) rfl;have r3:=f.o.2.cell 3 (.slice none 0 0) rfl;have r4:=f.o.2.cell 4 (.slice none 0 0) rfl;have s0:=f.o.2.frozen 0;have s1:=f.o.2.frozen 1;have s2:=f.o.2.frozen 2;have s3:=f.o.2.frozen 3;have s4:=f.o.2.frozen 4;obtain⟨u1,u2,u3,u4,u5,u6⟩:=EQ.o;have HWE:aH (bB sU 2 (((((wE.setCell (q1+1,0) (.int .i64 (i))).setCell (q1+1,1) (.bool ch)).setCell (q1+1,2) (.slice A l cA)).setCell (q1+1,3) (.slice A2 D.length c2)).setCell (q1+1,4) (.slice A3 E.length c3)) w.heap.size 227 A cA J/\gC (cB F A) (((((wE.setCell (q1+1,0) (.int .i64 (i))).setCell (q1+1,1) (.bool ch)).setCell (q1+1,2) (.slice A l cA)).setCell (q1+1,3) (.slice A2 D.length c2)).setCell (q1+1,4) (.slice A3 E.length c3)) m g c U/\Kp F w (((((wE.setCell (q1+1,0) (.int .i64 (i))).setCell (q1+1,1) (.bool ch)).setCell (q1+1,2) (.slice A l cA)).setCell (q1+1,3) (.slice A2 D.length c2)).setCell (q1+1,4) (.slice A3 E.length c3))):=MY u4 u5 u6 (aY (aY (aY (aY (aY (bE wE (q1+1)) 0 _) 1 _) 2 _) 3 _) 4 _);have p:aH (bC (((((wE.setCell (q1+1,0) (.int .i64 (i))).setCell (q1+1,1) (.bool ch)).setCell (q1+1,2) (.slice A l cA)).setCell (q1+1,3) (.slice A2 D.length c2)).setCell (q1+1,4) (.slice A3 E.length c3)) (q1+1) 73 #[.int .i64 (i),ch,(A,l,cA), .slice A2 D.length c2, .slice A3 E.length c3]):=((((f.o.2.bQ 0 _).bQ 1 _).bQ 2 _).bQ 3 _).bQ 4 _;have EU:=cZ u1 u2 u3;clear u1 u2 u3 u4 u5 u6 EQ;go_wp2_with fail
      generalize (((((wE.setCell (q1+1,0) (.int .i64 (i))).setCell (q1+1,1) (.bool ch)).setCell (q1+1,2) (.slice A l cA)).setCell (q1+1,3) (.slice A2 D.length c2)).setCell (q1+1,4) (.slice A3 E.length c3))=wZ at *;have v0:=p.o.cell 0 (.int .i64 (i)) rfl;have v1:=p.o.cell 1 (.bool ch) rfl;have v2:=p.o.cell 2 (.slice A l cA) rfl;have v3:=p.o.cell 3 (.slice A2 D.length c2) rfl;have v4:=p.o.cell 4 (.slice A3 E.length c3) rfl;refine bodyPost_ret (v:= .tuple #[.agg #[.int .i64 (i),ch,(A,l,cA), .slice A2 D.length c2, .slice A3 E.length c3],aU]) ?_ rfl ⟨⟨i,ch⟩,A,A2,A3,l,cA,_,_,_,_,J,U,rfl,EU.o.1,EU.o.2.1,EU.o.2.2,HWE.o⟩;simp[results,results45,go_sem,v0,v1,v2,v3,v4])
end
end
end Go.Proofs.YtacgiflhgdaeaaaGreat
