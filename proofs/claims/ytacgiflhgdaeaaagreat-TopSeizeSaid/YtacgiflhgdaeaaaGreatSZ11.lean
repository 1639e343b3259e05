/- Texts laid as one. -/
import Derived.Deep.RegionHeld3
import Derived.Test.YtacgiflhgdaeaaaGreatSZ1
import Derived.Test.YtacgiflhgdaeaaaGreatSZ3
import Derived.Test.YtacgiflhgdaeaaaGreatSZ6
import Derived.Test.YtacgiflhgdaeaaaGreatSZ9
import Derived.Test.YtacgiflhgdaeaaaGreatSZ10
set_option linter.unusedVariables false
set_option linter.unusedSimpArgs false
set_option maxRecDepth 100000
set_option maxHeartbeats 20000000
namespace Go.Proofs.YtacgiflhgdaeaaaGreat
open Go.Proofs.Tryz
open Go renaming World->aA,Value->aC,Addr->aJ,Calls->aG
open Go.RowKit renaming Below->aD,Hid->aH,intOf->aL
open Go.Obj renaming cells->aI
section
open Go.RowKit Go.Lib Go.Shelf dL Fr Up Nt
variable{k k1 k2 k':Kv}{n:Nat}{e op N E:Int}{s:Sd}
section
theorem QV:∀(n:Nat) (L:List Nat),L.Nodup->(∀x∈L,x<n)->L.length<=n
 |0,L,_,h=>by
  cases L with
  |nil=>exact abM _
  |cons x L=>exact absurd (h x aT) (adR _)
 |n+1,L,hd,h=>by
  have h1:=QV n (L.erase n) (hd.erase n) (λx a=>by
   have b:=h x (List.mem_of_mem_erase a);have c:x≠n:=λe=>by
    rw[e] at a;exact(List.Nodup.not_mem_erase hd) a
   omega)
  have b:L.length<=(L.erase n).length+1:=by
   rw[List.length_erase];split <;> omega
  omega
theorem KI.kw(h:KI k n)(g:n<=1000000):KW k:=by
 refine⟨by have:=h.tl;omega,?_,⟨h.cn.1,by have:=h.cn.2;omega⟩,h.sd,λx a=>⟨(h.bb x a).1.1,by have:=(h.bb x a).1.2;omega⟩,by have:=h.an;omega⟩;have h1:=QV 24 (k.b.map λx=>x.cZ.toNat *6+x.dJ.toNat) ?_ (λy c=>?_)
 .rw[acS] at h1;omega
 .rw[List.Nodup,afS];refine h.bu.imp_of_mem ?_;intro x y a c d he;obtain⟨⟨e,f⟩,x3,x4⟩:=h.bb x a;obtain⟨⟨i,j⟩,y3,y4⟩:=h.bb y c;exact d ⟨aQ,aQ⟩
 .obtain⟨x,a,rfl⟩:=ad3.1 c;obtain⟨⟨e,f⟩,x3,x4⟩:=h.bb x a;omega
theorem Np{t:List En}(h:qC t)(X:En):qC (x8 t X):=by
 unfold x8;split
 .unfold ld;have hk:qC (mE t X)/\∀e∈mE t X,¬(e.env=X.env/\e.dA=X.dA):=by
   unfold mE;cases hf:fi t X.env X.dA with
   |some i=>
    obtain⟨hi,⟨a,b⟩,_⟩:=pQ hf;have:=I1 h hi;rw[a,b] at this;exact⟨AV h i,this⟩
   |none=>
    have:=M0 hf;simp only;split
    .exact⟨AV h 0,λe he=>this e (aeD he)⟩
    .exact⟨h,this⟩
  exact I9 hk.1 hk.2
 .exact h
theorem Ny{t:List En}(h:t.length<=16)(X:En):(x8 t X).length<=16:=by
 unfold x8;split
 .unfold ld mE;rw[ab2,ae4];cases hf:fi t X.env X.dA with
  |some i=>
   obtain⟨hi,_,_⟩:=pQ hf;simp only;rw[adK,abP hi];omega
  |none=>
   simp only;split
   .rw[adK,abP aQ];omega
   .omega
 .exact h
theorem N3(G:List cP):∀t:List En,(iI t G).Sublist t:=by
 induction G with
 |nil=>intro t;exact adG _
 |cons p G a=>
  intro t;refine List.Sublist.trans (a (yK t p)) ?_;unfold yK;split
  .exact List.filter_sublist
  .exact adG _
theorem GY(L:List Nt)(o:Int):∀n,(qP L o n).Sublist L
 |0=>adG _
 |n+1=>by
  refine List.Sublist.trans (l₂:=qP L o n) ?_ (GY L o n);show(qH (qP L o n) (n:Nat) o).Sublist (qP L o n);generalize qP L o n=M;unfold qH;split
  .exact afW _ _
  .exact adG _
structure Sm(k k':Kv):Prop where
 s:k'.s=k.s
 n:k'.n=k.n
 c:k'.c.n=k.c.n
 t:k'.t.Sublist k.t
 b:k'.b.Sublist k.b
 f:k'.f.n=k.f.n
 v:k'.v=k.v
theorem Sm.refl(k:Kv):Sm k k:=⟨rfl,rfl,rfl,adG _,adG _,rfl,rfl⟩
theorem Sm.trans(h:Sm k k1)(a:Sm k1 k2):Sm k k2:=⟨a.s.trans h.s,a.n.trans h.n,a.c.trans h.c,a.t.trans h.t,a.b.trans h.b,a.f.trans h.f,a.v.trans h.v⟩
theorem kD.sm{o:Int}(r:kD k o k'):Sm k k':=by
 obtain⟨L,_,rfl⟩:=r;exact⟨rfl,rfl,FR _ _,N3 _ _,GY _ _ _,(JX k.f o).1,rfl⟩
theorem MS(k:Kv)(num:Int)(self:Bool)(L:List cP):Sm k (gY k num self L):=⟨rfl,rfl,FR _ _,N3 _ _,adG _,rfl,rfl⟩
theorem gC.sm{l:List cP}(r:gC l k k'):Sm k k':=by
 induction r with
 |nil _=>exact Sm.refl _
 |skip _ _ a=>exact a
 |fY _ r1 _ a=>exact r1.sm.trans a
theorem jA.sm{l:List Int}(r:jA e l k k'):Sm k k':=by
 induction r with
 |nil _=>exact Sm.refl _
 |no _ _ a=>exact a
 |drop _ L _ _ a=>exact(MS _ _ _ L).trans a
theorem nJ.sm{o:Int}(r:nJ e o k k'):Sm k k':=by
 cases r with
 |no _ h=>rw[h];exact Sm.refl _
 |keep _ r _=>exact r.sm
 |fY _ r _ a=>exact r.sm.trans a.sm
theorem KI.sm(h:KI k n)(s:Sm k k'):KI k' n:=
 ⟨by rw[s.s];exact h.sd,by rw[s.s];exact h.p4,by rw[s.c];exact h.cn,abT s.t.length_le h.tl,h.tu.sublist s.t,λx a=>h.bb x (s.b.subset a),h.bu.sublist s.b,by rw[s.f];exact h.f6,by rw[s.n];exact h.an⟩
theorem KI.EG(h:KI k n)(hs:gQ s)(hp:s.P.length=4):KI {k with s:=s} n:=⟨hs,hp,h.cn,h.tl,h.tu,h.bb,h.bu,h.f6,h.an⟩
theorem vV(h:gQ s)(hp:s.P.length=4)(e:Int)(b:Bool):gQ (jZ s e b)/\(jZ s e b).P.length=4:=by
 unfold jZ;split
 .exact⟨h.EY _ _,by show(List.modify _ _ _).length=4;rw[adI];exact hp⟩
 .exact⟨h,hp⟩
theorem KI.tell(h:KI k n)(e:Int):KI (dQ k e) n:=by
 unfold dQ;split
 .obtain⟨h1,a⟩:=vV h.sd h.p4 e true;exact h.EG h1 a
 .exact h
theorem KI.mO(l:List Int):∀{k:Kv},KI k n->KI (dY k l) n:=by
 induction l with
 |nil=>intro k h;exact h
 |cons e l a=>intro k h;exact a (h.tell e)
theorem FV(h:gQ s)(hp:s.P.length=4)(e bu pe:Int):gQ (qK s e bu pe)/\(qK s e bu pe).P.length=4:=by
 unfold qK;split
 .rename_i hi;have hi:=adB hi;refine⟨h.res aQ bu pe,?_⟩;unfold EM;split
  .show(List.modify _ _ _).length=4;rw[adI];exact hp
  .exact hp
 .exact⟨h,hp⟩
theorem UU(h:gQ s)(hp:s.P.length=4)(e:Int):gQ (sD s e)/\(sD s e).P.length=4:=by
 unfold sD;cases a:tQ s e with
 |none=>exact⟨h,hp⟩
 |some v=>
  simp only;unfold tQ at a;split at a
  .cases hq:s.P[e.toNat]? with
   |none=>rw[hq] at a;cases a
   |some p=>
    rw[hq] at a;refine⟨h.rel hq a,?_⟩;show(List.modify _ _ _).length=4;rw[adI];exact hp
  .cases a
theorem KI.put{k:Kv}{n:Nat}(h:KI k n)(e s kd ob rt pf:Int):KI {k with c:=(dB k.c e s kd ob rt pf).2} (n+1):=by
 have h1:=B0 h.cn.1 e s kd ob rt pf;have a:=h.cn;exact⟨h.sd,h.p4,⟨h1.1,by have:=h1.2;show(dB k.c e s kd ob rt pf).2.n<=((n+1:Nat):Int);omega⟩,h.tl,h.tu,h.bb,h.bu,h.f6,Nat.le_succ_of_le h.an⟩
theorem KI.pass{k:Kv}{n:Nat}(h:KI k n)(env from_ other to_ rights more:Int):KI {k with c:=(gV k.c env from_ other to_ rights more).2} (n+1):=by
 rcases wU (C:=k.c) (env:=env) (from_:=from_) (other:=other) (to_:=to_) (rights:=rights) (more:=more) with a|⟨i,_,_,_,_,b⟩
 .rw[a];exact h.mono (ac8 _)
 .rw[b];exact h.put _ _ _ _ _ _
theorem lH.ki{A B C D:Int}(h:KI k n)(r:lH k e op A B C D N E k'):KI k' (n+1):=by
 have hs:=h.mono (ac8 n);cases r with
 |alloc _=>
  unfold lJ;split
  .exact hs
  .split
   .exact hs
   .split
    .rename_i hf;have:fV k.f=k.f:=by unfold fV;rw[hf]
     rw[this];exact hs
    .rename_i i hf;have hp:=h.put e A 1 i 15 0;have b:(fV k.f).n=6:=by
      unfold fV;rw[hf];exact h.f6
     split <;> exact⟨hp.sd,hp.p4,hp.cn,hp.tl,hp.tu,hp.bb,hp.bu,b,hp.an⟩
 |free _ r=>
  unfold rM at r;split at r
  .rw[r.2];exact hs
  .exact hs.sm r.2.sm
 |read _=>exact hs
 |write _=>
  unfold oD;split
  .exact hs
  .rename_i x _;split
   .exact hs
   .have:=(wQ k.f x.ob B (C%256)).1;exact⟨hs.sd,hs.p4,hs.cn,hs.tl,hs.tu,hs.bb,hs.bu,this.trans h.f6,hs.an⟩
 |load _=>
  unfold mP;split
  .exact hs
  .split
   .exact hs
   .exact⟨hs.sd,hs.p4,hs.cn,Ny h.tl _,Np h.tu _,hs.bb,hs.bu,hs.f6,hs.an⟩
 |zG _=>exact hs.sm ⟨rfl,rfl,rfl,List.filter_sublist,adG _,rfl,rfl⟩
 |hand _ r=>
  unfold gT at r;split at r
  .injection r with _ r;rw[r];exact h.pass _ _ _ _ _ _
  .split at r
   .split at r
    .injection r with _ r;rw[r];exact h.pass _ _ _ _ _ _
    .rw[r.2];exact hs
   .split at r
    .unfold pW at r;split at r
     .rw[r.2];exact hs
     .obtain⟨_,L,_,rfl⟩:=r;exact hs.sm (MS _ _ _ L)
    .unfold wP at r;split at r
     .rw[r.2];exact hs
     .obtain⟨_,L,_,c⟩:=r;exact hs.sm ((MS _ _ _ L).trans c.sm)
 |line _=>exact hs
 |p7 _ hm=>exact⟨hs.sd,hs.p4,hs.cn,hs.tl,hs.tu,hs.bb,hs.bu,hs.f6,by have:=h.an;have:=hm.2;show(_:Nat)<=n+1;simp only;omega⟩
 |time _ r=>
  unfold mQ at r;split at r
  .rw[r.2];obtain⟨h1,a⟩:=FV h.sd h.p4 e C D;exact hs.EG h1 a
  .split at r
   .rw[r.2];obtain⟨h1,a⟩:=UU h.sd h.p4 e;exact hs.EG h1 a
   .rcases r with rfl|rfl
    .exact hs
    .obtain⟨h1,a⟩:=vV h.sd h.p4 e false;exact hs.EG h1 a
 |send _ r=>
  rcases r with rfl|⟨o,rfl⟩
  .exact hs
  .exact hs.tell o
 |next _ _=>exact hs
 |null _=>exact hs
theorem kB.ki{l:List Nt}(r:kB l k k'):KI k n->KI k' n:=by
 induction r with
 |nil _=>exact λh=>h
 |cons r1 _ a=>exact λh=>a ((h.sm r1.sm).tell _)
theorem kQ.ki(h:KI k n)(r:kQ k k'):KI k' n:=by
 obtain⟨l1,a,T,e,_,ho,rfl⟩:=r;have h1:=h.mO l1;have c:KI {dY k l1 with b:=k.b.filter λx=>decide (k.s.nw<x.dD),v:=T.foldl jI k.v} n:=
  ⟨h1.sd,h1.p4,h1.cn,h1.tl,h1.tu,λx d=>h.bb x (ac1.1 d).1,h.bu.filter _,h1.f6,h1.an⟩
 exact(ho.ki c).mO a
theorem Dq(h:KI k n)(e o gr:Int):KI (gZ k e o gr).2 n:=by
 unfold gZ;split
 .exact h
 .rename_i hc;split
  .exact h
  .split
   .exact h
   .rename_i hw;refine KI.tell ?_ e;have hw:(gU k.b e o k.s.nw gr).1=0:=acD hw;have he:(0<=e/\e<4)/\0<=o/\o<6:=by
     simp only[Bool.not_eq_true',not_or,oC,decide_eq_false_iff_not,Decidable.not_not] at hc;omega
    unfold gU at hw;split at hw
    .rename_i f;split at hw
     .cases hw
     .rename_i hp;have c:(gU k.b e o k.s.nw gr).2=k.b++ [⟨e,o,k.s.nw+gr,0⟩]:=by
       unfold gU;rw[abP f,abQ hp]
      refine⟨h.sd,h.p4,h.cn,h.tl,h.tu,λx a=>?_,?_,h.f6,h.an⟩
      .replace a:x∈(gU k.b e o k.s.nw gr).2:=a;rw[c] at a;rcases ab6.1 a with a|a
       .exact h.bb x a
       .rw[ab0.1 a];exact he
      .show List.Pairwise _ (gU k.b e o k.s.nw gr).2;rw[c,aeG];refine⟨h.bu,aeH _ _,λx a y g=>?_⟩;rw[ab0.1 g];intro d;have hf:OT k.b e o=none:=by
        unfold qW at hp;cases hq:OT k.b e o with
        |none=>rfl
        |some i=>rw[hq] at hp;simp only at hp;omega
       have:=ac0.1 hf x a;unfold tE at this;simp[d.1,d.2] at this
    .cases hw
end
variable{A A9:Option aJ}{F:Nat->Prop}{sz i m g n0 c9 cw:Nat}{w w' wr wb w9:aA}{D:List (Int×Int)}
section
def kW(A:Option aJ)(n:Nat):Option Nat:=if n=0 then none else aY A
theorem MN(h:∀q,aY A=some q->F q)(n:Nat):∀q,kW A n=some q->F q:=λq hq=>by
 unfold kW at hq;split at hq
 .cases hq
 .exact h q hq
theorem JC:∀q,kW A 0=some q->F q:=λq hq=>by unfold kW at hq;cases hq
theorem Sl.BI{α:Type}{enc:α->List aC}{xs:List α}(h:Sl enc sz w A xs)(hk:Kp F w w')(hF:∀q,kW A xs.length=some q->F q):Sl enc sz w' A xs:=λc=>by
 obtain⟨b,off,a,hc⟩:=h c;exact⟨b,off,a,λi x j u d hu=>hk.cell (hc i x j u d hu) (hF b (by unfold kW;rw[abQ aQ,a];rfl))⟩
def EJ(x:Int):Int:=((x.toNat%256:Nat):Int)
def aW(x:Int):Int:=((x.toNat /256%256:Nat):Int)
def bW(x:Int):Int:=((x.toNat /65536%256:Nat):Int)
def cW(x:Int):Int:=((x.toNat /16777216%1048576:Nat):Int)
def dW(x:Int):Int:=((x.toNat /17592186044416:Nat):Int)
def LJ(x:Int):Bool:=Pa.iR (EJ x) (aW x) (bW x) (cW x) (dW x)
theorem NO(x:Int)(b:0<=x/\x<18446744073709551616)(w:aA):aG prog 118 #[.int .u64 x] w λe w'=>e= .returned (if LJ x then .tuple #[.agg #[.int .i64 (EJ x), .int .i64 (aW x), .int .i64 (bW x), .int .i64 (cW x), .int .i64 (dW x)],aU] else .tuple #[.agg #[aU,aU,aU,aU,aU], .int .i64 21])/\aD w w w':=by
 obtain⟨n,rfl⟩:=abR b.1;have a:n<18446744073709551616:=aQ;exact Pa.Al n _ _ _ _ _ w a (Pa.ER n a) aQ _ rfl
def iM(c e:Int)(i:Nat)(x:Int)(k:Kv)(N E:Int)(k':Kv):Prop:=
 if c<=i then N=0/\E=22/\k'=k
 else if LJ x then lH k e (EJ x) (aW x) (bW x) (cW x) (dW x) N E k'\/(N=0/\E=1/\k'=k)
 else N=0/\E=21/\k'=k
inductive uK (c e:Int) (k:Kv):List Int->List (Int×Int)->Kv->Prop
 |nil:uK c e k [] [] k
 |snoc {ws:List Int} {D:List (Int×Int)} {k1 k2:Kv} {N E:Int} (r:uK c e k ws D k1) (x:Int) (h:iM c e ws.length x k1 N E k2):uK c e k (ws++ [x]) (D++ [(N,E)]) k2
def vL(x:Int×Int):List aC:= [.int .u64 x.1, .int .i64 x.2]
theorem CG:eW vL 2:=⟨λ_=>rfl,λx u hu=>by simp[vL] at hu;rcases hu with rfl|rfl <;> rfl⟩
theorem Ej:jL prog 70 227 2 16:=fP (z:= .agg #[bC,aU]) underlying70 aV (by simp[Value.cells]) aQ
theorem iM.ki{c:Int}{x:Int}(r:iM c e i x k N E k')(h:KI k n):KI k' (n+1):=by
 unfold iM at r;split at r
 .rw[r.2.2];exact h.mono (ac8 _)
 .split at r
  .rcases r with r|r
   .exact r.ki h
   .rw[r.2.2];exact h.mono (ac8 _)
  .rw[r.2.2];exact h.mono (ac8 _)
structure GZ(F:Nat->Prop)(w wr:aA)(m g:Nat)(c e:Int)(k:Kv)(n0:Nat)(ws:List Int)(A:Option aJ)(c2:Nat)(D:List (Int×Int))(k1:Kv):Prop where
 r:uK c e k ws D k1
 i:KI k1 (n0+ws.length)
 o:bI vL 2 wr w.heap.size 227 A c2 D
 s:gH (cI F A) wr m g c k1
 k:Kp F w wr
theorem GZ.app{c:Int}{ws:List Int}{c2:Nat}{x:Int}(h:GZ F w wr m g c e k n0 ws A c2 D k1)(fl:Ol F w)(d:iM c e ws.length x k1 N E k2)
 (hs:gH (cI F A) wb m g c k2) (hk:Kp F w wb) (p:w.heap.size<=wb.heap.size) (a:bI vL 2 w9 w.heap.size 227 A9 c9 (D++ [(N,E)])) (f:wb.grownBy w9 (aY A)) (ha:aY A9=aY A\/aY A9=some wb.heap.size):GZ F w w9 m g c e k n0 (ws++ [x]) A9 c9 (D++ [(N,E)]) k2:=by
 obtain⟨j,l⟩:=dV.app (gH.cH m g c k2) hs (fl.kp hk) (λb hb n=>by have:=(h.o.lt b n).1;have:=fl b hb;omega) f ha (λq hq=>(a.lt q hq).2);refine⟨h.r.snoc x d,?_,a,j,hk.trans l⟩;have:=d.ki h.i;rw[ab2,ae4,<-acU];exact this
def Lf(F:Nat->Prop)(m g:Nat)(c e:Int)(k:Kv)(n0:Nat)(ws:List Int)(w:aA)(r:Ending)(w':aA):Prop:=∃(A:Option aJ) (c2 n:Nat) (D:List (Int×Int)) (k1:Kv),r= .returned (.slice A n c2)/\n=D.length/\GZ F w w' m g c e k n0 ws A c2 D k1
theorem Hu{c:Int}(h:gH F w m g c k)(hI:KI k n0)(e:Int){ws:List Int}(hs:Sl eU 1 w A ws)(hA:∀q,kW A ws.length=some q->F q)(hw:∀x∈ws,0<=x/\x<18446744073709551616)(hn:n0+ws.length<999999):aG prog 79 #[.pointer m,e,(A,ws.length,cw)] w (Lf F m g c e k n0 ws w):=by
 have fl:Ol F w:=by
  obtain⟨_,_,h⟩:=h;exact h.fl
 have HF:=aP fl;have HS:=dH hs hA hw;have HQ:aH (GZ F w w m g c e k n0 [] none 0 [] k):=⟨.nil,hI,bI.nil _ _ _,(by
  obtain⟨V,a,h⟩:=h;exact⟨V,a,h.less (λb hb=>by rcases hb with hb|hb;exact hb;cases hb)⟩),Kp.refl _ _⟩
 have HN:=aP hn;have hl:ws.length<=1000000:=aQ;clear h hI hs hA hw fl hn;go_enter func79,ntmps79
 go_wp2_with fail
 go_loopw [7,15] (λv7 X wr=>∃(i n:Nat) (I:Option aJ) (c2:Nat) (D:List (Int×Int)),X= .int .i64 i/\v7= .slice I n c2/\i<=ws.length/\n<=i/\aH (n=D.length/\∃j,GZ F w wr m g c e k n0 (ws.take i) I c2 D j)) (λ_ X _=>ws.length - (aL X).toNat)
 case atStart=>exact⟨0,0,none,0, [],rfl,rfl,abX _,abM _,rfl,k,HQ.o⟩
 case round=>
  clear HQ;obtain⟨i,n,I,c2,D,rfl,rfl,hi,hni,v⟩:=hrel;obtain⟨Y,j,hx⟩:=v.o;clear v;have v:=aP hx;have y:=aP Y;by_cases Z:i<ws.length
  .obtain⟨b,off,rfl,z⟩:=(HS.o.1.BI hx.k HS.o.2.1).Z8 Z;have HXW:=aP (HS.o.2.2 ws[i] (abV Z));have a1:aH (ws.take (i+1)=ws.take i++ [ws[i]]):=by unfold aH;rw[acV,abL Z];rfl
   have K:aH ((ws.take i).length=i):=by unfold aH;rw[acQ];omega
   have i0:(0:Int)<=i:=aQ;have i1:(i:Int)<(ws.length:Int):=aQ;have J:aH (w.heap.size<=wr.heap.size):=hx.k.size;obtain⟨V,a,a6⟩:=hx.s;have m1:=a6.c1;have p:=aP a6;generalize ws[i]=x at *;clear hx Y a6;by_cases hc:c<=(i:Int)
   .have HO:aH (iM c e (ws.take i).length x j 0 22 j):=by
     unfold aH iM;rw[K.o,abP hc];exact⟨rfl,rfl,rfl⟩
    go_upto_region 6 with(fail)
    clear z m1;go_wp2_with(at_builtin;refine bS _ rfl _ _ rfl Ej CG (v.o.o.alloc _) (n:=n) y.o.symm rfl (m:=1) rfl (ys:= [(0,22)]) rfl (Sl.fL CG wr (0,22) _ rfl _ aT) dN aQ (abT J.o aT) _ rfl (n+1) rfl ?_;intro O c9 w9 d t u)
    have f:=aX wr (aI #[bC, .int .i64 22] 227);have HE:aH (n+1=(D++ [((0:Int),(22:Int))]).length/\∃j,GZ F w w9 m g c e k n0 (ws.take (i+1)) O c9 (D++ [(0,22)]) j):=by
     refine⟨by rw[ab2,<-y.o];rfl,j,?_⟩;rw[a1.o];exact v.o.app HF.o HO.o ⟨V,a,(p.o.below f).1⟩ (v.o.k.trans ((p.o.below f).2.mono λb hb=> .inl hb)) (abT J.o f.size) d t u
    clear d t u f;go_roundw
    case rel=>exact⟨i+1,n+1,O,c9,_,by go_num,rfl,aQ,aQ,HE.o⟩
    case measure=>simp[aL];omega
   .have H:=NO x HXW.o wr;have HC:=aP hc;cases hr:LJ x with
    |false=>
     rw[hr] at H;simp only[acH,acG] at H;have H:=aP H;have HO:aH (iM c e (ws.take i).length x j 0 21 j):=by
      unfold aH iM;rw[K.o,abQ HC.o,hr];exact⟨rfl,rfl,rfl⟩
     clear hr;go_wp2_with fail
     refine aR H ?_;rintro r w2 ⟨rfl,l⟩;clear H m1 z;go_upto_region 9 with(fail)
     have f:aH (aD wr wr (w2.alloc (aI #[aU,aU,aU,aU,aU] 281))):=l.alloc l.size _;generalize w2.alloc (aI #[aU,aU,aU,aU,aU] 281)=P at *;have HO3:aH (bI vL 2 P w.heap.size 227 I c2 D):=v.o.o.keep f.o;have hz3:aH (w.heap.size<=P.heap.size):=abT J.o f.o.size;clear l;go_wp2_with(at_builtin;refine bS _ rfl _ _ rfl Ej CG (HO3.o.alloc _) (n:=n) y.o.symm rfl (m:=1) rfl (ys:= [(0,21)]) rfl (Sl.fL CG P (0,21) _ rfl _ aT) dN aQ (abT hz3.o aT) _ rfl (n+1) rfl ?_;intro O c9 w9 d t u)
     have C:=f.o.alloc f.o.size (aI #[bC, .int .i64 21] 227);have HE:aH (n+1=(D++ [((0:Int),(21:Int))]).length/\∃j,GZ F w w9 m g c e k n0 (ws.take (i+1)) O c9 (D++ [(0,21)]) j):=by
      refine⟨by rw[ab2,<-y.o];rfl,j,?_⟩;rw[a1.o];exact v.o.app HF.o HO.o ⟨V,a,(p.o.below C).1⟩ (v.o.k.trans ((p.o.below C).2.mono λb hb=> .inl hb)) (abT J.o C.size) d t u
     clear d t u C;go_roundw
     case rel=>exact⟨i+1,n+1,O,c9,_,by go_num,rfl,aQ,aQ,HE.o⟩
     case measure=>simp[aL];omega
    |true=>
     rw[hr] at H;simp only[ac3] at H;have HO:aH (∀N E B,(lH j e (EJ x) (aW x) (bW x) (cW x) (dW x) N E B\/(N=0/\E=1/\B=j))->iM c e (ws.take i).length x j N E B):=λN E B h=>by
      unfold iM;rw[K.o,abQ HC.o,hr];exact h
     have HDo:aH (∀(G:Nat->Prop) (W:aA) (a:Ka),bT G W g a j->aG prog 119 #[.pointer g,e, .agg #[.int .i64 (EJ x), .int .i64 (aW x), .int .i64 (bW x), .int .i64 (cW x), .int .i64 (dW x)]] W (p9 G g j e (EJ x) (aW x) (bW x) (cW x) (dW x) W)):=λG W a hk=>by
      have h1:=v.o.i;have h2:=K.o;have h3:=HN.o;refine TW hk (h1.kw aQ) ?_ e _ _ _ _ _;have:=h1.an;omega
     clear hr;generalize EJ x=Q at *;generalize aW x=R at *;generalize bW x=S at *;generalize cW x=T at *;generalize dW x=U at *;have H:=aP H;go_wp2_with fail
     refine aR H ?_;rintro r w2 ⟨rfl,l⟩;clear H m1 z;go_upto_region 10 with(fail)
     have bb:=bE.new w2 281 #[Q,R,S,T,U];have H3:=aP (And.intro ((iQ.cH m g c V a j).box (p.o.below l).1 (p.o.below l).1.fl (aI #[Q,R,S,T,U] 281)) ((p.o.below l).2.trans ((p.o.below l).1.below (aX w2 (aI #[Q,R,S,T,U] 281))).2));generalize w2.alloc (aI #[Q,R,S,T,U] 281)=P at *;generalize w2.heap.size=q3 at *;have m0:=H3.o.1.c0;have x0:=bb.cell 0 Q rfl;have x1:=bb.cell 1 R rfl;have x2:=bb.cell 2 S rfl;have x3:=bb.cell 3 T rfl;have x4:=bb.cell 4 U rfl;have HDR:aH (aG prog 119 #[.pointer g,e, .agg #[Q,R,S,T,U]] P.drew λr w'=>∃(N E:Int) (B:Kv) (a2:Ka),r= .returned (.tuple #[.int .u64 N, .int .i64 E])/\aH (lH j e Q R S T U N E B\/(N=0/\E=1/\B=j))/\aH (iQ (Fb (cI F I) q3) w' m g c V a2 B/\Kp (Fb (cI F I) q3) P w')):=by
      have hd:=H3.o.1.below (Below.refl P P).drew;obtain⟨G,hk,back⟩:=hd.1.kn;refine(HDo.o G _ a hk).mono ?_;rintro r w' ⟨N,E,B,hdo,rfl,⟨a2,h2⟩,k2'⟩;obtain⟨b1,b2⟩:=back a2 B w' h2 k2';exact⟨N,E,B,a2,rfl,hdo,b1,hd.2.trans b2⟩
     clear HDo l bb;go_region_held3 (λW=>W.cell? (m,0)=some (.pointer g)/\W.cell? (q3,0)=some (.int .i64 Q)/\W.cell? (q3,1)=some (.int .i64 R)/\W.cell? (q3,2)=some (.int .i64 S)/\W.cell? (q3,3)=some (.int .i64 T)/\W.cell? (q3,4)=some (.int .i64 U)) (first|with_reducible exact⟨‹_›,‹_›,‹_›,‹_›,‹_›,‹_›⟩|exact⟨m0,x0,x1,x2,x3,x4⟩|fail) ((go_at_call 119;(refine aR HDR ?_);rintro r w4 ⟨N,E,B,a2,rfl,HDD,L⟩;(have m04:=L.o.1.c0);(have x04:=L.o.2.cell x0 (.inr rfl));(have x14:=L.o.2.cell x1 (.inr rfl));(have DT:=L.o.2.cell x2 (.inr rfl));(have x34:=L.o.2.cell x3 (.inr rfl));(have x44:=L.o.2.cell x4 (.inr rfl))))
     have M:aH (gH (cI F I) w4 m g c B/\Kp (cI F I) wr w4):=⟨⟨V,a2,L.o.1.less (λb hb=> .inl hb)⟩,H3.o.2.trans (L.o.2.mono λb hb=> .inl hb)⟩
     have HO4:aH (bI vL 2 w4 w.heap.size 227 I c2 D):=v.o.o.kp M.o.2 (λq hq=> .inr hq);have hz4:aH (w.heap.size<=w4.heap.size):=abT J.o M.o.2.size;have HOO:=aP (HO.o N E B HDD.o);clear L H3 HDR m0 x0 x1 x2 x3 x4 m04 x04 x14 DT x34 x44 HO HDD;go_wp2_with(at_builtin;refine bS _ rfl _ _ rfl Ej CG (HO4.o.alloc _) (n:=n) y.o.symm rfl (m:=1) rfl (ys:= [(N,E)]) rfl (Sl.fL CG w4 (N,E) _ rfl _ aT) dN aQ (abT hz4.o aT) _ rfl (n+1) rfl ?_;intro O c9 w9 d t u)
     have HE:aH (n+1=(D++ [(N,E)]).length/\∃j,GZ F w w9 m g c e k n0 (ws.take (i+1)) O c9 (D++ [(N,E)]) j):=by
      refine⟨by rw[ab2,<-y.o];rfl,B,?_⟩;rw[a1.o];obtain⟨bs4,a4,h4⟩:=M.o.1;have f:=h4.below (aX w4 (aI #[.int .u64 N, .int .i64 E] 227));exact v.o.app HF.o HOO.o ⟨bs4,a4,f.1⟩ ((v.o.k.trans (M.o.2.mono λb hb=> .inl hb)).trans (f.2.mono λb hb=> .inl hb)) (abT hz4.o (aX w4 _).size) d t u
     clear d t u;go_roundw
     case rel=>exact⟨i+1,n+1,O,c9,_,by go_num,rfl,aQ,aQ,HE.o⟩
     case measure=>simp[aL];omega
  .obtain rfl:i=ws.length:=aQ;have i1:¬(ws.length:Int)<(ws.length:Int):=aQ;have HE:aH (Lf F m g c e k n0 ws w (.returned (.slice I n c2)) wr):=⟨I,c2,n,D,j,rfl,y.o,by have:=v.o;rw[adS] at this;exact this⟩
   clear v hx Y;go_wp2_with fail
   go_ret
   exact HE.o
end
variable{X:(Nat->Prop)->aA->Prop}{H G F5:Nat->Prop}{r:Option Nat}{AR AW AX:Option aJ}{ws:List (Int×Int×Int)}{na:List Bool}{W W' w8:aA}{q q1 cA q3 q5 cR cX:Nat}{kE:Kv}{DA:List (Int×Int)}{us:List Int}
section
theorem Gn:jL prog 71 45 1 8:=fP (z:= .int .i64 0) underlying71 aV (by simp[Value.cells]) aQ
theorem VE{a:Ka}(h:bT F w g a k)(i:Int):aG prog 74 #[.pointer a.gi,i] w λr w'=>∃(v:Int) (a':Ka),r= .returned (.int .i64 v)/\bT F w' g a' k/\Kp F w w':=by
 obtain⟨G,b,back⟩:=h.ir;refine(YG b i).mono ?_;rintro r w' ⟨v,L,rfl,hl,d,k2⟩;obtain⟨b1,b2⟩:=back L w' hl d k2;exact⟨v,_,rfl,b1,b2⟩
def pE(A2:Option aJ)(n2 c2:Nat)(A3:Option aJ)(n3 c3:Nat):Array aC:=#[aU,false,bH,(A2,n2,c2),(A3,n3,c3)]
structure nU(G:Nat->Prop)(w3 wr:aA)(q3 m g:Nat)(c:Int)(A2:Option aJ)(c2:Nat)(D:List Int)(A3:Option aJ)(c3:Nat)(E:List Int)(k:Kv):Prop where
 s:gH (cI (cI (Fb G q3) A2) A3) wr m g c k
 k:Kp G w3 wr
 b:bE wr q3 73 (pE A2 D.length c2 A3 E.length c3)
 o2:bI eI 1 wr w3.heap.size 45 A2 c2 D
 o3:bI eI 1 wr w3.heap.size 45 A3 c3 E
 ap:aY A2=none\/aY A2≠aY A3
section
variable{G:Nat->Prop}{w3 wr wb w9:aA}{q3 m g:Nat}{c:Int}{A2 A3 A9:Option aJ}{c2 c3 c9:Nat}{D E:List Int}{k k2:Kv}
theorem nU.eY(h:nU G w3 wr q3 m g c A2 c2 D A3 c3 E k)(hs:gH (cI (cI (Fb G q3) A2) A3) wb m g c k2)(kp:Kp (cI (cI (Fb G q3) A2) A3) wr wb):nU G w3 wb q3 m g c A2 c2 D A3 c3 E k2:=
 ⟨hs,h.k.trans (kp.mono λb hb=> .inl (.inl (.inl hb))),kp.aY h.b (.inl (.inl (.inr rfl))),h.o2.kp kp (λq hq=> .inl (.inr hq)),h.o3.kp kp (λq hq=> .inr hq),h.ap⟩
theorem nU.below(h:nU G w3 wr q3 m g c A2 c2 D A3 c3 E k)(hb:aD wr wr wb):nU G w3 wb q3 m g c A2 c2 D A3 c3 E k:=by
 obtain⟨b,a,hs⟩:=h.s;exact h.eY ⟨b,a,(hs.below hb).1⟩ (hs.below hb).2
theorem dV.gr(M:dV X)(h:X F w)(f:w.grownBy w' r)(i:∀q,r=some q->F q)(fl:Ol H w')(hH:∀b,b<w.heap.size->H b->F b):X H w':=
 M F (λb=>b<w.heap.size/\some b≠r) H w w' h (Kp.grown f λb hb=>hb) (λx a d=>⟨a,λe=>d (i x e.symm)⟩) fl (λx a d hc=>d (hH x a hc))
theorem nU.Gh(h:nU G w3 wb q3 m g c A2 c2 D A3 c3 E k)(fl:Ol G w3)(hq:q3<w3.heap.size)(t:¬G q3){v:Int}(a:bI eI 1 w9 w3.heap.size 45 A9 c9 (D++ [v]))(j:wb.grownBy w9 (aY A2))(ha:aY A9=aY A2\/aY A9=some wb.heap.size)(u:n=(D++ [v]).length):w9.cell? (q3,3)=some (.slice A2 D.length c2)/\w9.frozen? (q3,3)=false/\nU G w3 (w9.setCell (q3,3) (.slice A9 n c9)) q3 m g c A9 c9 (D++ [v]) A3 c3 E k:=by
 subst u;have i:Kp G wb w9:=Kp.grown j λb hb=>⟨abO (fl b hb) h.k.size,λe=>by have:=(h.o2.lt b e.symm).1;have:=fl b hb;omega⟩
 have f:bE w9 q3 73 (pE A2 D.length c2 A3 E.length c3):=(j.block q3 h.b.lt (λe=>by have:=(h.o2.lt q3 e.symm).1;omega)).trans h.b;have p:=h.o3.kept j (by
  rcases h.ap with e|e
  .cases l:aY A3 with
   |none=>exact .inl rfl
   |some q=>exact .inr (by rw[e];intro hc;cases hc)
  .exact .inr (λhc=>e hc.symm))
 have r:∀q,aY A9=some q->q<w9.heap.size:=λq hq=>(a.lt q hq).2
 have o:gH (cI (cI (Fb G q3) A9) A3) w9 m g c k:=dV.gr (gH.cH m g c k) h.s j (λq hq=> .inl (.inr hq)) (λb hb=>by
  rcases hb with(hb|hb)|hb
  .rcases hb with hb|rfl
   .exact abO (fl b hb) (abT h.k.size i.size)
   .exact f.lt
  .exact r b hb
  .exact(p.lt b hb).2) (λb x hb=>by
  rcases hb with(hb|hb)|hb
  .exact .inl (.inl hb)
  .rcases ha with ha|ha
   .exact .inl (.inr (ha.symm.trans hb))
   .rw[ha] at hb;injection hb with hb;omega
  .exact .inr hb)
 have d:w9.grownBy (w9.setCell (q3,3) (.slice A9 (D++ [v]).length c9)) (some q3):=aZ (bL w9 q3) 3 _;refine⟨f.cell 3 _ rfl,f.frozen 3,?_,(h.k.trans i).trans (Kp.grown d λb hb=>⟨abO (fl b hb) (abT h.k.size i.size),λe=>t (by injection e with e;rw[<-e];exact hb)⟩),?_,?_,?_,?_⟩
 .exact dV.gr (gH.cH m g c k) o d (λq hq=>by injection hq with hq;rw[<-hq];exact .inl (.inl (.inr rfl))) (λb hb=>by
   obtain⟨_,_,o⟩:=o;exact abO (o.fl b hb) d.size) (λb _ hb=>hb)
 .have:=f.cB 3 (.slice A9 (D++ [v]).length c9);exact this
 .exact(a).kept d (by
   cases l:aY A9 with
   |none=>exact .inl rfl
   |some q=>exact .inr (λe=>by injection e with e;have:=(a.lt q l).1;omega))
 .exact(p).kept d (by
   cases l:aY A3 with
   |none=>exact .inl rfl
   |some q=>exact .inr (λe=>by injection e with e;have:=(p.lt q l).1;omega))
 .rcases ha with ha|ha
  .rw[ha];exact h.ap
  .refine .inr (λe=>?_);rw[ha] at e;have:=(h.o3.lt _ e.symm).2;omega
theorem nU.Eg(h:nU G w3 wb q3 m g c A2 c2 D A3 c3 E k)(fl:Ol G w3)(hq:q3<w3.heap.size)(t:¬G q3){v:Int}(a:bI eI 1 w9 w3.heap.size 45 A9 c9 (E++ [v]))(l:wb.grownBy w9 (aY A3))(ha:aY A9=aY A3\/aY A9=some wb.heap.size)(u:n=(E++ [v]).length):w9.cell? (q3,4)=some (.slice A3 E.length c3)/\w9.frozen? (q3,4)=false/\nU G w3 (w9.setCell (q3,4) (.slice A9 n c9)) q3 m g c A2 c2 D A9 c9 (E++ [v]) k:=by
 subst u;have i:Kp G wb w9:=Kp.grown l λb hb=>⟨abO (fl b hb) h.k.size,λe=>by have:=(h.o3.lt b e.symm).1;have:=fl b hb;omega⟩
 have f:bE w9 q3 73 (pE A2 D.length c2 A3 E.length c3):=(l.block q3 h.b.lt (λe=>by have:=(h.o3.lt q3 e.symm).1;omega)).trans h.b;have p:=h.o2.kept l (h.ap);have r:∀q,aY A9=some q->q<w9.heap.size:=λq hq=>(a.lt q hq).2
 have o:gH (cI (cI (Fb G q3) A2) A9) w9 m g c k:=dV.gr (gH.cH m g c k) h.s l (λq hq=> .inr hq) (λb hb=>by
  rcases hb with(hb|hb)|hb
  .rcases hb with hb|rfl
   .exact abO (fl b hb) (abT h.k.size i.size)
   .exact f.lt
  .exact(p.lt b hb).2
  .exact r b hb) (λb x hb=>by
  rcases hb with(hb|hb)|hb
  .exact .inl (.inl hb)
  .exact .inl (.inr hb)
  .rcases ha with ha|ha
   .exact .inr (ha.symm.trans hb)
   .rw[ha] at hb;injection hb with hb;omega)
 have d:w9.grownBy (w9.setCell (q3,4) (.slice A9 (E++ [v]).length c9)) (some q3):=aZ (bL w9 q3) 4 _;refine⟨f.cell 4 _ rfl,f.frozen 4,?_,(h.k.trans i).trans (Kp.grown d λb hb=>⟨abO (fl b hb) (abT h.k.size i.size),λe=>t (by injection e with e;rw[<-e];exact hb)⟩),?_,?_,?_,?_⟩
 .exact dV.gr (gH.cH m g c k) o d (λq hq=>by injection hq with hq;rw[<-hq];exact .inl (.inl (.inr rfl))) (λb hb=>by
   obtain⟨_,_,o⟩:=o;exact abO (o.fl b hb) d.size) (λb _ hb=>hb)
 .have:=f.cB 4 (.slice A9 (E++ [v]).length c9);exact this
 .exact(p).kept d (by
   cases j:aY A2 with
   |none=>exact .inl rfl
   |some q=>exact .inr (λe=>by injection e with e;have:=(p.lt q j).1;omega))
 .exact(a).kept d (by
   cases j:aY A9 with
   |none=>exact .inl rfl
   |some q=>exact .inr (λe=>by injection e with e;have:=(a.lt q j).1;omega))
 .rcases ha with ha|ha
  .rw[ha];exact h.ap
  .cases j:aY A2 with
   |none=>exact .inl rfl
   |some q=>
    refine .inr (λe=>?_);rw[ha] at e;injection e with e;have:=(h.o2.lt q j).2;omega
end
def mC(x:Int×Int×Int):List aC:= [.int .i64 x.1, .int .i64 x.2.1, .int .i64 x.2.2]
theorem uP:eW mC 3:=⟨λ_=>rfl,λx u hu=>by simp[mC] at hu;rcases hu with rfl|rfl|rfl <;> rfl⟩
theorem Sl.FZ{xs:List (Int×Int×Int)}(h:Sl mC 3 w A xs)(hi:i<xs.length):
 ∃b off,A=some ⟨b,off,none⟩/\w.cell? ⟨b,off+i *3,none⟩=some (.int .i64 xs[i].1)/\w.cell? ⟨b,off+i *3+1,none⟩=some (.int .i64 xs[i].2.1)/\w.cell? ⟨b,off+i *3+2,none⟩=some (.int .i64 xs[i].2.2):=by
 obtain⟨b,off,a,hc⟩:=h.at_ hi;exact⟨b,off,a,by simpa using hc 0 _ (show(mC xs[i])[0]?=some (.int .i64 xs[i].1) from rfl),by simpa[acU] using hc 1 _ (show(mC xs[i])[1]?=some (.int .i64 xs[i].2.1) from rfl),by simpa[acU] using hc 2 _ (show(mC xs[i])[2]?=some (.int .i64 xs[i].2.2) from rfl)⟩
structure Wd where
 A:Option aJ
 c:Nat
 xs:List Int
def P5(x:Wd):List aC:= [.slice x.A x.xs.length x.c]
theorem Qy:eW P5 1:=⟨λ_=>rfl,λx u hu=>by simp[P5] at hu;subst hu;rfl⟩
structure CM(F:Nat->Prop)(w:aA)(AR:Option aJ)(rs:List Int)(AW:Option aJ)(ws:List (Int×Int×Int))(AX:Option aJ)(xs:List Wd):Prop where
 r:Sl eI 1 w AR rs
 rF:∀q,kW AR rs.length=some q->F q
 wt:Sl mC 3 w AW ws
 wF:∀q,kW AW ws.length=some q->F q
 x:Sl P5 1 w AX xs
 xF:∀q,kW AX xs.length=some q->F q
 y:∀z∈xs,Sl eU 1 w z.A z.xs/\(∀q,kW z.A z.xs.length=some q->F q)/\∀u∈z.xs,0<=u/\u<18446744073709551616
theorem CM.kp{rs:List Int}{xs:List Wd}(h:CM F w AR rs AW ws AX xs)(k:Kp F w w'):CM F w' AR rs AW ws AX xs:=
 ⟨h.r.BI k h.rF,h.rF,h.wt.BI k h.wF,h.wF,h.x.BI k h.xF,h.xF,λz a=>⟨(h.y z a).1.BI k (h.y z a).2.1,(h.y z a).2⟩⟩
def kJ(k:Kv)(ws:List (Int×Int×Int)):Kv:=ws.foldl (λk x=>(gZ k x.1 x.2.1 x.2.2).2) k
theorem SZ(k:Kv)(ws:List (Int×Int×Int))(x:Int×Int×Int):kJ k (ws++ [x])=(gZ (kJ k ws) x.1 x.2.1 x.2.2).2:=by
 unfold kJ;rw[ad1];rfl
theorem AM(ws:List (Int×Int×Int)):∀{k:Kv},KI k n->KI (kJ k ws) n:=by
 induction ws with
 |nil=>intro k h;exact h
 |cons x ws a=>intro k h;exact a (Dq h _ _ _)
theorem yM(s:Sd)(e:Int)(b:Bool):(jZ s e b).nw=s.nw:=by
 unfold jZ;split <;> rfl
theorem zB(k:Kv)(e:Int):(dQ k e).s.nw=k.s.nw:=by
 unfold dQ;split
 .exact yM _ _ _
 .rfl
theorem NT(l:List Int):∀k:Kv,(dY k l).s.nw=k.s.nw:=by
 induction l with
 |nil=>intro k;rfl
 |cons e l a=>intro k;exact(a (dQ k e)).trans (zB k e)
theorem kB.nw{l:List Nt}(r:kB l k k'):k'.s.nw=k.s.nw:=by
 induction r with
 |nil _=>rfl
 |cons r1 _ a=>exact a.trans ((zB _ _).trans (by rw[r1.sm.s]))
theorem kQ.nw(r:kQ k k'):k'.s.nw=k.s.nw:=by
 obtain⟨l1,a,T,k2,_,ho,rfl⟩:=r;exact(NT a k2).trans (ho.nw.trans (NT l1 k))
theorem RQ(k:Kv)(e o gr:Int):(gZ k e o gr).2.s.nw=k.s.nw:=by
 unfold gZ;split
 .rfl
 .split
  .rfl
  .split
   .rfl
   .exact zB _ _
theorem AO(ws:List (Int×Int×Int)):∀k:Kv,(kJ k ws).s.nw=k.s.nw:=by
 induction ws with
 |nil=>intro k;rfl
 |cons x ws a=>intro k;exact(a _).trans (RQ _ _ _ _)
theorem Iq{c:Int}(h:gH F w m g c k)(b:KI k n)(d:n<=1000000)(e o gr:Int):aG prog 75 #[.pointer g,e,o,gr] w λr w'=>∃v:Int,r= .returned (.int .i64 v)/\gH F w' m g c (gZ k e o gr).2/\Kp F w w':=by
 obtain⟨f,a,h⟩:=h;obtain⟨G,i,back⟩:=h.kn;refine(Bc i (b.kw d) e o gr).mono ?_;rintro r w' ⟨rfl,⟨a',j⟩,k2⟩;obtain⟨b1,b2⟩:=back _ _ w' j k2;exact⟨_,rfl,⟨f,a',b1⟩,b2⟩
theorem Pq{c:Int}(h:gH F w m g c k)(b:KI k n)(d:n<=1000000):aG prog 76 #[.pointer g] w λr w'=>∃k',r= .returned (.tuple #[])/\aH (kQ k k'/\gH F w' m g c k'/\Kp F w w'):=by
 obtain⟨e,a,h⟩:=h;obtain⟨G,f,back⟩:=h.kn;refine(S5 f (b.kw d) (by have:=b.an;omega)).mono ?_;rintro r w' ⟨k',hb,rfl,⟨a',i⟩,k2⟩;obtain⟨b1,b2⟩:=back _ _ w' i k2;exact⟨k',rfl,hb,⟨e,a',b1⟩,b2⟩
theorem Dm{c:Int}{a:Ka}(h:iQ F w m g c na a k)(d:gQ k.s)(e:k.s.nw<1048576):aG prog 77 #[.pointer a.gs] w λr w'=>r= .returned (.tuple #[.agg #[.int .i64 (gI k.s).1.env, .bool (gI k.s).1.ch],true])/\gH F w' m g c {k with s:=(gI k.s).2}/\Kp F w w':=by
 obtain⟨G,f,back⟩:=h.kn;obtain⟨j,hs,b⟩:=f.sd;refine(ZM hs d e).mono ?_;rintro r w' ⟨rfl,i,k2⟩;obtain⟨b1,b2⟩:=b _ w' i k2;obtain⟨d1,d2⟩:=back _ _ w' b1 b2;exact⟨rfl,⟨na,a,d1⟩,d2⟩
theorem Cm(s:Sd):(gI s).2.P.length=s.P.length:=by
 unfold gI;have h1:(eJ s).P.length=s.P.length:=acS _;split
 .show(List.modify _ _ _).length=_;rw[adI];exact h1
 .split <;> exact h1
theorem KI.tick(h:KI k n)(a:k.s.nw<1048576):KI {k with s:=(gI k.s).2} n:=h.EG (h.sd.tick a) ((Cm k.s).trans h.p4)
def sV(k:Kv)(c:Int)(ws:List (Int×Int×Int))(xs:List Wd)(rn:Rn)(D:List (Int×Int))(k':Kv):Prop:=∃k2,kQ (kJ k ws) k2/\rn=(gI k2.s).1/\
 ((∃(i:Nat) (z:Wd),rn.env=i/\xs[i]?=some z/\uK c rn.env {k2 with s:=(gI k2.s).2} z.xs D k')\/((rn.env<0\/(xs.length:Int)<=rn.env)/\D= []/\k'={k2 with s:=(gI k2.s).2}))
def Wq(F:Nat->Prop)(m g:Nat)(c:Int)(k:Kv)(n0 M:Nat)(ws:List (Int×Int×Int))(xs:List Wd)(w:aA)(e:Ending)(w':aA):Prop:=∃(rn:Rn) (A A2 A3:Option aJ) (nA cA n2 c2 n3 c3:Nat) (D:List (Int×Int)) (k':Kv),e= .returned (.tuple #[.agg #[rn.env,rn.ch,(A,nA,cA),(A2,n2,c2),(A3,n3,c3)],aU])/\nA=D.length/\sV k c ws xs rn D k'/\KI k' (n0+M)/\bI vL 2 w' w.heap.size 227 A cA D/\gH (cI F A) w' m g c k'/\Kp F w w'
structure Hm(F5 F:Nat->Prop)(w W:aA)(q1:Nat)(A:Option aJ):Prop where
 f1:F5 (q1+1)
 f2:¬F (q1+1)
 fl:Ol F w
 k:Kp F w W
 ff:∀b,F b->F5 b
 ne:aY A≠some (q1+1)
def X0(F5 F:Nat->Prop)(w W:aA)(q1 m g:Nat)(c:Int)(k:Kv)(n0 M:Nat)(ws:List (Int×Int×Int))(xs:List Wd)(rn:Rn)(A:Option aJ)(nA cA:Nat)(DA:List (Int×Int))(kE:Kv):Prop:=
 nA=DA.length/\sV k c ws xs rn DA kE/\KI kE (n0+M)/\bI vL 2 W w.heap.size 227 A cA DA/\gH (cI F5 A) W m g c kE/\Hm F5 F w W q1 A
theorem gH.ol{c:Int}(h:gH F w m g c k):Ol F w:=by
 obtain⟨_,_,h⟩:=h;exact h.fl
theorem gH.less{c:Int}(h:gH F w m g c k)(d:∀b,G b->F b):gH G w m g c k:=by
 obtain⟨e,a,h⟩:=h;exact⟨e,a,h.less d⟩
theorem gH.row{c:Int}(h:gH F w m g c k)(d:w.grownBy W (some q))(hq:F q):gH F W m g c k:=
 dV.gr (gH.cH m g c k) h d (λx a=>by injection a with a;rw[<-a];exact hq) (λb hb=>abO (h.ol b hb) d.size) (λb _ hb=>hb)
theorem LW{c:Int}(o:bI vL 2 W w.heap.size 227 A cA DA)(s:gH (cI F5 A) W m g c kE)(e:Hm F5 F w W q1 A)(a:W.grownBy W' (some (q1+1))):bI vL 2 W' w.heap.size 227 A cA DA/\gH (cI F A) W' m g c kE/\Kp F w W':=
 ⟨o.kept a (.inr e.ne),(s.row a (.inl e.f1)).less (λb hb=>hb.imp (e.ff b) id),e.k.trans (Kp.grown a λb hb=>⟨abO (e.fl b hb) e.k.size,λhc=>e.f2 (by injection hc with hc;rw[<-hc];exact hb)⟩)⟩
theorem Vj{c:Int}(h:GZ (Fb F5 q5) w8 w9 m g c e k n0 us A cA DA k1)(a:w9.grownBy W (some q3))(d:F5 q3)(f1:F5 (q1+1))(f2:¬F (q1+1))(f3:¬F q3)(fl:Ol F w)(hk:Kp F w w8)(ff:∀b,F b->F5 b)(h1:q1+1<w8.heap.size)(i:q3<w8.heap.size):bI vL 2 W w.heap.size 227 A cA DA/\gH (cI F5 A) W m g c k1/\Hm F5 F w W q1 A:=by
 refine⟨(h.o.kept a ?_).from_ hk.size,(h.s.row a (.inl (.inl d))).less (λb hb=>hb.imp .inl id),f1,f2,fl,(hk.trans (h.k.mono λb hb=> .inl (ff b hb))).trans (Kp.grown a λb hb=>⟨abO (fl b hb) (abT hk.size h.k.size),λhc=>f3 (by injection hc with hc;rw[<-hc];exact hb)⟩),ff,λhc=>by have:=(h.o.lt _ hc).1;omega⟩;cases f:aY A with
 |none=>exact .inl rfl
 |some q=>exact .inr (λhc=>by injection hc with hc;have:=(h.o.lt q f).1;omega)
def Gk(F:Nat->Prop)(q:Nat):Nat->Prop:=λb=>F b\/b=q\/b=q+1
theorem Pg{c:Int}(h:gH F w m g c k){M:Nat}(hI:KI k n0)(hM:n0+M<999999)(hnw:k.s.nw<1048576){cW:Nat}{rs:List Int}{xs:List Wd}(hin:CM F w AR rs AW ws AX xs)(hlr:rs.length<=1000/\ws.length<=1000/\xs.length<=1000)(hxM:∀z∈xs,z.xs.length<=M):
 aG prog 45 #[.pointer m, .agg #[(AR,rs.length,cR),(AW,ws.length,cW),(AX,xs.length,cX)]] w (Wq F m g c k n0 M ws xs w):=by
 obtain⟨bs,a,h⟩:=h;have V:=aX w (aI #[(AR,rs.length,cR),(AW,ws.length,cW),(AX,xs.length,cX)] 84);have K:=V.alloc V.size (aI (pE none 0 0 none 0 0) 73);have hz2:((w.alloc (aI #[(AR,rs.length,cR),(AW,ws.length,cW),(AX,xs.length,cX)] 84)).alloc (aI (pE none 0 0 none 0 0) 73)).heap.size=w.heap.size+1+1:=aT;have ib:=(bE.new w 84 #[(AR,rs.length,cR),(AW,ws.length,cW),(AX,xs.length,cX)]).keep (aX _ (aI (pE none 0 0 none 0 0) 73));have rb:=bE.fL (w.alloc (aI #[(AR,rs.length,cR),(AW,ws.length,cW),(AX,xs.length,cX)] 84)) 73 (pE none 0 0 none 0 0) (g:=w.heap.size+1) aT;have H2:aH (iQ (Nw F w ((w.alloc (aI #[(AR,rs.length,cR),(AW,ws.length,cW),(AX,xs.length,cX)] 84)).alloc (aI (pE none 0 0 none 0 0) 73))) ((w.alloc (aI #[(AR,rs.length,cR),(AW,ws.length,cW),(AX,xs.length,cX)] 84)).alloc (aI (pE none 0 0 none 0 0) 73)) m g c bs a k/\Kp F w ((w.alloc (aI #[(AR,rs.length,cR),(AW,ws.length,cW),(AX,xs.length,cX)] 84)).alloc (aI (pE none 0 0 none 0 0) 73))):=⟨dV.grow (iQ.cH m g c bs a k) h h.fl K,(h.below K).2⟩
 have HB2:=aP K;have HIn:=aP hin;have Y:=aP h.fl;have HKI:=aP hI;have HMM:=bP hM hxM;simp only[pE] at H2 K rb ib hz2 HB2;clear h V hin hI hM hxM;go_enter func45,ntmps45
 go_upto_region 1 with(fail)
 generalize ((w.alloc (aI #[(AR,rs.length,cR),(AW,ws.length,cW),(AX,xs.length,cX)] 84)).alloc (aI #[aU,false,bH,bH,bH] 73))=L at *;have m0:=H2.o.1.c0;obtain⟨ps,_⟩:=H2.o.1.ks;obtain⟨G1,hk1,_⟩:=H2.o.1.kn;obtain⟨G2,hs2,_⟩:=hk1.sd;have HN:=aP (tV hs2);have HX:=bP ib rb;clear hk1 hs2 K ib rb;go_wp2_with fail
 refine aR HN ?_;rintro e w3 ⟨rfl,rfl⟩;clear HN;go_upto_region 7 with(fail)
 have H3:aH (nU (Gk F w) (L.alloc (aI #[aU,false,bH,bH,bH] 73)) (L.alloc (aI #[aU,false,bH,bH,bH] 73)) L m g c none 0 [] none 0 [] k):=by
  have hb:=(iQ.cH m g c bs a k).box H2.o.1 H2.o.1.fl (aI #[aU,false,bH,bH,bH] 73);refine⟨⟨bs,a,hb.less (λb hb=>?_)⟩,Kp.refl _ _,bE.new L _ _,bI.nil _ _ _,bI.nil _ _ _, .inl rfl⟩;rcases hb with(hb|hb)|hb
  .rcases hb with hb|rfl
   .refine .inl ?_;rcases hb with hb|hb|hb
    .exact .inl hb
    .exact .inr ⟨aQ,aQ⟩
    .exact .inr ⟨aQ,aQ⟩
   .exact .inr rfl
  .cases hb
  .cases hb
 have HB3:aH (aD w w (L.alloc (aI #[aU,false,bH,bH,bH] 73))):=HB2.o.alloc HB2.o.size _;have HG:aH (Ol (Gk F w) (L.alloc (aI #[aU,false,bH,bH,bH] 73))/\L.heap.size<(L.alloc (aI #[aU,false,bH,bH,bH] 73)).heap.size/\¬Gk F w L.heap.size):=by
  have hs:(L.alloc (aI #[aU,false,bH,bH,bH] 73)).heap.size=L.heap.size+1:=aT;refine⟨λb hb=>?_,aQ,λhb=>?_⟩
  .rcases hb with hb|hb|hb
   .have:=Y.o b hb;omega
   .omega
   .omega
  .rcases hb with hb|hb|hb
   .have:=Y.o _ hb;omega
   .omega
   .omega
 have HX3:aH (bE (L.alloc (aI #[aU,false,bH,bH,bH] 73)) w.heap.size 84 #[(AR,rs.length,cR),(AW,ws.length,cW),(AX,xs.length,cX)]/\bE (L.alloc (aI #[aU,false,bH,bH,bH] 73)) (w.heap.size+1) 73 (pE none 0 0 none 0 0)):=⟨HX.o.1.keep (aX L _),HX.o.2.keep (aX L _)⟩
 have aa:aH (CM F (L.alloc (aI #[aU,false,bH,bH,bH] 73)) AR rs AW ws AX xs):=HIn.o.kp (Kp.cD HB3.o Y.o);have HKF:aH (∀W W',Kp (Gk F w) W W'->Kp F W W'):=λW W' h=>h.mono λb hb=> .inl hb
 clear H2 HB2 HX HIn m0 ps;generalize L.alloc (aI #[aU,false,bH,bH,bH] 73)=w3 at *;rw[hz2] at H3 HG;obtain⟨q1,hq1⟩:∃q,q=w.heap.size:=⟨_,rfl⟩
 have HQ1:=aP hq1;rw[<-hq1] at H3 HG HX3 HKF;clear hz2;have i0:=HX3.o.1.cell 0 (.slice AR rs.length cR) rfl;rw[<-hq1];clear hq1;go_wp2_with fail
 go_loopw [38] (λv38 wr=>∃i:Nat,v38= .int .i64 i/\i<=rs.length/\aH (∃A2 c2 D,D.length=i/\nU (Gk F q1) w3 wr (q1+1+1) m g c A2 c2 D none 0 [] k)) (λv38 _=>rs.length - (aL v38).toNat)
 case atStart=>exact⟨0,rfl,abX _,none,0, [],rfl,H3.o⟩
 case round=>
  clear H3 i0;obtain⟨i,rfl,hi,HR⟩:=hrel;obtain⟨A2,c2,D,hD,U⟩:=HR.o;have HR:=aP U;have HD:=aP hD;by_cases hin:i<rs.length
  .have Z:=HKF.o _ _ U.k;obtain⟨b,off,rfl,hcell⟩:=(aa.o.kp Z).r.FJ hin;have j0:(0:Int)<=i:=aQ;have j1:(i:Int)<(rs.length:Int):=aQ;have c3:=U.b.cell 3 (.slice A2 D.length c2) rfl;rw[hD] at c3;obtain⟨bs1,a1,hst⟩:=U.s;obtain⟨_,_,pi,_⟩:=hst.ks;generalize rs[i]=x at *;have HST:=aP hst;clear U Z hst hD;have N:aH (∀W,aD wr wr W->aG prog 74 #[.pointer a1.gi,x] W λr w'=>∃v:Int,r= .returned (.int .i64 v)/\aH (nU (Gk F q1) w3 w' (q1+1+1) m g c A2 c2 D none 0 [] k)/\w'.cell? (q1+1+1,3)=some (.slice A2 i c2)/\∀o,(w'.alloc o).cell? (q1+1+1,3)=some (.slice A2 i c2)):=λW hW=>by
    have hb:=HR.o.below hW;obtain⟨G5,hk5,back5⟩:=(HST.o.below hW).1.kn;refine(VE hk5 x).mono ?_;rintro r w' ⟨v,a',rfl,h2,k2⟩;obtain⟨d1,d2⟩:=back5 _ _ w' h2 k2;have ho:=hb.eY ⟨bs1,a',d1⟩ d2;have this:=ho.b.cell 3 (.slice A2 D.length c2) rfl;rw[HD.o] at this;exact⟨v,rfl,ho,this,λo=>bK (aX w' o) this⟩
   have hir:i<=1000:=aQ;go_upto_region 10 with(fail)
   clear hcell;go_region_law (first|(refine kS _ rfl (.tmp 43) (.tmp 50) rfl Gn gJ (base:=w3.heap.size) (xs:=D) (t.o.o2.alloc _) (n:=i) HD.o rfl (m:=1) rfl (ys:= [v]) rfl (Sl.fL gJ J v _ rfl _ aT) dN aQ (abT t.o.k.size aT) _ rfl (i+1) rfl ?_;intro A9 c9 w9 O hg9 at9;(obtain⟨b9,f9,HO9⟩:=(t.o.below (aX J (aI #[v] 45))).Gh HG.o.1 HG.o.2.1 HG.o.2.2 O hg9 at9 (n:=i+1) (by rw[ab2,HD.o];rfl)))|(go_simp;(refine aS (N.o _ (Below.refl _ _).drew) ?_);rintro r J ⟨v,rfl,t,c36,c37⟩))
   all_goals (
    have HO:=aP HO9;have HE:(D++ [v]).length=i+1:=by rw[ab2,HD.o];rfl
    clear HO9 b9 f9 hg9 at9 O t N HR HST c36 c37 c3;generalize (w9.setCell (q1+1+1,3) (.slice A9 (i+1) c9))=w10 at *;clear w9;go_wp2_with fail
    refine⟨⟨i+1,?_,aQ,A9,c9,D++ [v],HE,HO.o⟩,?_⟩
    .rfl
    .simp only[aL];omega)
  .have Z:=HKF.o _ _ U.k;have i1:=(U.k.aY HX3.o.1 (.inr (.inl rfl))).cell 1 (.slice AW ws.length cW) rfl;have H5:aH (nU (Gk F q1) w3 wr (q1+1+1) m g c A2 c2 D none 0 [] k):=HR;have j1:¬(i:Int)<(rs.length:Int):=aQ;clear Z U HR hD;go_wp2_with fail
   go_loopw [57] (λv57 wr2=>∃j:Nat,v57= .int .i64 j/\j<=ws.length/\aH (∃A3 c3 E,E.length=j/\nU (Gk F q1) w3 wr2 (q1+1+1) m g c A2 c2 D A3 c3 E (kJ k (ws.take j)))) (λv57 _=>ws.length - (aL v57).toNat)
   case atStart=>exact⟨0,rfl,abX _,none,0, [],rfl,H5.o⟩
   case round=>
    clear H5 i1;obtain⟨j,rfl,hj,HR⟩:=hrel;obtain⟨A3,c3,E,hE,U⟩:=HR.o;have HR:=aP U;have HE:=aP hE;by_cases hjn:j<ws.length
    .have Z:=HKF.o _ _ U.k;obtain⟨b,off,rfl,hc0,hc1,hc2⟩:=(aa.o.kp Z).wt.FZ hjn;have j0:(0:Int)<=j:=aQ;have j1':(j:Int)<(ws.length:Int):=aQ;have HT:aH (ws.take (j+1)=ws.take j++ [ws[j]]):=(acL hjn).symm;generalize ws[j]=x at *;obtain⟨xe,xo,xg⟩:=x;simp only at hc0 hc1 hc2;have c4:=U.b.cell 4 (.slice A3 E.length c3) rfl;rw[hE] at c4;have p:aH (KI (kJ k (ws.take j)) n0/\n0<=1000000):=⟨AM _ HKI.o,by have:=HMM.o.1;omega⟩
     clear U Z hE;go_upto_region 15 with(fail)
     have c5:(wr.alloc (aI #[xe,xo,xg] 172)).cell? (q1+1+1,4)=some (.slice A3 j c3):=bK (aX wr _) c4;have HXb:=aP (bE.new wr 172 #[xe,xo,xg]);have y0:=HXb.o.cell 0 xe rfl;have y1:=HXb.o.cell 1 xo rfl;have y2:=HXb.o.cell 2 xg rfl;have HBx:aH (aD wr wr (wr.alloc (aI #[xe,xo,xg] 172))):=aX wr _;clear hc0 hc1 hc2 c4 HXb;generalize (wr.alloc (aI #[xe,xo,xg] 172))=wx at *;have N:aH (∀W,aD wx wx W->aG prog 75 #[.pointer g,xe,xo,xg] W λr w'=>∃v:Int,r= .returned (.int .i64 v)/\aH (nU (Gk F q1) w3 w' (q1+1+1) m g c A2 c2 D A3 c3 E (kJ k (ws.take (j+1))))/\w'.cell? (q1+1+1,4)=some (.slice A3 j c3)/\∀o,(w'.alloc o).cell? (q1+1+1,4)=some (.slice A3 j c3)):=λW hW=>by
      have hb:=HR.o.below (HBx.o.trans (hW.mono HBx.o.size));refine(Iq hb.s p.o.1 p.o.2 xe xo xg).mono ?_;rintro r w' ⟨v,rfl,h2,k2⟩;have ho:=hb.eY h2 k2;have this:=ho.b.cell 4 (.slice A3 E.length c3) rfl;rw[HE.o] at this;rw[HT.o,SZ];exact⟨v,rfl,ho,this,λo=>bK (aX w' o) this⟩
     have hjr:j<=1000:=aQ;clear HR p HT HBx;go_region_law (first|(refine kS _ rfl (.tmp 62) (.tmp 71) rfl Gn gJ (base:=w3.heap.size) (xs:=E) (t.o.o3.alloc _) (n:=j) HE.o rfl (m:=1) rfl (ys:= [v]) rfl (Sl.fL gJ J v _ rfl _ aT) dN aQ (abT t.o.k.size aT) _ rfl (j+1) rfl ?_;intro A9 c9 w9 O hg9 at9;(obtain⟨b9,f9,HO9⟩:=(t.o.below (aX J (aI #[v] 45))).Eg HG.o.1 HG.o.2.1 HG.o.2.2 O hg9 at9 (n:=j+1) (by rw[ab2,HE.o];rfl)))|(go_simp;(refine aS (N.o _ (Below.refl _ _).drew) ?_);rintro r J ⟨v,rfl,t,c36,c37⟩))
     all_goals (
      have HO:=aP HO9;have HE2:(E++ [v]).length=j+1:=by rw[ab2,HE.o];rfl
      clear HO9 b9 f9 hg9 at9 O t N c36 c37 c5;generalize (w9.setCell (q1+1+1,4) (.slice A9 (j+1) c9))=w10 at *;clear w9;go_wp2_with fail
      refine⟨⟨j+1,?_,aQ,A9,c9,E++ [v],HE2,HO.o⟩,?_⟩
      .rfl
      .simp only[aL];omega)
    .have j1':¬(j:Int)<(ws.length:Int):=aQ;have hT:ws.take j=ws:=ab8 aQ;rw[hT] at U HR;have p:aH (KI (kJ k ws) n0/\n0<=1000000):=⟨AM _ HKI.o,by have:=HMM.o.1;omega⟩
     have HBf:=aP (Pq U.s p.o.1 p.o.2);clear U hE;go_wp2_with fail
     refine aR HBf ?_;rintro e w4 ⟨k2,rfl,HB4⟩;have H4:aH (nU (Gk F q1) w3 w4 (q1+1+1) m g c A2 c2 D A3 c3 E k2):=HR.o.eY HB4.o.2.1 HB4.o.2.2;have HK2:aH (KI k2 n0/\k2.s.nw<1048576/\kQ (kJ k ws) k2):=⟨HB4.o.1.ki p.o.1,by rw[HB4.o.1.nw,AO];exact hnw,HB4.o.1⟩
     obtain⟨bs2,a2,hst2⟩:=H4.o.s;obtain⟨ps,_⟩:=hst2.ks;have kH:=aP (Dm hst2 HK2.o.1.sd HK2.o.2.1);clear HBf HB4 HR p hst2;go_wp2_with fail
     refine aR kH ?_;rintro e w5 ⟨rfl,h5,k5⟩;have H5:aH (nU (Gk F q1) w3 w5 (q1+1+1) m g c A2 c2 D A3 c3 E {k2 with s:=(gI k2.s).2}):=H4.o.eY h5 k5;have HK5:aH (KI {k2 with s:=(gI k2.s).2} n0):=HK2.o.1.tick HK2.o.2.1;clear kH h5 k5 H4 ps;obtain⟨k3,hk3⟩:∃q,q=({k2 with s:=(gI k2.s).2}:Kv):=⟨_,rfl⟩
     obtain⟨rn,hrn⟩:∃q,q=(gI k2.s).1:=⟨_,rfl⟩
     rw[<-hk3] at H5 HK5;have HK3:=bP hk3 hrn;rw[<-hrn];clear hk3 hrn;go_upto_region 21 with(fail)
     obtain⟨F5,hF5⟩:∃X,X=cI (cI (Fb (Gk F q1) (q1+1+1)) A2) A3:=⟨_,rfl⟩
     have B:aH ((∀b,Gk F q1 b->F5 b)/\F5 (q1+1+1)):=by
      rw[hF5];exact⟨λb hb=> .inl (.inl (.inl hb)), .inl (.inl (.inr rfl))⟩
     have H6:aH (gH (Fb F5 w5) (w5.alloc (aI #[rn.env,rn.ch] 69)) m g c k3/\Kp (Gk F q1) w3 (w5.alloc (aI #[rn.env,rn.ch] 69))):=by
      have h1:=H5.o.below (aX w5 (aI #[rn.env,rn.ch] 69));obtain⟨bs5,a5,h5⟩:=H5.o.s;have h6:=(iQ.cH m g c bs5 a5 k3).box h5 h5.fl (aI #[rn.env,rn.ch] 69);rw[<-hF5] at h6;exact⟨⟨bs5,a5,h6⟩,h1.k⟩
     have u:aH (bE (w5.alloc (aI #[rn.env,rn.ch] 69)) w5.heap.size 69 #[rn.env,rn.ch]/\bE (w5.alloc (aI #[rn.env,rn.ch] 69)) (q1+1+1) 73 (pE A2 D.length c2 A3 E.length c3)/\q1+1+1≠w5.heap.size/\¬Gk F q1 w5.heap.size/\¬Gk F q1 (q1+1+1)):=by
      have hlt:=H5.o.b.lt;refine⟨bE.new w5 _ _,H5.o.b.keep (aX w5 _),aQ,λhb=>?_,HG.o.2.2⟩;have h1:=HG.o.1 _ hb;have h2:=H5.o.k.size;omega
     generalize hq5:w5.heap.size=q5 at *;clear hq5 H5 hF5;generalize (w5.alloc (aI #[rn.env,rn.ch] 69))=J at *;clear w5;have b0:=u.o.1.cell 0 rn.env rfl;have b1:=u.o.1.cell 1 (.bool rn.ch) rfl;have o0:=u.o.2.1.cell 0 (.int .i64 0) rfl;have o1:=u.o.2.1.cell 1 (.bool false) rfl;have f0:=u.o.2.1.frozen 0;have f1:=u.o.2.1.frozen 1;have ne5:q1+1+1≠q5:=u.o.2.2.1;have H7:aH (gH (Fb F5 q5) ((J.setCell (q1+1+1,0) rn.env).setCell (q1+1+1,1) (.bool rn.ch)) m g c k3/\Kp (Gk F q1) w3 ((J.setCell (q1+1+1,0) rn.env).setCell (q1+1+1,1) (.bool rn.ch))):=by
      have P:J.grownBy ((J.setCell (q1+1+1,0) rn.env).setCell (q1+1+1,1) (.bool rn.ch)) (some (q1+1+1)):=aZ (aZ (bL _ _) 0 _) 1 _;obtain⟨bs6,a6,h6⟩:=H6.o.1;refine⟨⟨bs6,a6,dV.gr (iQ.cH m g c bs6 a6 k3) h6 P (λq hq=>by injection hq with hq;rw[<-hq];exact .inl B.o.2) (λb hb=>abO (h6.fl b hb) P.size) (λb _ hb=>hb)⟩,H6.o.2.trans (Kp.grown P λb hb=>⟨abO (HG.o.1 b hb) H6.o.2.size,λe=>u.o.2.2.2.2 (by injection e with e;rw[<-e];exact hb)⟩)⟩
     have HB7:aH (bE ((J.setCell (q1+1+1,0) rn.env).setCell (q1+1+1,1) (.bool rn.ch)) q5 69 #[rn.env,rn.ch]/\bE ((J.setCell (q1+1+1,0) rn.env).setCell (q1+1+1,1) (.bool rn.ch)) (q1+1+1) 73 #[rn.env,rn.ch,bH, .slice A2 D.length c2, .slice A3 E.length c3]):=by
      have P:J.grownBy ((J.setCell (q1+1+1,0) rn.env).setCell (q1+1+1,1) (.bool rn.ch)) (some (q1+1+1)):=aZ (aZ (bL _ _) 0 _) 1 _;refine⟨(P.block q5 u.o.1.lt (λe=>ne5 (by injection e with e;exact e.symm))).trans u.o.1,?_⟩;exact(u.o.2.1.cB 0 rn.env).cB 1 (.bool rn.ch)
     go_upto_region 22 with(fail)
     clear b0 b1 o0 o1 f0 f1;generalize ((J.setCell (q1+1+1,0) rn.env).setCell (q1+1+1,1) (.bool rn.ch))=w7 at *;have b0:=HB7.o.1.cell 0 rn.env rfl;have b1:=HB7.o.1.cell 1 (.bool rn.ch) rfl;have HBd:=aP (Ff H7.o.1 (HK5.o.kw (by have:=HMM.o.1;omega)) rn.env rn.ch);clear H6;go_wp2_with fail
     refine aR HBd ?_;rintro e H ⟨rfl,h8,k8⟩;have a7:aH (Kp (Gk F q1) w3 H):=H7.o.2.trans (k8.mono λb hb=> .inl (B.o.1 b hb));have H8:aH (gH (Fb F5 q5) H m g c k3):=h8;have Q:aH (bE H q5 69 #[rn.env,rn.ch]/\bE H (q1+1+1) 73 #[rn.env,rn.ch,bH, .slice A2 D.length c2, .slice A3 E.length c3]):=⟨k8.aY HB7.o.1 (.inr rfl),k8.aY HB7.o.2 (.inl B.o.2)⟩
     have HX8:aH (bE H q1 84 #[(AR,rs.length,cR),(AW,ws.length,cW),(AX,xs.length,cX)]/\bE H (q1+1) 73 (pE none 0 0 none 0 0)):=⟨a7.o.aY HX3.o.1 (.inr (.inl rfl)),a7.o.aY HX3.o.2 (.inr (.inr rfl))⟩
     have R:aH (CM F H AR rs AW ws AX xs):=aa.o.kp (HKF.o _ _ a7.o);clear HBd h8 k8 b0 b1 H7 HB7 u w7 HX3 aa;obtain⟨env,ch⟩:=rn;simp only at Q HK3⊢;have C:aH (F5 (q1+1)/\¬F (q1+1)/\Kp F w H/\w.heap.size<=w3.heap.size/\q1+1<w3.heap.size/\q1+1≠q1+1+1):=by
      refine⟨B.o.1 _ (.inr (.inr rfl)),λhb=>by have:=Y.o _ hb;have:=HQ1.o;omega,(Kp.cD HB3.o Y.o).trans (HKF.o _ _ a7.o),HB3.o.size,HG.o.1 _ (.inr (.inr rfl)),aQ⟩
     have HTR:aH (∀(I:List (Int×Int)) (k':Kv),((∃(i:Nat) (z:Wd),env=i/\xs[i]?=some z/\uK c env k3 z.xs I k')\/((env<0\/(xs.length:Int)<=env)/\I= []/\k'=k3))->sV k c ws xs ⟨env,ch⟩ I k'):=λI k' h=>⟨k2,HK2.o.2.2,HK3.o.2,by rw[<-HK3.o.1];exact h⟩
     have e0:=Q.o.1.cell 0 env rfl;have i2:=HX8.o.1.cell 2 (.slice AX xs.length cX) rfl;have hnE:aH ((env<0\/(xs.length:Int)<=env)->X0 F5 F w H q1 m g c k n0 M ws xs ⟨env,ch⟩ none 0 0 [] k3):=λhn=>⟨rfl,HTR.o [] k3 (.inr ⟨hn,rfl,rfl⟩),HK5.o.mono (Nat.le_add_right _ _),bI.nil _ _ _,H8.o.less (λb hb=>by
      rcases hb with hb|hb
      .exact .inl hb
      .cases hb),C.o.1,C.o.2.1,Y.o,C.o.2.2.1,λb hb=>B.o.1 b (.inl hb),λhc=>by cases hc⟩
     have HEB:aH (bE H (q1+1+1) 73 #[env,ch,bH, .slice A2 D.length c2, .slice A3 E.length c3]/\bE H (q1+1) 73 (pE none 0 0 none 0 0)):=⟨Q.o.2,HX8.o.2⟩
     have hne:q1+1≠q1+1+1:=aQ;by_cases h1:env<0
     .have S:aH _:=hnE.o (.inl h1);go_upto_region 25 with(fail)
      obtain⟨A,f,cA,I,T,EQ,d⟩:∃(A:Option aJ) (f cA:Nat) (I:List (Int×Int)) (T:Kv),aH (X0 F5 F w H q1 m g c k n0 M ws xs ⟨env,ch⟩ A f cA I T)/\aH (bE H (q1+1+1) 73 #[env,ch,(A,f,cA), .slice A2 D.length c2, .slice A3 E.length c3]/\bE H (q1+1) 73 (pE none 0 0 none 0 0)):=⟨none,0,0, [],k3,S,HEB⟩
      clear e0 i2 S HEB Q HX8 R a7 C hnE HTR H8;generalize H=wE at *;have g0:=d.o.1.cell 0 (.int .i64 (env)) rfl;have g1:=d.o.1.cell 1 (.bool ch) rfl;have g2:=d.o.1.cell 2 (.slice A f cA) rfl;have g3:=d.o.1.cell 3 (.slice A2 D.length c2) rfl;have g4:=d.o.1.cell 4 (.slice A3 E.length c3) rfl;have r0:=d.o.2.cell 0 (.int .i64 0) rfl;have r1:=d.o.2.cell 1 (.bool false) rfl;have r2:=d.o.2.cell 2 (.slice none 0 0) rfl;have r3:=d.o.2.cell 3 (.slice none 0 0) rfl;have r4:=d.o.2.cell 4 (.slice none 0 0) rfl;have s0:=d.o.2.frozen 0;have s1:=d.o.2.frozen 1;have s2:=d.o.2.frozen 2;have s3:=d.o.2.frozen 3;have s4:=d.o.2.frozen 4;obtain⟨u1,u2,u3,u4,u5,u6⟩:=EQ.o;have HWE:aH (bI vL 2 (((((wE.setCell (q1+1,0) (.int .i64 (env))).setCell (q1+1,1) (.bool ch)).setCell (q1+1,2) (.slice A f cA)).setCell (q1+1,3) (.slice A2 D.length c2)).setCell (q1+1,4) (.slice A3 E.length c3)) w.heap.size 227 A cA I/\gH (cI F A) (((((wE.setCell (q1+1,0) (.int .i64 (env))).setCell (q1+1,1) (.bool ch)).setCell (q1+1,2) (.slice A f cA)).setCell (q1+1,3) (.slice A2 D.length c2)).setCell (q1+1,4) (.slice A3 E.length c3)) m g c T/\Kp F w (((((wE.setCell (q1+1,0) (.int .i64 (env))).setCell (q1+1,1) (.bool ch)).setCell (q1+1,2) (.slice A f cA)).setCell (q1+1,3) (.slice A2 D.length c2)).setCell (q1+1,4) (.slice A3 E.length c3))):=LW u4 u5 u6 (aZ (aZ (aZ (aZ (aZ (bL wE (q1+1)) 0 _) 1 _) 2 _) 3 _) 4 _);have l:aH (bE (((((wE.setCell (q1+1,0) (.int .i64 (env))).setCell (q1+1,1) (.bool ch)).setCell (q1+1,2) (.slice A f cA)).setCell (q1+1,3) (.slice A2 D.length c2)).setCell (q1+1,4) (.slice A3 E.length c3)) (q1+1) 73 #[.int .i64 (env),ch,(A,f,cA), .slice A2 D.length c2, .slice A3 E.length c3]):=((((d.o.2.cB 0 _).cB 1 _).cB 2 _).cB 3 _).cB 4 _;have EU:=dH u1 u2 u3;clear u1 u2 u3 u4 u5 u6 EQ;go_wp2_with fail
      generalize (((((wE.setCell (q1+1,0) (.int .i64 (env))).setCell (q1+1,1) (.bool ch)).setCell (q1+1,2) (.slice A f cA)).setCell (q1+1,3) (.slice A2 D.length c2)).setCell (q1+1,4) (.slice A3 E.length c3))=wZ at *;have v0:=l.o.cell 0 (.int .i64 (env)) rfl;have v1:=l.o.cell 1 (.bool ch) rfl;have v2:=l.o.cell 2 (.slice A f cA) rfl;have v3:=l.o.cell 3 (.slice A2 D.length c2) rfl;have v4:=l.o.cell 4 (.slice A3 E.length c3) rfl;refine bodyPost_ret (v:= .tuple #[.agg #[.int .i64 (env),ch,(A,f,cA), .slice A2 D.length c2, .slice A3 E.length c3],aU]) ?_ rfl ⟨⟨env,ch⟩,A,A2,A3,f,cA,_,_,_,_,I,T,rfl,EU.o.1,EU.o.2.1,EU.o.2.2,HWE.o⟩;simp[results,results45,go_sem,v0,v1,v2,v3,v4]
     by_cases h2:(xs.length:Int)<=env
     .have S:aH _:=hnE.o (.inr h2);go_upto_region 25 with(fail)
      obtain⟨A,f,cA,I,T,EQ,d⟩:∃(A:Option aJ) (f cA:Nat) (I:List (Int×Int)) (T:Kv),aH (X0 F5 F w H q1 m g c k n0 M ws xs ⟨env,ch⟩ A f cA I T)/\aH (bE H (q1+1+1) 73 #[env,ch,(A,f,cA), .slice A2 D.length c2, .slice A3 E.length c3]/\bE H (q1+1) 73 (pE none 0 0 none 0 0)):=⟨none,0,0, [],k3,S,HEB⟩
      clear e0 i2 S HEB Q HX8 R a7 C hnE HTR H8;generalize H=wE at *;have g0:=d.o.1.cell 0 (.int .i64 (env)) rfl;have g1:=d.o.1.cell 1 (.bool ch) rfl;have g2:=d.o.1.cell 2 (.slice A f cA) rfl;have g3:=d.o.1.cell 3 (.slice A2 D.length c2) rfl;have g4:=d.o.1.cell 4 (.slice A3 E.length c3) rfl;have r0:=d.o.2.cell 0 (.int .i64 0) rfl;have r1:=d.o.2.cell 1 (.bool false) rfl;have r2:=d.o.2.cell 2 (.slice none 0 0) rfl;have r3:=d.o.2.cell 3 (.slice none 0 0) rfl;have r4:=d.o.2.cell 4 (.slice none 0 0) rfl;have s0:=d.o.2.frozen 0;have s1:=d.o.2.frozen 1;have s2:=d.o.2.frozen 2;have s3:=d.o.2.frozen 3;have s4:=d.o.2.frozen 4;obtain⟨u1,u2,u3,u4,u5,u6⟩:=EQ.o;have HWE:aH (bI vL 2 (((((wE.setCell (q1+1,0) (.int .i64 (env))).setCell (q1+1,1) (.bool ch)).setCell (q1+1,2) (.slice A f cA)).setCell (q1+1,3) (.slice A2 D.length c2)).setCell (q1+1,4) (.slice A3 E.length c3)) w.heap.size 227 A cA I/\gH (cI F A) (((((wE.setCell (q1+1,0) (.int .i64 (env))).setCell (q1+1,1) (.bool ch)).setCell (q1+1,2) (.slice A f cA)).setCell (q1+1,3) (.slice A2 D.length c2)).setCell (q1+1,4) (.slice A3 E.length c3)) m g c T/\Kp F w (((((wE.setCell (q1+1,0) (.int .i64 (env))).setCell (q1+1,1) (.bool ch)).setCell (q1+1,2) (.slice A f cA)).setCell (q1+1,3) (.slice A2 D.length c2)).setCell (q1+1,4) (.slice A3 E.length c3))):=LW u4 u5 u6 (aZ (aZ (aZ (aZ (aZ (bL wE (q1+1)) 0 _) 1 _) 2 _) 3 _) 4 _);have l:aH (bE (((((wE.setCell (q1+1,0) (.int .i64 (env))).setCell (q1+1,1) (.bool ch)).setCell (q1+1,2) (.slice A f cA)).setCell (q1+1,3) (.slice A2 D.length c2)).setCell (q1+1,4) (.slice A3 E.length c3)) (q1+1) 73 #[.int .i64 (env),ch,(A,f,cA), .slice A2 D.length c2, .slice A3 E.length c3]):=((((d.o.2.cB 0 _).cB 1 _).cB 2 _).cB 3 _).cB 4 _;have EU:=dH u1 u2 u3;clear u1 u2 u3 u4 u5 u6 EQ;go_wp2_with fail
      generalize (((((wE.setCell (q1+1,0) (.int .i64 (env))).setCell (q1+1,1) (.bool ch)).setCell (q1+1,2) (.slice A f cA)).setCell (q1+1,3) (.slice A2 D.length c2)).setCell (q1+1,4) (.slice A3 E.length c3))=wZ at *;have v0:=l.o.cell 0 (.int .i64 (env)) rfl;have v1:=l.o.cell 1 (.bool ch) rfl;have v2:=l.o.cell 2 (.slice A f cA) rfl;have v3:=l.o.cell 3 (.slice A2 D.length c2) rfl;have v4:=l.o.cell 4 (.slice A3 E.length c3) rfl;refine bodyPost_ret (v:= .tuple #[.agg #[.int .i64 (env),ch,(A,f,cA), .slice A2 D.length c2, .slice A3 E.length c3],aU]) ?_ rfl ⟨⟨env,ch⟩,A,A2,A3,f,cA,_,_,_,_,I,T,rfl,EU.o.1,EU.o.2.1,EU.o.2.2,HWE.o⟩;simp[results,results45,go_sem,v0,v1,v2,v3,v4]
     obtain⟨i,rfl⟩:=abR (by omega:0<=env);have hix:i<xs.length:=aQ;have hg:xs[i]?=some xs[i]:=abL hix;have hz:=abV hix;have HZ:=dH hg (R.o.y _ hz) (HMM.o.2 _ hz);obtain⟨b,off,rfl,hc⟩:=R.o.x.at_ hix;have z0:=hc 0 _ (show(P5 xs[i])[0]?=some (.slice xs[i].A xs[i].xs.length xs[i].c) from rfl);simp only[adQ,acC] at z0;generalize xs[i]=z at *;clear hc hg hz;have h1':(0:Int)<=i:=aQ;have h2':(i:Int)<(xs.length:Int):=aQ;have N:aH (∀W,aD H H W->aG prog 79 #[.pointer m,i,(z.A,z.xs.length,z.c)] W λr w'=>∃(A:Option aJ) (f cA:Nat),r= .returned (.slice A f cA)/\aH (∃(I:List (Int×Int)) (T:Kv),X0 F5 F w (w'.setCell (q1+1+1,2) (.slice A f cA)) q1 m g c k n0 M ws xs ⟨i,ch⟩ A f cA I T/\bE (w'.setCell (q1+1+1,2) (.slice A f cA)) (q1+1+1) 73 #[i,ch,(A,f,cA), .slice A2 D.length c2, .slice A3 E.length c3]/\bE (w'.setCell (q1+1+1,2) (.slice A f cA)) (q1+1) 73 (pE none 0 0 none 0 0))/\w'.cell? (q1+1+1,2)=some (.slice none 0 0)/\w'.frozen? (q1+1+1,2)=false):=λW hW=>by
      obtain⟨bs8,a8,h8⟩:=H8.o;obtain⟨h8W,k8W⟩:=h8.below hW;have hk8:Kp F H W:=k8W.mono λb hb=> .inl (B.o.1 b (.inl hb))
      have hyy:=HZ.o.2.1;refine(Hu ⟨bs8,a8,h8W⟩ HK5.o (i:Int) (hyy.1.BI hk8 hyy.2.1) (λq hq=> .inl (B.o.1 _ (.inl (hyy.2.1 q hq)))) hyy.2.2 (cw:=z.c) (by have:=HMM.o.1;have:=HZ.o.2.2;omega)).mono ?_;rintro r w' ⟨A,cA,f,I,T,rfl,hnA,hAn⟩;have V:bE w' (q1+1+1) 73 #[i,ch,bH, .slice A2 D.length c2, .slice A3 E.length c3]:=hAn.k.aY (k8W.aY Q.o.2 (.inl B.o.2)) (.inl B.o.2);have K:bE w' (q1+1) 73 (pE none 0 0 none 0 0):=hAn.k.aY (k8W.aY HX8.o.2 (.inl C.o.1)) (.inl C.o.1);have P:w'.grownBy (w'.setCell (q1+1+1,2) (.slice A f cA)) (some (q1+1+1)):=aZ (bL _ _) 2 _;have f3:¬F (q1+1+1):=λhb=>HG.o.2.2 (.inl hb)
      have hs8:=hW.size;have hl3:=(Q.o.2:bE _ _ _ _).lt;obtain⟨t1,t2,t3⟩:=Vj (F:=F) (w:=w) (q1:=q1) hAn P B.o.2 C.o.1 C.o.2.1 f3 Y.o (C.o.2.2.1.trans hk8) (λb hb=>B.o.1 b (.inl hb)) aQ aQ;refine⟨A,f,cA,rfl,⟨I,T,⟨hnA,HTR.o I T (.inl ⟨i,z,rfl,HZ.o.1,hAn.r⟩),hAn.i.mono (by have:=HZ.o.2.2;omega),t1,t2,t3⟩,V.cB 2 _,(P.block _ K.lt (λe=>hne (by injection e))).trans K⟩,V.cell 2 _ rfl,V.frozen 2⟩
     go_upto_region 24 with(fail)
     go_region_law (go_simp;(refine aS (N.o _ (Below.refl _ _).drew) ?_);rintro r J ⟨A,f,cA,rfl,t,c36,c37⟩)
     all_goals (
      obtain⟨I,T,S,EB0⟩:=t.o;have EQ:=aP S;have d:=aP EB0;clear S EB0 t N c36 c37 e0 i2 z0 Q HX8 R a7 C hnE HTR H8 HEB;generalize (J.setCell (q1+1+1,2) (.slice A f cA))=wE at *;clear J;have g0:=d.o.1.cell 0 (.int .i64 (i)) rfl;have g1:=d.o.1.cell 1 (.bool ch) rfl;have g2:=d.o.1.cell 2 (.slice A f cA) rfl;have g3:=d.o.1.cell 3 (.slice A2 D.length c2) rfl;have g4:=d.o.1.cell 4 (.slice A3 E.length c3) rfl;have r0:=d.o.2.cell 0 (.int .i64 0) rfl;have r1:=d.o.2.cell 1 (.bool false) rfl;have r2:=d.o.2.cell 2 (.slice none 0 0) rfl;have r3:=d.o.2.cell 3 (.slice none 0 0) rfl;have r4:=d.o.2.cell 4 (.slice none 0 0) rfl;have s0:=d.o.2.frozen 0;have s1:=d.o.2.frozen 1;have s2:=d.o.2.frozen 2;have s3:=d.o.2.frozen 3;have s4:=d.o.2.frozen 4;obtain⟨u1,u2,u3,u4,u5,u6⟩:=EQ.o;have HWE:aH (bI vL 2 (((((wE.setCell (q1+1,0) (.int .i64 (i))).setCell (q1+1,1) (.bool ch)).setCell (q1+1,2) (.slice A f cA)).setCell (q1+1,3) (.slice A2 D.length c2)).setCell (q1+1,4) (.slice A3 E.length c3)) w.heap.size 227 A cA I/\gH (cI F A) (((((wE.setCell (q1+1,0) (.int .i64 (i))).setCell (q1+1,1) (.bool ch)).setCell (q1+1,2) (.slice A f cA)).setCell (q1+1,3) (.slice A2 D.length c2)).setCell (q1+1,4) (.slice A3 E.length c3)) m g c T/\Kp F w (((((wE.setCell (q1+1,0) (.int .i64 (i))).setCell (q1+1,1) (.bool ch)).setCell (q1+1,2) (.slice A f cA)).setCell (q1+1,3) (.slice A2 D.length c2)).setCell (q1+1,4) (.slice A3 E.length c3))):=LW u4 u5 u6 (aZ (aZ (aZ (aZ (aZ (bL wE (q1+1)) 0 _) 1 _) 2 _) 3 _) 4 _);have l:aH (bE (((((wE.setCell (q1+1,0) (.int .i64 (i))).setCell (q1+1,1) (.bool ch)).setCell (q1+1,2) (.slice A f cA)).setCell (q1+1,3) (.slice A2 D.length c2)).setCell (q1+1,4) (.slice A3 E.length c3)) (q1+1) 73 #[.int .i64 (i),ch,(A,f,cA), .slice A2 D.length c2, .slice A3 E.length c3]):=((((d.o.2.cB 0 _).cB 1 _).cB 2 _).cB 3 _).cB 4 _;have EU:=dH u1 u2 u3;clear u1 u2 u3 u4 u5 u6 EQ;go_wp2_with fail
      generalize (((((wE.setCell (q1+1,0) (.int .i64 (i))).setCell (q1+1,1) (.bool ch)).setCell (q1+1,2) (.slice A f cA)).setCell (q1+1,3) (.slice A2 D.length c2)).setCell (q1+1,4) (.slice A3 E.length c3))=wZ at *;have v0:=l.o.cell 0 (.int .i64 (i)) rfl;have v1:=l.o.cell 1 (.bool ch) rfl;have v2:=l.o.cell 2 (.slice A f cA) rfl;have v3:=l.o.cell 3 (.slice A2 D.length c2) rfl;have v4:=l.o.cell 4 (.slice A3 E.length c3) rfl;refine bodyPost_ret (v:= .tuple #[.agg #[.int .i64 (i),ch,(A,f,cA), .slice A2 D.length c2, .slice A3 E.length c3],aU]) ?_ rfl ⟨⟨i,ch⟩,A,A2,A3,f,cA,_,_,_,_,I,T,rfl,EU.o.1,EU.o.2.1,EU.o.2.2,HWE.o⟩;simp[results,results45,go_sem,v0,v1,v2,v3,v4])
end
end
section
open Go.RowKit Go.Lib Go.Shelf
variable{ts:List Tk}{W wp wx w5 w6 w w7:aA}{R:List Int}{od p:Int}{n g i m:Nat}{l:List Pt}{cs:Array aC}{B A:Option aJ}{F:Nat->Prop}{y:La}
section
def lC(ts:List Tk)(od:Int)(k:Nat):Lb:=⟨ts.take k,od,sR ts od,λ_=>0,0,(ts.take k).map λt=>kC t.pe,List.replicate ts.length 0,List.replicate ts.length 0, [], []⟩
def U4(ts:List Tk)(od:Int)(m:Nat):Lb:={lC ts od ts.length with ce:=λl=>if l<m then mT ts od (l:Nat) else 0}
def mU(ts:List Tk)(od:Int):Lb:={lC ts od ts.length with ce:=λl=>if l<8 then mT ts od (l:Nat) else 0}
theorem TQ(od:Int)(h:oX ts=true):lA (mU ts od) 0:=by
 obtain⟨f,a⟩:=YS h;have b:ts.take ts.length=ts:=ab8 (abM _);refine⟨by simp[mU,lC,b];exact f,by simp[mU,lC,C2],by simp[mU,lC],by simp[mU,lC],by simp[mU,lC],⟨adL _,by simp[mU,lC]⟩,λt hm=>a t (by simpa[mU,lC,b] using hm),λi s hs=>?_,λi v k=>?_,λj l=>by simp[mU,lC] at l,by simp[mU,lC],by simp[mU,lC]⟩
 .have d:(ts.map λt=>kC t.pe)[i]?=some s:=by simpa[mU,lC,b] using hs
  obtain⟨t,hm,rfl⟩:=ad3.1 (adF d);exact Ho (a t hm).pe.1 (a t hm).pe.2
 .have e:(List.replicate ts.length (0:Int))[i]?=some v:=k;have:=ac5 (adF e);omega
def u9(n:Nat):Obj:= .cells (madeCells (Value.int .i64 0).cells (n *1)) 3
def XW(od:Int)(n k u v:Nat):Array aC:=#[bH,od, .slice k n n,aU,aU,aU,aU,aU,aU,aU,aU,aU,bH, .slice u n n, .slice v n n,bH,bH]
structure zT(W wx:aA)(R:List Int)(od:Int)(n g k u v:Nat):Prop where
 b:bE wx g 193 (XW od n k u v)
 rk_:bI eI 1 wx 0 3 k n R
 ru:bI eI 1 wx 0 3 u n (List.replicate n 0)
 rv:bI eI 1 wx 0 3 v n (List.replicate n 0)
 lg:W.heap.size<=g
 lk:W.heap.size<=k
 lu:W.heap.size<=u
 lv:W.heap.size<=v
 gk:g≠k
 gu:g≠u
 gv:g≠v
 ku:k≠u
 kv:k≠v
 uv:u≠v
theorem jV(W:aA)(n:Nat)(d:n<=1000){B v:Nat}(a:v=W.heap.size)(b:B<=W.heap.size):bI eI 1 (W.alloc (u9 n)) B 3 v n (List.replicate n 0):=by
 subst a;unfold bI;rw[ad6,<-ED];exact World.ownsRow_lit W _ n b dN (size_madeCells _ _)
theorem zT.of{k v:Nat}(b:g=wp.heap.size)(hk:bI eI 1 wp W.heap.size 3 k n R)(hu:bI eI 1 wp W.heap.size 3 i n (List.replicate n 0))(a:bI eI 1 wp W.heap.size 3 v n (List.replicate n 0))(ku:k≠i)(kv:k≠v)(uv:i≠v):zT W (wp.alloc (.cells (XW od n k i v) 193)) R od n g k i v:=by
 have d:=hk.lt k rfl;have a2:=hu.lt i rfl;have a3:=a.lt v rfl;have a4:W.heap.size<=wp.heap.size:=aQ;exact⟨bE.fL wp _ _ b.symm,(hk.alloc _).from_ (abX _),(hu.alloc _).from_ (abX _),(a.alloc _).from_ (abX _),aQ,d.1,a2.1,a3.1,aQ,aQ,aQ,ku,kv,uv⟩
def IJ(g k u v:Nat):Nat->Nat:=λb=>if b=g then 1 else if b=k then 3 else if b=u then 6 else if b=v then 7 else 0
theorem zT.lib{k v:Nat}(h:zT W wx R od n g k m v)(f:R.length=n)(hb:aD W W wx):bU (λb=>b<W.heap.size) wx g ⟨[],od,R,λ_=>0,0, [],List.replicate n 0,List.replicate n 0, [], []⟩ ⟨none,0, [],some ⟨k,0,none⟩,n,none,0, [],some ⟨m,0,none⟩,n,some ⟨v,0,none⟩,n,none,0,none,0⟩:=by
 obtain⟨b0,b1,b2,b3,lg,lk,lu,lv,gk,gu,gv,ku,kv,uv⟩:=h;have l:IJ g k m v g=1:=abP rfl;have o:IJ g k m v k=3:=by unfold IJ;rw[abQ (aeC gk),abP rfl]
 have eu:IJ g k m v m=6:=by unfold IJ;rw[abQ (aeC gu),abQ (aeC ku),abP rfl]
 have ev:IJ g k m v v=7:=by unfold IJ;rw[abQ (aeC gv),abQ (aeC kv),abQ (aeC uv),abP rfl]
 refine⟨rfl,IJ g k m v,λb a=>?_,λi p hp=>?_⟩
 .have a:b<W.heap.size:=a;refine⟨abO a hb.size,?_⟩;unfold IJ;rw[abQ aQ,abQ aQ,abQ aQ,abQ aQ]
 .have nil:∀{α:Type} (enc:α->List aC) (sz:Nat) (e:TypeId) (j:Nat),gP enc sz e none 0 ([]:List α) (Fo wx (IJ g k m v) j) wx:=λenc sz e j=>gP.nil (Fo.ol _ _ _)
  match i,hp with
  |0,hp=>simp[jC] at hp;subst hp;exact PB.mk (by rw[show fU _ _=XW od n k m v by simp[fU,XW,f]];exact b0) (Fo.ol _ _ _) (λhc=>hc.2 l)
  |1,hp=>simp[jC] at hp;subst hp;exact⟨bI.nil _ _ _,λx d=>by simp at d,Fo.ol _ _ _,λq hq=>by simp[aY] at hq,λx d=>by simp at d,λx d=>by simp at d⟩
  |2,hp=>simp[jC] at hp;subst hp;exact⟨b1,Fo.ol _ _ _,λq hq=>by simp[aY] at hq;subst hq;exact λhc=>hc.2 o⟩
  |3,hp=>simp[jC] at hp;subst hp;exact nil _ _ _ _
  |4,hp=>simp[jC] at hp;subst hp;exact⟨rfl,List.nodup_nil,λi hi=>by simp at hi,Fo.ol _ _ _,λq hq=>by simp at hq⟩
  |5,hp=>simp[jC] at hp;subst hp;exact⟨b2,Fo.ol _ _ _,λq hq=>by simp[aY] at hq;subst hq;exact λhc=>hc.2 eu⟩
  |6,hp=>simp[jC] at hp;subst hp;exact⟨b3,Fo.ol _ _ _,λq hq=>by simp[aY] at hq;subst hq;exact λhc=>hc.2 ev⟩
  |7,hp=>simp[jC] at hp;subst hp;exact nil _ _ _ _
  |8,hp=>simp[jC] at hp;subst hp;exact nil _ _ _ _
  |i+9,hp=>simp[jC] at hp
def FK(A:Option aJ)(c:Nat)(L:List Tm)(x:Tm):Pt:=⟨λF w=>NN F w A c L/\Sl lN 3 w x.A x.t.se/\(∀q,aY x.A=some q->q<w.heap.size/\¬F q/\aY A≠some q),λF G H w w' h k hG fl hH=>⟨(OS A c L).cH F G H w w' h.1 k hG fl hH,h.2.1.kp k (λq hq=>hG q (h.2.2 q hq).1 (h.2.2 q hq).2.1),λq hq=>⟨abO (h.2.2 q hq).1 k.size,hH q (h.2.2 q hq).1 (h.2.2 q hq).2.1,(h.2.2 q hq).2.2⟩⟩⟩
section
variable{F:Nat->Prop}{w w':aA}{g s c:Nat}{X:Lb}{y:La}{A:Option aJ}{x:Tm}
theorem bU.Sx(h:bU F w g X y)(hb:aD w w w')(d:∀q,aY A=some q->w.heap.size<=q/\q<w'.heap.size):bU (cI F A) w' g X y:=
 ⟨h.ts,Ob.cH _ F (λb=>b<w.heap.size) (cI F A) w w' h.o (Kp.cD hb λ_ h=>h) (λ_ f _=>f) (λb a=>a.elim (λh1=>abO (h.fl b h1) hb.size) (λh1=>(d b h1).2)) (λr f i a=>a.elim i (λe=>by have:=d r e;omega))⟩
theorem bU.Uw(h:bU (cI F x.A) w g X y)(hs:Sl lN 3 w x.A x.t.se)(f:∀q,aY x.A=some q->q<w.heap.size/\¬F q):Ob ((jC g X y).set 1 (FK y.T y.cT y.L x)) F w:=by
 cases d:aY x.A with
 |none=>
  have e:cI F x.A=F:=by funext b;unfold cI;rw[d];exact propext ⟨λh=>h.elim id (λh=>by cases h), .inl⟩
  have h1:=h.o;rw[e] at h1;exact(h1.sF (w':=w) 1 (OS y.T y.cT y.L) (FK y.T y.cT y.L x) rfl rfl (λG i=>⟨⟨i,hs,λq hq=>by rw[d] at hq;cases hq⟩,Kp.refl _ _⟩)).1
 |some s=>
  have e:cI F x.A=Fb F s:=by funext b;unfold cI Fb;rw[d];exact propext ⟨λh=>h.imp id (λh=>by injection h with h;exact h.symm),λh=>h.imp id (λh=>by rw[h])⟩
  have h1:=h.o;rw[e] at h1;refine h1.Kr (f s d).2 1 (OS y.T y.cT y.L) (FK y.T y.cT y.L x) rfl (λG j i=>?_);have a:NN (Fb G s) w y.T y.cT y.L:=i;refine⟨⟨a.o,a.sl,λb hb=>a.fl b (.inl hb),λq hq hf=>a.fA q hq (.inl hf),λz k q hq=>⟨(a.fS z k q hq).1,λhf=>(a.fS z k q hq).2 (.inl hf)⟩,a.cp⟩,hs,λq hq=>?_⟩;rw[d] at hq;injection hq with hq;subst hq;exact⟨(f s d).1,j,λl=>a.fA s l (.inr rfl)⟩
theorem bU.Rq(h:Ob ((jC g X y).set 1 (FK y.T y.cT y.L x)) F w5)(j:y.L.map Tm.t=X.ts)(l:x.t.se.length<=x.c)(m:∀z∈y.L,∀q,aY z.A=some q->aY y.T≠some q)(ho:bI pM 5 w6 0 125 A c (y.L++ [x]))(i:w5.grownBy w6 (aY y.T))(ha:aY A=aY y.T\/aY A=some w5.heap.size)(r:n=y.L.length):
 bU F (w6.setCell (g,0) (.slice A (n+1) c)) g {X with ts:=X.ts++ [x.t]} {y with T:=A,cT:=c,L:=y.L++ [x]}/\Kp F w5 (w6.setCell (g,0) (.slice A (n+1) c)):=by
 obtain⟨a,b⟩:=h.sF (w':=w6) (l':=(jC g X y).set 1 (OS A c (y.L++ [x]))) 1 (FK y.T y.cT y.L x) (OS A c (y.L++ [x])) rfl rfl (λG o=>by
  obtain⟨f,h1,p⟩:NN G w5 y.T y.cT y.L/\Sl lN 3 w5 x.A x.t.se/\(∀q,aY x.A=some q->q<w5.heap.size/\¬G q/\aY y.T≠some q):=o;have k:Kp G w5 w6:=Kp.grown i λb hb=>⟨f.fl b hb,λe=>f.fA b e.symm hb⟩
  refine⟨⟨ho,λz d=>?_,f.fl.kp k,λq hq hf=>?_,λz d q hq=>?_,λz d=>?_⟩,k⟩
  .rcases ab6.1 d with d|d
   .exact(f.sl z d).grown i (λq hq e=>m z d q e hq)
   .rw[ab0.1 d];exact h1.grown i (λq hq e=>(p q e).2.2 hq)
  .rcases ha with ha|ha
   .exact f.fA q (by rw[<-ha];exact hq) hf
   .rw[ha] at hq;injection hq with hq;have:=f.fl q hf;omega
  .rcases ab6.1 d with d|d
   .exact⟨abO (f.fS z d q hq).1 i.size,(f.fS z d q hq).2⟩
   .rw[ab0.1 d] at hq;exact⟨abO (p q hq).1 i.size,(p q hq).2.1⟩
  .rcases ab6.1 d with d|d
   .exact f.cp z d
   .rw[ab0.1 d];exact l)
 obtain⟨a2,b2⟩:=a.sF (w':=w6.setCell ⟨g,0,none⟩ (.slice A (n+1) c)) (l':=jC g {X with ts:=X.ts++ [x.t]} {y with T:=A,cT:=c,L:=y.L++ [x]}) 0 (PB g 193 (fU X y)) (PB g 193 (fU {X with ts:=X.ts++ [x.t]} {y with T:=A,cT:=c,L:=y.L++ [x]})) rfl rfl (λG o=>o.set 0 _ (by simp[fU,r]));exact⟨⟨by simp[j],a2⟩,b.trans b2⟩
theorem bU.Nc(h:bU (Fb F s) w g X y)(hF:¬F s)(hs:Sh w s (kC p))(ho:bI yB 1 w' 0 194 A c (y.a++ [s]))(t:w.grownBy w' (aY y.S))(ha:aY A=aY y.S\/aY A=some w.heap.size)(u:n=y.a.length):
 bU F (w'.setCell (g,12) (.slice A (n+1) c)) g {X with sh:=X.sh++ [kC p]} {y with S:=A,cS:=c,a:=y.a++ [s]}/\Kp (Fb F s) w (w'.setCell (g,12) (.slice A (n+1) c)):=by
 obtain⟨a,b⟩:=h.o.sF (w':=w') (l':=(jC g X y).set 3 (PR yB 1 194 A c (y.a++ [s]))) 3 (PR yB 1 194 y.S y.cS y.a) (PR yB 1 194 A c (y.a++ [s])) rfl rfl (λG f=>gP.eY f ho t ha);obtain⟨a2,b2⟩:=a.sF (w':=w'.setCell ⟨g,12,none⟩ (.slice A (n+1) c)) (l':=((jC g {X with sh:=X.sh++ [kC p]} {y with S:=A,cS:=c,a:=y.a++ [s]}).set 4 (OR y.a X.sh))) 0 (PB g 193 (fU X y)) (PB g 193 (fU {X with sh:=X.sh++ [kC p]} {y with S:=A,cS:=c,a:=y.a++ [s]})) rfl rfl (λG f=>f.set 12 _ (by simp[fU,u]));have k:=b.trans b2;have j:Sh (w'.setCell (g,12) (.slice A (n+1) c)) s (kC p):=k.aY hs (.inr rfl);have a3:=a2.Kr hF 4 (OR y.a X.sh) (OR (y.a++ [s]) (X.sh++ [kC p])) rfl (λG l f=>by
  have d:E9 (Fb G s) (w'.setCell (g,12) (.slice A (n+1) c)) y.a X.sh:=f;refine⟨by simp[d.len],?_,λi hi m=>?_,λb hb=>d.fl b (.inl hb),λq hq=>?_⟩
  .rw[List.nodup_append];refine⟨d.nd,aT,λa ha b hb=>?_⟩;rw[ab0.1 hb];exact λe=>(d.fa a ha).2 (.inr e)
  .by_cases hl:i<y.a.length
   .rw[List.getElem_append_left hl,List.getElem_append_left (by rw[<-d.len];exact hl)];exact d.sh i hl _
   .have r:i=y.a.length:=by simp at hi;omega
    subst r;have v:(y.a++ [s])[y.a.length]'hi=s:=aT;have z:(X.sh++ [kC p])[y.a.length]'m=kC p:=by rw[List.getElem_append_right (by rw[d.len];exact abM _)];simp
    rw[v,z];exact j
  .rcases ab6.1 hq with hq|hq
   .exact⟨(d.fa q hq).1,λhf=>(d.fa q hq).2 (.inl hf)⟩
   .rw[ab0.1 hq];exact⟨j.lt,l⟩)
 exact⟨⟨h.ts,a3⟩,k⟩
theorem Ob.Tg{t:TypeId}(h:Ob l F w)(j:l[0]?=some (PB g t cs))(i:Nat)(p:Pt)(hp:l[i+1]?=some p)(a:∀G,p.X G w->∀q,aY B=some q->¬G q)(k:w.grownBy w' (aY B)):bE w' g t cs:=by
 obtain⟨f,h1⟩:=h;have d:mR g t cs (Fo w f 1) w:=h1.get 0 j;refine d.b.grown k (λe=>?_);have m:f g=1:=acD λhc=>d.nf ⟨d.b.lt,hc⟩
 exact a _ (h1.get (i+1) hp) g e.symm ⟨d.b.lt,aQ⟩
theorem Ob.Te{t:TypeId}(h:Ob l F w)(a:l[0]?=some (PB g t cs)):bE w g t cs:=by
 obtain⟨d,h1⟩:=h;exact(h1.get 0 a:mR g t cs _ w).b
end
theorem Zg:jL prog 190 194 1 8:=fP (z:= .pointer none) underlying190 aV rfl aQ
theorem IQ(hF:∀b,b<w.heap.size->F b)(hb:aD w w w5)(k:Kp F w5 w7):aD w w w7:=⟨k.os.trans hb.os,k.tape.trans hb.tape,k.output.trans hb.output,abT hb.size k.size,λi hi=>(k.block i (hF i hi)).trans (hb.block i hi)⟩
theorem bU.Xd{x:Lb}(h:bU F w g x y)(hm:m<8)(v:Int):bU F (w.setCell (g,3+m) v) g {x with ce:=λl=>if l=m then v else x.ce l} y/\Kp F w (w.setCell (g,3+m) v):=by
 refine h.cell (3+m) _ ?_ h.ts rfl;rcases(by omega:m=0\/m=1\/m=2\/m=3\/m=4\/m=5\/m=6\/m=7) with rfl|rfl|rfl|rfl|rfl|rfl|rfl|rfl <;> simp[fU]
theorem bU.Ue{x:Lb}(h:bU F w g x y):sM w y.T y.L:=by
 obtain⟨b,h1⟩:=h.o;have a:NN (Fo w b 2) w y.T y.cT y.L:=h1.get 1 (p:=OS y.T y.cT y.L) rfl;exact⟨a.o.sl lL,a.sl,a.cp⟩
theorem Fu(ts:List Tk)(od:Int)(m:Nat):U4 ts od (m+1)={U4 ts od m with ce:=λl=>if l=m then mT ts od (m:Nat) else(U4 ts od m).ce l}:=by
 have e:(λl:Nat=>if l<m+1 then mT ts od (l:Nat) else 0)=λl:Nat=>if l=m then mT ts od (m:Nat) else if l<m then mT ts od (l:Nat) else 0:=by
  funext l
  by_cases h:l=m
  .rw[abP h,abP aQ,h]
  .rw[abQ h];by_cases a:l<m
   .rw[abP a,abP aQ]
   .rw[abQ a,abQ aQ]
 show({lC ts od ts.length with ce:=λl:Nat=>if l<m+1 then mT ts od (l:Nat) else 0}:Lb)=_;rw[e];rfl
theorem Dl{k:Nat}(hk:k<ts.length):lC ts od (k+1)={lC ts od k with ts:=(lC ts od k).ts++ [ts[k]],sh:=(lC ts od k).sh++ [kC (ts[k]).pe]}:=by
 unfold lC;rw[<-acL hk,afA];rfl
theorem Fj{L:List Tm}(h:sM w A L)(hl:L.length<=1000)(h8:∀x∈L,x.t.se.length<=1000000)(c:Nat)(od:Int):
 aG prog 24 #[(A,L.length,c),od] w λe w'=>if oX (L.map Tm.t)=true/\(od=0\/od=1) then(∃g y,e= .returned (.tuple #[.pointer (some ⟨g,0,none⟩),aU])/\bU (λb=>b<w.heap.size) w' g (mU (L.map Tm.t) od) y/\aD w w w') else e= .returned (.tuple #[pK, .int .i64 1])/\aD w w w':=by
 have HA:=aP (Ja h hl h8 c);have HS:=aP h;have H8:=aP h8;clear h h8;by_cases hc:oX (L.map Tm.t)=true/\(od=0\/od=1)
 .simp only[abP hc];obtain⟨ha,ho⟩:=hc;rw[ha] at HA;have HTI:=aP (YS ha);have hn8:L.length<=8:=by have:=HTI.o.1;simpa using this
  have HR:=aP (λW (hW:sM W A L)=>J7 hW aQ c od);clear ha;go_enter func24,ntmps24
  go_upto_region 1 with(fail)
  go_cut [22] (λs22 wx=>s22= .bool false/\aD w w wx)
  case first=>
   rcases ho with rfl|rfl
   .go_wp2_with fail
    refine aR HA ?_;rintro e w2 ⟨rfl,hb⟩;have HB:=aP hb;clear hb HA;go_wp2_with fail
    go_meet
    exact⟨rfl,HB.o⟩
   .go_wp2_with fail
    refine aR HA ?_;rintro e w2 ⟨rfl,hb⟩;have HB:=aP hb;clear hb HA;go_wp2_with fail
    go_meet
    exact⟨rfl,HB.o⟩
  case rest=>
  obtain⟨rfl,hbc⟩:=hcut;have D:=aP hbc;have HR2:=aP (λW (hb:aD wc wc W)=>HR.o W ((HS.o.keep hbc).keep hb));obtain⟨i0,hi0,hz0,hz1,hz2⟩:=info_parts IW;clear hbc ho;go_upto_region 3 with(fail)
  go_cut [6] (λs6 wx=>∃g k u v,s6= .pointer (some ⟨g,0,none⟩)/\zT w wx (sR (L.map Tm.t) od) od L.length g k u v/\aD w w wx)
  case first=>
   have hBx:=(Below.refl wc wc).drew;have hmk:∀W:aA,(Instr.makeSlice 35 (.int .i64 (L.length:Int)) (.int .i64 (L.length:Int))).run prog W= .ok (.slice W.heap.size L.length L.length) (W.alloc (u9 L.length)):=λW=>by
    have h:=run_make (P:=prog) W 35 3 i0 (.int .i64 0) underlying35 hi0 hz0 .i64 .i64 L.length L.length aQ (adL _) (by rw[hz2];omega) aQ;simp only[abW] at h;rw[h,hz1];rfl
   have hB1:aD wc wc (wc.alloc (u9 L.length)).drew:=(aX wc _).drew;have hB2:aD wc wc ((wc.alloc (u9 L.length)).alloc (u9 L.length)).drew:=((aX wc _).alloc aT _).drew;go_region_held3 (λ_=>True) (exact trivial) ((first|(go_at_call 51;(with_reducible refine(HR2.o _ hBx).mono ?_);rintro e I ⟨q,rfl,f,j⟩)|(go_at_call 51;(with_reducible refine(HR2.o _ hB1).mono ?_);rintro e I ⟨q,rfl,f,j⟩)|(go_at_call 51;(with_reducible refine(HR2.o _ hB2).mono ?_);rintro e I ⟨q,rfl,f,j⟩)))
   all_goals
    have z26:=f.lt q rfl;have s4:=j.size;have dz:∀W:aA,W.drew.heap.size=W.heap.size:=λ_=>rfl
    (try rw[dz] at z26 s4)
    (try simp only[World.size_alloc] at z26 s4)
    have sw:=D.o.size;clear hmk;go_wp2_with fail
    go_meet
    first
     |(refine⟨_,q,I.heap.size,I.heap.size+1,rfl,zT.of aT (((f.from_ bX).alloc _).alloc _) ((jV I L.length aQ rfl aQ).alloc _) (jV (I.alloc (u9 L.length)) L.length aQ aT bX) aQ aQ aQ,D.o.trans (Below.mono ?_ sw)⟩)
     |(refine⟨_,q,I.heap.size+1,I.heap.size,rfl,zT.of aT (((f.from_ bX).alloc _).alloc _) (jV (I.alloc (u9 L.length)) L.length aQ aT bX) ((jV I L.length aQ rfl aQ).alloc _) aQ aQ aQ,D.o.trans (Below.mono ?_ sw)⟩)
     |(refine⟨_,q,wc.heap.size,I.heap.size,rfl,zT.of aT ((f.from_ bX).alloc _) (((jV wc L.length aQ rfl aQ).drew.keep j).alloc _) (jV I L.length aQ rfl aQ) aQ aQ aQ,D.o.trans (Below.mono ?_ sw)⟩)
     |(refine⟨_,q,I.heap.size,wc.heap.size,rfl,zT.of aT ((f.from_ bX).alloc _) (jV I L.length aQ rfl aQ) (((jV wc L.length aQ rfl aQ).drew.keep j).alloc _) aQ aQ aQ,D.o.trans (Below.mono ?_ sw)⟩)
     |(refine⟨_,q,wc.heap.size,wc.heap.size+1,rfl,zT.of aT (f.from_ bX) (((jV wc L.length aQ rfl aQ).alloc _).drew.keep j) ((jV (wc.alloc (u9 L.length)) L.length aQ aT bX).drew.keep j) aQ aQ aQ,D.o.trans (Below.mono ?_ sw)⟩)
     |(refine⟨_,q,wc.heap.size+1,wc.heap.size,rfl,zT.of aT (f.from_ bX) ((jV (wc.alloc (u9 L.length)) L.length aQ aT bX).drew.keep j) (((jV wc L.length aQ rfl aQ).alloc _).drew.keep j) aQ aQ aQ,D.o.trans (Below.mono ?_ sw)⟩)
    first
     |exact(((hBx.trans j).alloc (by first|omega|(simp only[World.size_alloc];omega)|(rw[dz];simp only[World.size_alloc];omega)) _).alloc (by first|omega|(simp only[World.size_alloc];omega)|(rw[dz];simp only[World.size_alloc];omega)) _).alloc (by first|omega|(simp only[World.size_alloc];omega)|(rw[dz];simp only[World.size_alloc];omega)) _
     |exact((hB1.trans (j.mono (by first|omega|(simp only[World.size_alloc];omega)|(rw[dz];simp only[World.size_alloc];omega)))).alloc (by first|omega|(simp only[World.size_alloc];omega)|(rw[dz];simp only[World.size_alloc];omega)) _).alloc (by first|omega|(simp only[World.size_alloc];omega)|(rw[dz];simp only[World.size_alloc];omega)) _
     |exact(hB2.trans (j.mono (by first|omega|(simp only[World.size_alloc];omega)|(rw[dz];simp only[World.size_alloc];omega)))).alloc (by first|omega|(simp only[World.size_alloc];omega)|(rw[dz];simp only[World.size_alloc];omega)) _
  case rest=>
  obtain⟨g,k0,u0,v0,rfl,hnb,hbc2⟩:=hcut;have R:=hnb.lib (by rw[C2,acS]) hbc2;obtain⟨ts,hts⟩:∃ts,ts=L.map Tm.t:=⟨_,rfl⟩
  have htl:ts.length=L.length:=by rw[hts,acS]
  have hst:lC ts od 0=⟨[],od,sR ts od,λ_=>0,0, [],List.replicate L.length 0,List.replicate L.length 0, [], []⟩:=by unfold lC;rw[htl];rfl
  rw[<-hts,<-hst] at R;obtain⟨F,hF⟩:∃F:Nat->Prop,F=λb=>b<w.heap.size:=⟨_,rfl⟩
  rw[<-hF] at R;have HFF:aH (∀b,F b->b<w.heap.size):=λb hb=>by rw[hF] at hb;exact hb
  have HF:=aP hF;have HTS:=aP hts;have HTL:=aP htl;rw[<-hts] at HTI;have H0:aH (∃y,bU F wc g (lC ts od 0) y/\aD w w wc/\(∀z∈y.L,∀q,aY z.A=some q->aY y.T≠some q)/\y.L.length=0):=⟨_,R,hbc2,λz J=>by simp at J,rfl⟩
  clear hnb hbc2 R hst HR2 HR hF hts htl D hi0 hz0 hz1 hz2;go_wp2_with fail
  go_loopw [8,9,10,37] (λ_ _ _ v37 wr=>∃k:Nat,k<=L.length/\v37= .int .i64 k/\aH (∃y,bU F wr g (lC ts od k) y/\aD w w wr/\(∀z∈y.L,∀q,aY z.A=some q->aY y.T≠some q)/\y.L.length=k)) (λ_ _ _ v37 _=>L.length - (aL v37).toNat)
  case atStart=>exact⟨0,abX _,rfl,H0.o⟩
  case round=>
   clear H0;obtain⟨k,hk,rfl,HQ⟩:=hrel;by_cases hlt:k<L.length
   .obtain⟨y,hA,hB,hap,hyl⟩:=HQ.o;obtain⟨b,off,hAd,t0,t1,t2,t3,t4⟩:=(HS.o.keep hB).at_ hlt;have j0:(0:Int)<=k:=aQ;have j1:(k:Int)<(L.length:Int):=aQ;have hsl:=(HS.o.keep hB).sl _ (abV hlt);have h8x:=H8.o _ (abV hlt);have hktl:k<ts.length:=by rw[HTL.o];exact hlt
    have hxt:ts[k]=L[k].t:=by simp only[HTS.o,afZ]
    have HNX:aH (lC ts od (k+1)={lC ts od k with ts:=(lC ts od k).ts++ [L[k].t],sh:=(lC ts od k).sh++ [kC (L[k].t).pe]}):=by unfold aH;rw[<-hxt];exact Dl hktl
    have hti:=HTI.o.2 _ (abV hktl);rw[hxt] at hti;generalize L[k]=x at *;have hb1:=aX wr (aI #[x.t.co,x.t.pe,x.t.de,(x.A,x.t.se.length,x.c),x.t.po] 125);have bx:=bE.new wr 125 #[x.t.co,x.t.pe,x.t.de,(x.A,x.t.se.length,x.c),x.t.po];have x1:=bx.cell 1 x.t.pe rfl;have hA1:=hA.boxed hb1 (abM _) aT;have hsl1:=hsl.keep hb1;have HN:=aP (Z7 x.t.pe (wr.alloc (aI #[x.t.co,x.t.pe,x.t.de,(x.A,x.t.se.length,x.c),x.t.po] 125)) hti.pe.1 hti.pe.2);have M:=aP (And.intro hA1 (And.intro bx (And.intro hsl1 (hB.trans (hb1.mono hB.size)))));have HSZ:aH (w.heap.size<=wr.heap.size):=hB.size;have E:aH (y.L.length=k/\(∀z∈y.L,∀q,aY z.A=some q->aY y.T≠some q)/\y.L.map Tm.t=(lC ts od k).ts/\x.t.se.length<=1000000):=⟨hyl,hap,hA.ts,h8x⟩
    clear hA hB hap hyl hsl hxt hti hb1 bx hA1 hsl1 hktl HQ;rw[hAd];go_upto_region 7 with(fail)
    clear t0 t1 t2 t3 t4;generalize wr.alloc (aI #[x.t.co,x.t.pe,x.t.de,(x.A,x.t.se.length,x.c),x.t.po] 125)=w1 at *;generalize wr.heap.size=b8 at *;go_wp2_with fail
    refine aR HN ?_;rintro e w2 ⟨s2,rfl,hsg,hsh,hb2⟩;have hA2:=M.o.1.boxed hb2 hsg hsh.lt;have bx2:=M.o.2.1.keep hb2;have x3:=bx2.cell 3 (.slice x.A x.t.se.length x.c) rfl;have HC:=aP (QJ x.A x.t.se x.c w2 (M.o.2.2.1.keep hb2) (by have:=E.o.2.2.2;omega));have HLE:aH (b8<s2/\s2<w2.heap.size/\b8<w2.heap.size/\(∀b,F b->b<b8)):=⟨abO M.o.2.1.lt hsg,hsh.lt,bx2.lt,λb hb=>abO (HFF.o b hb) HSZ.o⟩
    have HNS:aH (¬Fb F b8 s2):=λhf=>by
     have l:=HLE.o;rcases hf with hf|hf
     .have:=l.2.2.2 s2 hf;omega
     .omega
    have N:=aP (And.intro hA2 (And.intro bx2 (And.intro hsh (M.o.2.2.2.trans (hb2.mono (by have:=M.o.2.2.2.size;omega))))));clear hA2 bx2 hsh hb2 hsg M HN x1;go_wp2_with fail
    refine aR HC ?_;rintro e w3 ⟨B,d,rfl,own,V⟩;have hA3:=N.o.1.Sx (A:=B) V (λq hq=>own.lt q hq);have bx3:=N.o.2.1.keep V;have f3:=bx3.frozen 3;have x3':=bx3.cell 3 (.slice x.A x.t.se.length x.c) rfl;have O:=aZ (bL w3 b8) 3 (.slice B x.t.se.length d);have bx4:=bx3.cB 3 (.slice B x.t.se.length d);have hsl4:=(own.sl CJ).grown O (λq hq e=>by injection hq with hq;have:=(own.lt q e).1;have:=HLE.o.2.2.1;omega);have hsh4:Sh (w3.setCell (b8,3) (.slice B x.t.se.length d)) s2 (kC x.t.pe):=bE.grown (N.o.2.2.1.keep V) O (λe=>by injection e with e;have:=HLE.o.1;omega);have hA4:bU (cI (Fb (Fb F b8) s2) B) (w3.setCell (b8,3) (.slice B x.t.se.length d)) g (lC ts od k) y:=⟨hA3.ts,dV.gr (Ob.cH _) hA3.o O (λq hq=>by injection hq with hq;subst hq;exact .inl (.inl (.inr rfl))) (λb hb=>abO (hA3.fl b hb) O.size) (λb _ h=>h)⟩
    obtain⟨i,Y⟩:∃i:Tm,i=⟨x.t,B,d⟩:=⟨_,rfl⟩
    have hcl:=bU.Uw (x:=i) (F:=Fb (Fb F b8) s2) (by rw[Y];exact hA4) (by rw[Y];exact hsl4) (λq hq=>by
     rw[Y] at hq;have h1:=own.lt q hq;refine⟨abO h1.2 O.size,λhf=>?_⟩;have l:=HLE.o;rcases hf with(hf|hf)|hf
     .have:=l.2.2.2 q hf;omega
     .omega
     .omega)
    have HCP:aH (i.t.se.length<=i.c/\i.t=x.t):=by rw[Y];exact⟨own.cap,rfl⟩
    have HB4:aH (aD w w (w3.setCell (b8,3) (.slice B x.t.se.length d))):=(N.o.2.2.2.trans (V.mono (by have:=N.o.2.2.2.size;omega))).grown O (by have:=N.o.2.2.2.size;have:=V.size;omega) (λq hq=>by injection hq with hq;have:=HSZ.o;omega);have bx4':bE (w3.setCell (b8,3) (.slice B x.t.se.length d)) b8 125 #[i.t.co,i.t.pe,i.t.de,(i.A,i.t.se.length,i.c),i.t.po]:=by rw[Y];exact bx4
    have r:=dH hcl bx4' hsh4;clear hA3 bx3 bx4 bx4' O hsl4 hsh4 hA4 hcl own V N HC x3;go_upto_region 11 with(fail)
    clear f3 x3';generalize w3.setCell (b8,3) (.slice B x.t.se.length d)=I at *;clear Y;have e0:=r.o.1.Te rfl |>.cell 0 (.slice y.T y.L.length y.cT) rfl;rw[E.o.1] at e0;have z0:=r.o.2.1.cell 0 i.t.co rfl;have z1:=r.o.2.1.cell 1 i.t.pe rfl;have z2:=r.o.2.1.cell 2 i.t.de rfl;have z3:=r.o.2.1.cell 3 (.slice i.A i.t.se.length i.c) rfl;have z4:=r.o.2.1.cell 4 i.t.po rfl;have HY:aH (∀(W:aA) t,Sl pM 5 (W.alloc (.cells #[i.t.co,i.t.pe,i.t.de,(i.A,i.t.se.length,i.c),i.t.po] t)) (some ⟨W.heap.size,0,none⟩) [i]):=λW t=>Sl.new lL W i _ rfl t
    have C:=bD e0;have aft_z0:=bD z0;have aft_z1:=bD z1;have aft_z2:=bD z2;have aft_z3:=bD z3;have aft_z4:=bD z4;refine bM (bQ _) (λ_=>bQ) [61] (λ_ v w=>MC pM 5 i v w) [7,10] [[7,6,5]] 93 (bZ _) (λ_ _ _ h J=>bV h J) (λ_ d hd _ v w w' _ h J=>h.keep J) aV aV bF ?_;repeat (first|(refine eK ?_)|(refine sC 61 [] bF bF bF bF (λγ w hC hT=>?_) ?_;(simp only[cY];go_simp;exact pB (aX w _) ⟨_,rfl,HY.o w _⟩);(try refine dE ?_)))
    refine dI ?_;intro γ w5 H hT;clear C aft_z0 aft_z1 aft_z2 aft_z3 aft_z4;simp only[cY,Act.put,abN,abU,abS];refine dS ?_;obtain⟨G,hv,hsl⟩:=hT 61 aT;rw[hv];have hO5:=r.o.1.below H;have hsh5:=r.o.2.2.keep H;have hB5:aD w w w5:=HB4.o.trans (H.mono HB4.o.size);have U:∃o:bI pM 5 w5 0 125 y.T y.cT y.L,True:=by
     obtain⟨ow,h1⟩:=hO5;have l:NN (Fo w5 ow 2) w5 y.T y.cT y.L/\_:=h1.get 1 (p:=FK y.T y.cT y.L i) rfl;exact⟨l.1.o,trivial⟩
    have U:=U.1;have Z:=dH hO5 hsh5 hB5;clear hv hT HY e0 z0 z1 z2 z3 z4 hO5 hsh5 hB5 H r HB4;refine bS w5 rfl (.tmp 59) (.tmp 61) rfl Es lL (base:=0) (xs:=y.L) U (n:=k) E.o.1 rfl (m:=1) rfl (ys:= [i]) rfl hsl dN aQ (abX _) _ rfl (k+1) rfl ?_;intro A6 c6 w6 own6 hg6 Q;have hb6:=Z.o.1.Tg (w':=w6) (B:=y.T) rfl 0 (FK y.T y.cT y.L i) rfl (λG hG q hq=>hG.1.fA q hq) hg6;refine dZ w6 rfl 102 _ _ rfl g 0 (.slice A6 (k+1) c6) rfl rfl aV rfl (hb6.one (by simp[fU])) ?_;refine cN ?_;refine dE ?_;obtain⟨h7,k7⟩:=bU.Rq (X:=lC ts od k) (y:=y) Z.o.1 E.o.2.2.1 HCP.o.1 E.o.2.1 own6 hg6 Q (n:=k) E.o.1.symm;have hsh7:Sh (w6.setCell ⟨g,0,none⟩ (.slice A6 (k+1) c6)) s2 (kC x.t.pe):=k7.aY Z.o.2.1 (.inr rfl);have hap7:∀z∈y.L++ [i],∀q,aY z.A=some q->aY A6≠some q:=λz J q hq e=>by
     obtain⟨ow,h1⟩:=Z.o.1;have l:NN (Fo w5 ow 2) w5 y.T y.cT y.L/\_/\(∀q,aY i.A=some q->q<w5.heap.size/\¬Fo w5 ow 2 q/\aY y.T≠some q):=h1.get 1 (p:=FK y.T y.cT y.L i) rfl;have h3:q<w5.heap.size/\aY y.T≠some q:=by
      rcases ab6.1 J with J|J
      .exact⟨(l.1.fS z J q hq).1,E.o.2.1 z J q hq⟩
      .rw[ab0.1 J] at hq;exact⟨(l.2.2 q hq).1,(l.2.2 q hq).2.2⟩
     rcases Q with Q|Q
     .exact h3.2 (Q ▸ e)
     .rw[Q] at e;injection e with e;omega
    have HB7:aH (aD w w (w6.setCell ⟨g,0,none⟩ (.slice A6 (k+1) c6))):=by
     exact IQ (λb hb=> .inl (.inl (by rw[HF.o];exact hb))) Z.o.2.2 k7
    have e12:=h7.c 12 (.slice y.S y.a.length y.cS) rfl;have HAL:aH (y.a.length=k):=by
     have h1:=h7.Qn;have l:(lC ts od k).sh.length=k:=by simp[lC];have:=HTL.o;omega
     exact h1.trans l
    rw[HAL.o] at e12;have H7:=dH h7 hsh7 hap7;clear h7 k7 hsh7 hap7 own6 hg6 Q hb6 U hsl Z;generalize w6.setCell ⟨g,0,none⟩ (.slice A6 (k+1) c6)=w7 at *;have H8':=aP (H7.o.1.below (aX w7 (aI #[.pointer s2] 194)));have own8:∃o:bI yB 1 (w7.alloc (aI #[.pointer s2] 194)) 0 194 y.S y.cS y.a,True:=by
     obtain⟨ow,h1⟩:=H8'.o.o;exact⟨(h1.get 3 (p:=PR yB 1 194 y.S y.cS y.a) rfl).o,trivial⟩
    have HO8:=aP own8.1;clear own8;go_wp2_with(at_builtin;refine bS _ rfl _ _ rfl Zg E8 (base:=0) (xs:=y.a) HO8.o (n:=k) HAL.o rfl (m:=1) rfl (ys:= [s2]) rfl (Sl.new E8 w7 s2 _ rfl _) dN aQ (abX _) _ rfl (k+1) rfl ?_;intro A9 c9 w9 own9 hg9 at9;(have b9:=H8'.o.o.Tg (w':=w9) (B:=y.S) rfl 2 (PR yB 1 194 y.S y.cS y.a) rfl (λG hG q hq=>hG.nf q hq) hg9);(have f12:=b9.frozen 12);(have d12:=b9.cell 12 _ rfl);(obtain⟨h10,k10⟩:=bU.Nc H8'.o HNS.o (H7.o.2.1.alloc _) own9 hg9 at9 (n:=k) HAL.o.symm);(have HB10:=aP (IQ (λb hb=> .inl (.inl (by rw[HF.o];exact hb))) (HB7.o.alloc HB7.o.size _) k10));(have H10:=aP h10.less);clear h10 k10 own9 hg9 at9 b9)
    have HFIN:aH (∃y',bU F (w9.setCell ⟨g,12,none⟩ (.slice A9 (k+1) c9)) g (lC ts od (k+1)) y'/\aD w w (w9.setCell ⟨g,12,none⟩ (.slice A9 (k+1) c9))/\(∀z∈y'.L,∀q,aY z.A=some q->aY y'.T≠some q)/\y'.L.length=k+1):=by
     have h1:=H10.o;rw[HCP.o.2] at h1;rw[HNX.o];exact⟨_,h1,HB10.o,H7.o.2.2,by simp[E.o.1]⟩
    try rw[<-hAd]
    refine⟨⟨k+1,aQ,rfl,HFIN.o⟩,by simp only[aL];omega⟩
   .obtain rfl:k=L.length:=aQ;have H0:aH (∃y,bU F wr g (U4 ts od 0) y/\aD w w wr/\y.L.map Tm.t=ts):=by
     obtain⟨y,h1,l,_,_⟩:=HQ.o;rw[<-HTL.o] at h1;exact⟨y,h1,l,by rw[h1.ts];simp[lC]⟩
    clear HQ;go_wp2_with fail
    go_loopw [11,76] (λ_ v76 wr=>∃m:Nat,m<=8/\v76= .int .i64 m/\aH (∃y,bU F wr g (U4 ts od m) y/\aD w w wr/\y.L.map Tm.t=ts)) (λ_ v76 _=>8 - (aL v76).toNat)
    case atStart=>exact⟨0,aQ,rfl,H0.o⟩
    case round=>
     clear H0;obtain⟨m,hm,rfl,HM⟩:=hrel;by_cases hm8:m<8
     .obtain⟨y,h1,l,h3⟩:=HM.o;have hll:y.L.length=L.length:=by have:=HTL.o;rw[<-h3,acS] at this;exact this
      have e0:=h1.c 0 (.slice y.T y.L.length y.cT) rfl;rw[hll] at e0;have m0:(0:Int)<=m:=aQ;have m1:(m:Int)<8:=aQ;have HCE:aH (∀n:CW (bQ wr),aG prog 54 #[(y.T,L.length,y.cT),od,m] n.w λe w'=>e= .returned (.int .i64 (mT ts od (m:Nat)))/\bQ n.w w'):=λn=>by
       have h4:=Ce (h1.Ue.keep n.ok) aQ (λx hx=>by have:=(HTI.o.2 x.t (by rw[<-h3];exact ad3.2 ⟨x,hx,rfl⟩)).se;omega) y.cT od m;rw[h3,hll] at h4;exact h4
      have HST:=aP (Fu ts od m);have H1:=dH h1 l h3;clear h1 l h3 hll HM;go_upto_region 17 with(fail)
      have C:=bD e0;refine bM (bQ _) (λ_=>bQ) [] (λ_ _ _=>True) [12] [] 93 (bZ _) (λ_ _ _ h J=>bV h J) (λ_ d hd _ v w w' _ h J=>by cases hd) aV aV bF ?_;repeat (first|(refine CS bF ?_;(try refine dE ?_))|(refine yR bF bF bF bF bF (λK hK=>?_);go_big_quiet_op;refine hK _ ?_;clear hK K)|(refine ME bF bF bF bF bF bF (λK hK=>?_);go_big_quiet_op;refine hK _ ?_;clear hK K)|(refine F8 bF bF bF ?_;(try refine dE ?_))|(refine yO bF bF bF bF bF (λK hK=>?_);go_simp;(try simp only[FI,adJ]);first|(apply Exists.intro;refine⟨λn=>?_,hK _ ?_⟩;(with_reducible exact HCE.o _);clear hK K;(try refine dE ?_))|(apply Exists.intro;refine⟨λn=>rfl,hK _ ?_⟩;clear hK K;(try refine dE ?_))))
      refine dI ?_;intro γ w5 H hT;clear C;simp only[cY,Act.put,abN,abU,abS];refine dS ?_;have h5:=H1.o.1.below H;have hb6:=h5.bk;refine dZ w5 rfl 3 _ _ rfl g (3+m) (.int .i64 (mT ts od (m:Nat))) rfl rfl aV rfl (hb6.one (by simp[fU];omega)) ?_;refine cN ?_;refine dE ?_;obtain⟨h7,k7⟩:=h5.Xd hm8 (mT ts od (m:Nat));have H7:aH (∃y,bU F (w5.setCell ⟨g,3+m,none⟩ (.int .i64 (mT ts od (m:Nat)))) g (U4 ts od (m+1)) y/\aD w w (w5.setCell ⟨g,3+m,none⟩ (.int .i64 (mT ts od (m:Nat))))/\y.L.map Tm.t=ts):=by
       rw[HST.o];exact⟨y,h7,IQ (λb hb=>by rw[HF.o];exact hb) (H1.o.2.1.trans (H.mono H1.o.2.1.size)) k7,H1.o.2.2⟩
      clear h5 hb6 h7 k7 H H1 HST HCE;generalize w5.setCell ⟨g,3+m,none⟩ (.int .i64 (mT ts od (m:Nat)))=w7 at *;go_wp2_with fail
      refine⟨⟨m+1,aQ,rfl,H7.o⟩,by simp only[aL];omega⟩
     .obtain rfl:m=8:=aQ;have HE:aH (∃y,bU (λb=>b<w.heap.size) wr g (mU (L.map Tm.t) od) y/\aD w w wr):=by
       obtain⟨y,h1,l,_⟩:=HM.o;rw[HF.o,HTS.o] at h1;exact⟨y,h1,l⟩
      clear HM;go_wp2_with fail
      go_ret2
      obtain⟨y,h1,l⟩:=HE.o;exact⟨g,y,rfl,h1,l⟩
 .simp only[abQ hc];cases ha:oX (L.map Tm.t)
  .rw[ha] at HA;clear hc;go_enter func24,ntmps24
   go_wp2_with fail
   refine aR HA ?_;rintro e w2 ⟨rfl,hb⟩;have HB:=aP hb;clear hb HA;go_wp2_with fail
   go_ret2
   exact⟨rfl,HB.o⟩
  .rw[ha] at HA;have h0:¬od=0:=λh=>hc ⟨ha, .inl h⟩
   have h1:¬od=1:=λh=>hc ⟨ha, .inr h⟩
   have l:(od !=0)=true:=by simpa using h0
   have h3:(od !=1)=true:=by simpa using h1
   clear hc;go_enter func24,ntmps24
   go_wp2_with fail
   refine aR HA ?_;rintro e w2 ⟨rfl,hb⟩;have HB:=aP hb;clear hb HA;go_wp2_with fail
   go_ret2
   exact⟨rfl,HB.o⟩
end
end
section
open Go.RowKit Go.Lib Go.Shelf dL Fr Up Nt
def QI:List Bool:=List.replicate 8 false
theorem VP(w:aA)(c:Int)(hc:1<=c/\c<=64):aG prog 69 #[.agg #[.int .i64 6, .int .i64 2, .int .i64 4],c] w λe w'=>∃m g p0,e= .returned (.tuple #[.pointer (some ⟨m,0,none⟩),aU])/\gH (λb=>b<w.heap.size) w' m g c (oP p0)/\aD w w w':=by
 have f:=aX w (aI #[.int .i64 6, .int .i64 2, .int .i64 4] 60);have t:=bE.new w 60 #[.int .i64 6, .int .i64 2, .int .i64 4];have n:aH (Ob [] (λb=>b<w.heap.size) (w.alloc (aI #[.int .i64 6, .int .i64 2, .int .i64 4] 60))):=Ob.none (λb hb=>abO hb f.size) (λb hb=>abO hb f.size);have k:=aP f;have z0:=t.cell 0 (.int .i64 6) rfl;have A:=t.cell 1 (.int .i64 2) rfl;have z2:=t.cell 2 (.int .i64 4) rfl;obtain⟨c1,c2⟩:=hc;clear f t;go_enter func69,ntmps69
 go_upto_region 3 with(fail)
 generalize w.alloc (aI #[.int .i64 6, .int .i64 2, .int .i64 4] 60)=z at *;generalize hq:w.heap.size=q at *;have v:=aP (Jt z);go_wp2_with fail
 refine aR v ?_;rintro e j ⟨g,p0,rfl,⟨a,hk⟩,hb2⟩;have r:aH (Ob [Bn g a (oP p0)] (λb=>b<q) j):=n.o.add (p:=Bn g a (oP p0)) hk hb2;have l:aH (aD q w j):=k.o.trans (hb2.mono (by have:=k.o.size;omega));have d:=aX j (aI (CE g c QI).toArray 142);have u:aH (Ob (Sa j g c QI a (oP p0)) (λb=>b<q) (j.alloc (aI (CE g c QI).toArray 142))):=by
  have h:=r.o.add (p:=PB j.heap.size 142 (CE g c QI).toArray) (PB.mk (bE.new j _ _) (λb hb=>abO hb d.size) (adH _)) d;refine h.reorder (λi=>1 - i) (λi=>1 - i) ?_;intro i p hp;match i,hp with
  |0,hp=>exact⟨hp,rfl⟩
  |1,hp=>exact⟨hp,rfl⟩
  |i+2,hp=>simp[Sa] at hp
 have s:aH (aD q w (j.alloc (aI (CE g c QI).toArray 142))):=l.o.trans (d.mono (by have:=l.o.size;omega));have x:(CE g c QI).toArray=(#[.pointer (some ⟨g,0,none⟩),c,false,false,false,false,false,false,false,false]:Array aC):=rfl;rw[x] at s d;clear hk hb2 n r v k l d;go_wp2_with fail
 go_ret2
 have y:=u.o;rw[x] at y;rw[hq];exact⟨_,g,p0,rfl,⟨QI,a,y,rfl⟩,s.o⟩
end
section
open Go.RowKit Go.Lib Go.Shelf
variable{i j g:Nat}{v:aC}{F G:Nat->Prop}{w:aA}{x:Lb}{y:La}
section
structure Rm where
 l:Option Lb
 g:Nat
 sv:aC
 od:Int
 sn:Int
 cA:Option aJ
 cc:Nat
 C:List Int
 R:List Int
 pc:Int
 ru:Bool
def Kh:List Int:=List.replicate 8 0
def Q9:Rm:=⟨none,0, .slice none 0 0,0,0,none,0, [],Kh,0,false⟩
def xH(l:Option Lb)(g:Nat):aC:= .pointer (l.map λ_=>⟨g,0,none⟩)
def gE(r:Rm):List aC:= [xH r.l r.g,r.sv, .int .i64 r.od, .int .i64 r.sn, .slice r.cA r.C.length r.cc]++(r.R.map (Value.int .u64)++ [.int .i64 r.pc, .bool r.ru])
def NR(m:Nat)(c:Int)(rs:List Rm):List aC:= [pA m, .int .i64 c]++rs.flatMap gE
structure pX(r:Rm):Prop where
 rg:Pa.Cp.FN r.R
 cl:r.C.length<=256
 cr:∀v∈r.C,0<=v/\v<18446744073709551616
def T7(r:Rm)(F:Nat->Prop)(w:aA):Prop:=Ol F w/\∀x,r.l=some x->∃y,bU F w r.g x y
def TS(r:Rm)(F:Nat->Prop)(w:aA):Prop:=Ol F w/\Sl eU 1 w r.cA r.C/\∀q,aY r.cA=some q->(∃cs,bE w q 75 cs)/\¬F q
theorem T7.cH(r:Rm):dV (T7 r):=λF G H w w' h k b fl hH=>⟨fl,λx d=>by
 obtain⟨y,a⟩:=h.2 x d;exact⟨y,a.ts,Ob.cH _ F G H w w' a.o k b fl hH⟩⟩
theorem TS.cH(r:Rm):dV (TS r):=λF G H w w' h k b fl hH=>⟨fl,h.2.1.kp k λq hq=>by
 obtain⟨⟨cs,hb⟩,a⟩:=h.2.2 q hq;exact b q hb.lt a,λq hq=>by
 obtain⟨⟨cs,hb⟩,a⟩:=h.2.2 q hq;exact⟨⟨cs,k.aY hb (b q hb.lt a)⟩,hH q hb.lt a⟩⟩
def uT(r:Rm):Pt:=⟨T7 r,T7.cH r⟩
def tW(r:Rm):Pt:=⟨TS r,TS.cH r⟩
def N2(m g:Nat)(c:Int)(k:Kv):Pt:=⟨λF w=>gH F w m g c k,gH.cH m g c k⟩
def iD(m:Nat)(c:Int)(rs:List Rm):Array aC:=(NR m c rs).toArray
def xK(hb m g:Nat)(c:Int)(k:Kv)(rs:List Rm):List Pt:= [PB hb 139 (iD m c rs),N2 m g c k]++(rs.map uT++rs.map tW)
structure bY(F:Nat->Prop)(w:aA)(hb m g:Nat)(c:Int)(k:Kv)(rs:List Rm):Prop where
 o:Ob (xK hb m g c k rs) F w
 l8:rs.length=8
 ok:∀r∈rs,pX r
theorem bY.cH(hb m g:Nat)(c:Int)(k:Kv)(rs:List Rm):dV (λF w=>bY F w hb m g c k rs):=λF G H w w' h x a fl hH=>⟨Ob.cH _ F G H w w' h.o x a fl hH,h.l8,h.ok⟩
theorem pS{r:Rm}(h:pX r):(gE r).length=15:=by
 have:=h.rg.1;simp[gE,this]
variable{rs:List Rm}
theorem W8(m:Nat)(c:Int)(h:∀r∈rs,pX r)(hi:i<rs.length)(b:j<15):(iD m c rs)[2+i *15+j]?=(gE rs[i])[j]?:=by
 have d:∃v,(gE rs[i])[j]?=some v:=⟨_,abL (by rw[pS (h _ (abV hi))];exact b)⟩
 obtain⟨v,a⟩:=d;rw[a];unfold iD NR;rw[ab5,abZ bX];have e:2+i *15+j - [pA m,Value.int .i64 c].length=i *15+j:=bX;rw[e];clear e;induction rs generalizing i with
 |nil=>simp at hi
 |cons r rs f=>
  have hl:=pS (h r aT);rw[acI];cases i with
  |zero=>
   simp only[ac6] at a;rw[acA aQ,aeZ,acP,a]
  |succ i=>
   rw[abZ aQ,hl,show(i+1) *15+j - 15=i *15+j by omega];exact f (λr l=>h r (by simp[l])) (by simpa using hi) (by simpa using a)
variable{r':Rm}
theorem Cu(m:Nat)(c:Int)(h:∀r∈rs,pX r)(hi:i<rs.length)(d:j<15)(a:gE r'=(gE rs[i]).set j v):(iD m c rs).setIfInBounds (2+i *15+j) v=iD m c (rs.set i r'):=by
 unfold iD NR;rw[abN,ab7 _ _ bX];have e:2+i *15+j - [pA m,Value.int .i64 c].length=i *15+j:=bX;rw[e];clear e;congr 2
 induction rs generalizing i with
 |nil=>simp at hi
 |cons r rs b=>
  have hl:=pS (h r aT);rw[acI];cases i with
  |zero=>
   simp only[ac6] at a;rw[adT _ _ aQ,aeZ,acP,abU,acI,a]
  |succ i=>
   rw[ab7 _ _ aQ,hl,show(i+1) *15+j - 15=i *15+j by omega,abS,acI];congr 1
   exact b (λr a=>h r (by simp[a])) (by simpa using hi) (by simpa using a)
theorem bU.sub(h:bU F w g x y)(a:∀b,G b->F b):bU G w g x y:=⟨h.ts,Ob.cH _ F (λ_=>True) G w w h.o (Kp.refl _ _) (λ_ _ _=>trivial) (λb hb=>h.fl b (a b hb)) (λr _ d hf=>d (a r hf))⟩
section
variable{F:Nat->Prop}{w w':aA}{hb m g:Nat}{c:Int}{k:Kv}{rs:List Rm}
theorem bY.fl(h:bY F w hb m g c k rs):Ol F w:=h.o.fl
theorem bY.below(h:bY F w hb m g c k rs)(b:aD w w w'):bY F w' hb m g c k rs/\Kp F w w':=⟨⟨h.o.below b,h.l8,h.ok⟩,h.o.NV b⟩
theorem bY.less(h:bY F w hb m g c k rs)(a:∀b,G b->F b):bY G w hb m g c k rs:=⟨Ob.cH _ F (λ_=>True) G w w h.o (Kp.refl _ _) (λ_ _ _=>trivial) (λb hb=>h.fl b (a b hb)) (λr _ d hf=>d (a r hf)),h.l8,h.ok⟩
theorem bY.bk(h:bY F w hb m g c k rs):bE w hb 139 (iD m c rs):=Ob.Te h.o rfl
theorem bY.fz(h:bY F w hb m g c k rs)(i:Nat):w.frozen? (hb,i)=false:=h.bk.frozen i
theorem bY.c0(h:bY F w hb m g c k rs):w.cell? (hb,0)=some (pA m):=h.bk.cell 0 _ rfl
theorem bY.c1(h:bY F w hb m g c k rs):w.cell? (hb,1)=some (.int .i64 c):=h.bk.cell 1 _ rfl
theorem bY.rc(h:bY F w hb m g c k rs)(hi:i<rs.length)(a:j<15)(b:(gE rs[i])[j]?=some v):w.cell? (hb,2+i *15+j)=some v:=h.bk.cell _ _ (by rw[W8 m c h.ok hi a];exact b)
theorem bY.st(h:bY F w hb m g c k rs):∃G,gH G w m g c k/\(∀(k':Kv) (w':aA),gH G w' m g c k'->Kp G w w'->bY F w' hb m g c k' rs/\Kp F w w'):=by
 obtain⟨G,d,back⟩:=h.o.use 1 _ rfl;exact⟨G,d,λk' w' a b=>⟨⟨(back (N2 m g c k') w' a b).1,h.l8,h.ok⟩,(back (N2 m g c k') w' a b).2⟩⟩
theorem LK(hb m g:Nat)(c:Int)(k:Kv)(hi:i<rs.length):(xK hb m g c k rs)[2+i]?=some (uT rs[i]):=by
 unfold xK;rw[abZ aT,acA bX];simp[hi]
theorem KK(hb m g:Nat)(c:Int)(k:Kv)(hi:i<rs.length):(xK hb m g c k rs)[2+rs.length+i]?=some (tW rs[i]):=by
 unfold xK;rw[abZ bX,abZ bX];simp[hi,show 2+rs.length+i - 2 - rs.length=i by omega]
theorem bY.cdX(h:bY F w hb m g c k rs)(hi:i<rs.length):Sl eU 1 w rs[i].cA rs[i].C/\∀q,aY rs[i].cA=some q->∃cs,bE w q 75 cs:=by
 obtain⟨d,h1⟩:=h.o;obtain⟨e,a,b⟩:=(h1.get (2+rs.length+i) (KK hb m g c k hi):TS rs[i] _ w)
 exact⟨a,λq hq=>(b q hq).1⟩
theorem bY.lb(h:bY F w hb m g c k rs)(hi:i<rs.length)(hl:rs[i].l=some x):∃G y,bU G w rs[i].g x y/\(∀(a:Lb) (w':aA),(∃d,bU G w' rs[i].g a d)->Kp G w w'->bY F w' hb m g c k (rs.set i {rs[i] with l:=some a})/\Kp F w w'):=by
 obtain⟨G,t,back⟩:=h.o.use (2+i) (uT rs[i]) (LK hb m g c k hi);obtain⟨y,u⟩:=t.2 x hl;refine⟨G,y,u,λa w' ⟨d,b⟩ kk=>?_⟩;have e:xK hb m g c k (rs.set i {rs[i] with l:=some a})=(xK hb m g c k rs).set (2+i) (uT {rs[i] with l:=some a}):=by
  have A:iD m c (rs.set i {rs[i] with l:=some a})=iD m c rs:=by
   rw[<-Cu m c h.ok hi (j:=0) aQ (v:=xH rs[i].l rs[i].g) (by rw[hl];rfl)];refine Array.ext aT λn h1 s=>?_
   rw[Array.getElem_setIfInBounds];split
   .rename_i f;subst f;have:=W8 m c h.ok hi (j:=0) aQ;rw[ac7 s] at this;simp only[gE,List.cons_append,List.getElem?_cons_zero,Option.some.injEq] at this;exact this.symm
   .rfl
  unfold xK;rw[A,ab7 _ _ aT,adP,adP];simp only[acN,ac2,acP,afP];rw[adT _ _ (by simpa using hi)];congr 3
  have:tW {rs[i] with l:=some a}=tW rs[i]:=rfl;rw[this];refine ac9 aT λn h1 s=>?_
  rw[acK];split
  .rename_i f;subst f;simp
  .rfl
 obtain⟨b1,b2⟩:=back (uT {rs[i] with l:=some a}) w' ⟨(show bU G w' _ _ _ from b).fl,λz p=>by injection p with p;exact⟨d,p ▸ b⟩⟩ kk;refine⟨⟨by rw[e];exact b1,by simp[h.l8],λr q=>?_⟩,b2⟩;rcases acT q with q|rfl
 .exact h.ok r q
 .have:=h.ok _ (abV hi);exact⟨this.rg,this.cl,this.cr⟩
theorem bY.put(h:bY F w hb m g c k rs){i:Nat}(hi:i<rs.length){j:Nat}(l:j<15)(v:aC)(a:Rm)(b:gE a=(gE rs[i]).set j v)(ok:pX a)(h1:uT a=uT rs[i])(d:tW a=tW rs[i]):bY F (w.setCell (hb,2+i *15+j) v) hb m g c k (rs.set i a)/\Kp F w (w.setCell (hb,2+i *15+j) v):=by
 obtain⟨G,p,back⟩:=h.o.use 0 _ rfl;obtain⟨s1,s2⟩:=mR.set (cs':=iD m c (rs.set i a)) p (2+i *15+j) v (Cu m c h.ok hi l b).symm;obtain⟨b1,b2⟩:=back (PB hb 139 (iD m c (rs.set i a))) _ s1 s2;have e:xK hb m g c k (rs.set i a)=(xK hb m g c k rs).set 0 (PB hb 139 (iD m c (rs.set i a))):=by
  unfold xK;rw[adP,adP,h1,d];simp only[List.cons_append,abU,aeA];congr 3
  .refine ac9 aT λn h1 d=>?_
   rw[acK];split
   .rename_i f;subst f;simp
   .rfl
  .refine ac9 aT λn h1 d=>?_
   rw[acK];split
   .rename_i f;subst f;simp
   .rfl
 refine⟨⟨by rw[e];exact b1,by simp[h.l8],λr b=>?_⟩,b2⟩;rcases acT b with b|rfl
 .exact h.ok r b
 .exact ok
end
end
end
section
open Go.RowKit Go.Lib Go.Shelf dL Fr Up Nt
variable{w:aA}{hb m g n:Nat}{e:Int}
section
theorem AP(h:w.cell? (hb,0)=some (.pointer m)):aG prog 10 #[.pointer hb] w λr w'=>r= .returned (.pointer m)/\w=w':=by
 go_enter func10,ntmps10
 go_wp2_with fail
 go_ret
 exact⟨rfl,rfl⟩
theorem lR(h:w.cell? (m,0)=some (.pointer g)):aG prog 11 #[.pointer m] w λr w'=>r= .returned (.pointer g)/\w=w':=by
 go_enter func11,ntmps11
 go_wp2_with fail
 go_ret
 exact⟨rfl,rfl⟩
def V7(hb:Nat)(e:Int):Option aJ:=if 0<=e/\e<4 then some ⟨hb,2+e.toNat *15,none⟩ else none
theorem oT(hb:Nat)(h:n<4):V7 hb n=some ⟨hb,2+n *15,none⟩:=abP aQ
theorem lO(hb:Nat)(h:¬(0<=e/\e<4)):V7 hb e=none:=abQ h
section
variable{F:Nat->Prop}{w w':aA}{hb m g:Nat}{c:Int}{k:Kv}{rs:List Rm}
theorem bY.kn(h:bY F w hb m g c k rs):∃G a,bT G w g a k/\w.cell? (m,0)=some (.pointer g)/\(∀(k':Kv) (w':aA),KM G w' g k'->Kp G w w'->bY F w' hb m g c k' rs/\Kp F w w'):=by
 obtain⟨f,⟨b,a,hs⟩,b1⟩:=h.st;obtain⟨d,hk,b2⟩:=hs.kn;refine⟨d,a,hk,hs.c0,λk' w' ⟨a',e⟩ kk=>?_⟩;obtain⟨s1,s2⟩:=b2 a' k' w' e kk;exact b1 k' w' ⟨b,a',s1⟩ s2
theorem bY.sd(h:bY F w hb m g c k rs):∃G gs,lP G w gs k.s/\w.cell? (m,0)=some (.pointer g)/\w.cell? (g,6)=some (.pointer (some ⟨gs,0,none⟩))/\(∀(s':Sd) (w':aA),lP G w' gs s'->Kp G w w'->(bY F w' hb m g c {k with s:=s'} rs/\Kp F w w')/\w'.cell? (m,0)=some (.pointer g)/\w'.cell? (g,6)=some (.pointer (some ⟨gs,0,none⟩))):=by
 obtain⟨j,⟨d,a,b⟩,b1⟩:=h.st;obtain⟨l,hk,b2⟩:=b.kn;obtain⟨e,hs,b3⟩:=hk.sd;refine⟨e,a.gs,hs,b.c0,hk.ps,λs' w' f i=>?_⟩;obtain⟨s1,s2⟩:=b3 s' w' f i;obtain⟨t1,t2⟩:=b2 a _ w' s1 s2;exact⟨b1 _ w' ⟨d,a,t1⟩ t2,t1.c0,s1.ps⟩
theorem oR(h:bY F w hb m g c k rs)(e:Int):aG prog 55 #[.pointer hb,e] w λr w'=>r= .returned (.pointer (V7 hb e))/\aD w w w':=by
 obtain⟨G,a,hk,d0,_⟩:=h.kn;have c0:=h.c0;unfold pA at c0;have i:=aP (NG hk);have j:=Below.refl w w;clear h hk;by_cases h1:e<0
 .rw[lO hb aQ];clear c0 d0 i;go_enter func55,ntmps55
  go_wp2_with fail
  go_ret
  exact⟨rfl,j⟩
 .obtain⟨n,rfl⟩:=abR (by omega:0<=e);by_cases p:n<4
  .rw[oT hb p];have q:(n:Int)<4:=aQ;have s:(n:Int)<8:=aQ;go_enter func55,ntmps55
   go_wp2_with(first|(go_at_call 10;(refine aS (AP c0) ?_);rintro x d ⟨rfl,rfl⟩)|(go_at_call 11;(refine aS (lR d0) ?_);rintro x d ⟨rfl,rfl⟩))
   refine aR i ?_;rintro x d ⟨rfl,b⟩;have l:=C0 d;have f:=aP b;clear c0 d0 i b;go_wp2_with fail
   go_ret
   exact⟨rfl,f.o⟩
  .rw[lO hb aQ];have q:(4:Int)<=(n:Int):=aQ;go_enter func55,ntmps55
   go_wp2_with(first|(go_at_call 10;(refine aS (AP c0) ?_);rintro x d ⟨rfl,rfl⟩)|(go_at_call 11;(refine aS (lR d0) ?_);rintro x d ⟨rfl,rfl⟩))
   refine aR i ?_;rintro x d ⟨rfl,b⟩;have l:=C0 d;have f:=aP b;clear c0 d0 i b;go_wp2_with fail
   go_ret
   exact⟨rfl,f.o⟩
end
end
variable{rs:List Rm}{i j:Nat}{v:aC}
section
def bJ(rs:List Rm)(i:Nat):Rm:=rs.getD i Q9
theorem lS(h:i<rs.length):rs[i]=bJ rs i:=by unfold bJ;simp[h]
def yY(F:Nat->Prop)(hb m g:Nat)(c:Int)(k:Kv)(rs:List Rm)(v:aC)(w:aA)(e:Ending)(w':aA):Prop:=e= .returned v/\bY F w' hb m g c k rs/\Kp F w w'
def QU(rs:List Rm)(e:Int):Option aJ:=if 0<=e/\e<4 then(bJ rs e.toNat).l.map (λ_=>⟨(bJ rs e.toNat).g,0,none⟩) else none
section
variable{F:Nat->Prop}{w w':aA}{hb m g:Nat}{c:Int}{k:Kv}{rs:List Rm}
theorem bY.RV(h:bY F w hb m g c k rs)(a:n<8)(b:j<15)(d:(gE (bJ rs n))[j]?=some v):w.cell? (hb,2+n *15+j)=some v:=
 h.rc (by rw[h.l8];exact a) b (by rw[lS];exact d)
theorem bY.OY(h:bY F w hb m g c k rs)(a:n<8):w.cell? (hb,2+n *15)=some (xH (bJ rs n).l (bJ rs n).g):=h.RV (j:=0) a aQ rfl
theorem bY.Km(h:bY F w hb m g c k rs)(a:n<8):w.cell? (hb,2+n *15+4)=some (.slice (bJ rs n).cA (bJ rs n).C.length (bJ rs n).cc):=h.RV (j:=4) a aQ rfl
theorem bY.B7(h:bY F w hb m g c k rs)(a:n<8):pX (bJ rs n):=by
 rw[<-lS (by rw[h.l8];exact a)];exact h.ok _ (abV _)
theorem bY.V5(h:bY F w hb m g c k rs)(a:n<8):w.cell? (hb,2+n *15+14)=some (.bool (bJ rs n).ru):=h.RV (j:=14) a aQ (by
 have:=(h.B7 a).rg.1;unfold gE;rw[abZ aT,abZ bX];simp[this])
theorem Yl(h:bY F w hb m g c k rs)(e:Int):aG prog 26 #[.pointer hb,e] w λr w'=>r= .returned (.pointer (QU rs e))/\aD w w w':=by
 have b:=aP (oR h e);by_cases hc:0<=e/\e<4
 .obtain⟨n,rfl⟩:=abR hc.1;have i:n<4:=aQ;have c0:=h.OY (n:=n) aQ;have d:aH (QU rs n=(bJ rs n).l.map (λ_=>⟨(bJ rs n).g,0,none⟩)):=by unfold aH QU;rw[abP hc];rfl
  unfold xH at c0;rw[<-d.o] at c0;rw[oT hb i] at b;generalize QU rs n=P at *;clear h hc d;go_enter func26,ntmps26
  go_wp2_with fail
  refine aR b ?_;rintro x j ⟨rfl,a⟩;have d0:=bK a c0;have f:=aP a;clear c0 a b;go_wp2_with fail
  go_ret
  exact⟨rfl,f.o⟩
 .rw[lO hb hc] at b;have d:aH (QU rs e=none):=abQ hc;rw[d.o];clear h hc;go_enter func26,ntmps26
  go_wp2_with fail
  refine aR b ?_;rintro x j ⟨rfl,a⟩;have f:=aP a;clear a b;go_wp2_with fail
  go_ret
  exact⟨rfl,f.o⟩
theorem AU(h:bY F w hb m g c k rs)(b:k.s.P.length<=8)(e:Int):aG prog 71 #[.pointer hb,e] w (yY F hb m g c {k with s:=jZ k.s e true} rs (.int .i64 (B9 k.s e)) w):=by
 obtain⟨G,gs,hs,d0,d6,back⟩:=h.sd;have c0:=h.c0;unfold pA at c0;have d:=aP (xD hs b e true);have f:=aP back;clear h hs b back;go_enter func71,ntmps71
 go_wp2_with(go_at_call 11;(refine aS (lR d0) ?_);rintro x j ⟨rfl,rfl⟩)
 refine aR d ?_;rintro x j ⟨rfl,a,i⟩;have l:=aP (f.o _ _ a i).1;clear c0 d0 d6 a i d f;go_wp2_with fail
 go_ret
 exact⟨rfl,l.o⟩
def PW(k:Kv)(e:Int):Kv:=if 0<=e/\e<4 then {k with s:=sD k.s e} else k
def MI(k:Kv)(e:Int):Int:=if 0<=e/\e<4 then zN k.s e else 1
theorem Fy(h:bY F w hb m g c k rs)(j:gQ k.s)(e:Int):aG prog 35 #[.pointer hb,e] w (yY F hb m g c (PW k e) rs (.int .i64 (MI k e)) w):=by
 have b:=aP (oR h e);have i:=aP h;have t:=aP j;by_cases hc:0<=e/\e<4
 .obtain⟨n,rfl⟩:=abR hc.1;have u:n<4:=aQ;unfold PW MI;rw[abP hc,abP hc];rw[oT hb u] at b;clear h j hc;go_enter func35,ntmps35
  go_wp2_with fail
  refine aR b ?_;rintro x v ⟨rfl,a⟩;have d:=aP (i.o.below a);clear a b i;obtain⟨G,gs,hs,d0,d6,back⟩:=d.o.1.sd;have c0:=d.o.1.c0;unfold pA at c0;have l:=aP (ID hs t.o n);have p:=aP back;clear hs back;go_wp2_with(go_at_call 11;(refine aS (lR d0) ?_);rintro x y ⟨rfl,rfl⟩)
  refine aR l ?_;rintro x y ⟨rfl,f,q⟩;have r:=aP (p.o _ _ f q).1;clear c0 d0 d6 f q l p;go_wp2_with fail
  go_ret
  exact⟨rfl,r.o.1,d.o.2.trans r.o.2⟩
 .rw[lO hb hc] at b;unfold PW MI;rw[abQ hc,abQ hc];clear h j hc;go_enter func35,ntmps35
  go_wp2_with fail
  refine aR b ?_;rintro x v ⟨rfl,a⟩;have d:=aP (i.o.below a);clear a b i;go_wp2_with fail
  go_ret
  exact⟨rfl,d.o⟩
def L9(k:Kv)(e bu pe:Int):Kv:=if 0<=e/\e<4 then {k with s:=qK k.s e bu pe} else k
def JA(k:Kv)(e bu pe:Int):Int:=if 0<=e/\e<4 then zH k.s e bu pe else 1
theorem SH(h:bY F w hb m g c k rs)(v:gQ k.s)(e bu pe:Int):aG prog 32 #[.pointer hb,e, .agg #[bu,pe]] w (yY F hb m g c (L9 k e bu pe) rs (.int .i64 (JA k e bu pe)) w):=by
 have j:=aX w (aI #[bu,pe] 112);have bk:=bE.new w 112 #[bu,pe];have p:bY (Fb F w) (w.alloc (aI #[bu,pe] 112)) hb m g c k rs:=(bY.cH hb m g c k rs).box h h.fl _;have H1:=aP (And.intro p (h.below j).2);have C:=aP v;have i:=aP (oR p e);have y:=bk.cell 0 _ rfl;have z:=bk.cell 1 _ rfl;clear h p v j bk;by_cases hc:0<=e/\e<4
 .obtain⟨n,rfl⟩:=abR hc.1;have D:n<4:=aQ;unfold L9 JA;rw[abP hc,abP hc];rw[oT hb D] at i;clear hc;go_enter func32,ntmps32
  go_upto_region 1 with(fail)
  generalize w.alloc (aI #[bu,pe] 112)=w1 at *;generalize w.heap.size=q1 at *;go_wp2_with fail
  refine aR i ?_;rintro x q ⟨rfl,a⟩;have r:=aP (And.intro (H1.o.1.below (a.drew)).1 (H1.o.2.trans ((H1.o.1.below a.drew).2.unbox)));have A:=bK a y;have B:=bK a z;clear a i H1 y z;obtain⟨G,gs,hs,d0,d6,back⟩:=r.o.1.sd;have c0:=r.o.1.c0;unfold pA at c0;have E:=aP (IL hs C.o n bu pe);have t:=aP (λs' w' h k=>back s' w' h k);clear hs back;go_upto_region 3 with(fail)
  go_region_held3 (λW=>W.cell? (hb,0)=some (.pointer m)/\W.cell? (m,0)=some (.pointer g)/\W.cell? (g,6)=some (.pointer gs)/\W.cell? (q1,0)=some (.int .i64 bu)/\W.cell? (q1,1)=some (.int .i64 pe)) (first|exact⟨c0,d0,d6,A,B⟩|exact⟨‹_›,‹_›,‹_›,‹_›,‹_›⟩) ((first|(go_at_call 11;(refine aS (lR (by first|exact d0|assumption)) ?_);rintro x u ⟨rfl,rfl⟩)|(go_at_call 67;(refine aR E ?_);rintro x u ⟨rfl,d,l⟩;have f:=aP (t.o _ _ d l).1;have f0:=(t.o _ _ d l).2.1;have f6:=(t.o _ _ d l).2.2;have H:=f.o.1.c0;unfold pA at H;have z0:=f.o.2.cell A (.inr rfl);have J:=f.o.2.cell B (.inr rfl);have I:aH (bY F u hb m g c {k with s:=qK k.s n bu pe} rs/\Kp F w u):=⟨f.o.1.less λb hb=> .inl hb,r.o.2.trans f.o.2.unbox⟩;clear d l f)))
  go_wp2_with fail
  go_ret
  exact⟨rfl,I.o⟩
 .rw[lO hb hc] at i;unfold L9 JA;rw[abQ hc,abQ hc];clear hc;go_enter func32,ntmps32
  go_upto_region 1 with(fail)
  generalize w.alloc (aI #[bu,pe] 112)=w1 at *;generalize w.heap.size=q1 at *;go_wp2_with fail
  refine aR i ?_;rintro x q ⟨rfl,a⟩;have f:aH (bY F q hb m g c k rs/\Kp F w q):=⟨(H1.o.1.below a).1.less λb hb=> .inl hb,H1.o.2.trans (H1.o.1.below a).2.unbox⟩
  clear a i H1;go_wp2_with fail
  go_ret
  exact⟨rfl,f.o⟩
end
end
end
end Go.Proofs.YtacgiflhgdaeaaaGreat
