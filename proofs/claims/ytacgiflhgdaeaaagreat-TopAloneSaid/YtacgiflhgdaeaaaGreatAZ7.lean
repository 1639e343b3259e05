/- Texts laid as one. -/
import Derived.Test.YtacgiflhgdaeaaaGreatAZ6
set_option linter.unusedVariables false
set_option linter.unusedSimpArgs false
set_option maxRecDepth 100000
set_option maxHeartbeats 20000000
namespace Go.Proofs.YtacgiflhgdaeaaaGreat
open Go.Proofs.Tryz
open Go renaming World->aA,Value->aC,Addr->aJ,Calls->aG
open Go.RowKit renaming Below->aD,Hid->aH,intOf->aL
open Go.Obj renaming cells->aI
variable{bu pe E N:Int}
section
section
structure Bk where
 sh:Int
 un:Int
structure Bs where
 bn:Int
 us:Int
 f:Int->Option Int
 L:List Bk
def jE(bu pe:Int):Int:=(4294967296 *bu+pe - 1) /pe
def DZ(f:Int->Option Int):Int:=(f 0).getD 0+(f 1).getD 0+(f 2).getD 0+(f 3).getD 0+(f 4).getD 0+(f 5).getD 0+(f 6).getD 0+(f 7).getD 0
def iC(l:List Bk):Int:=(l.map Bk.sh).sum
structure tC(b:Bs):Prop where
 nn:∀x v,b.f x=some v->0<=v/\0<=x/\x<8
 pn:∀p∈b.L,0<=p.sh
 all:b.us=DZ b.f+iC b.L
 top:b.us<=4294967296
def nI(b:Bs)(who bu pe:Int):Int:=if nK bu pe then(if(b.f who).isSome then 7 else if 4294967296<b.us+jE bu pe then 24 else 0) else 1
def rZ(b:Bs)(who bu pe:Int):Bs:=if nI b who bu pe=0 then {b with f:=gC b.f who (some (jE bu pe)),us:=b.us+jE bu pe} else b
def CH(b:Bs)(who:Int):Int:=if(b.f who).isSome then 0 else 6
def tE(b:Bs)(who until_:Int):Bs:=match b.f who with
 |none=>b
 |some v=>if b.bn<until_ then {b with f:=gC b.f who none,L:=b.L++ [⟨v,until_⟩]} else {b with f:=gC b.f who none,us:=b.us - v}
def mE(now:Int)(l:List Bk):List Bk:=l.filter λp=>decide (p.un<=now)
def uW(now:Int)(l:List Bk):List Bk:=l.filter λp=>!decide (p.un<=now)
def l7(b:Bs)(now:Int):Bs:=if now<b.bn then b else {b with bn:=now,us:=b.us - iC (mE now b.L),L:=uW now b.L}
theorem D7(p:Bk)(l:List Bk):iC (p::l)=p.sh+iC l:=by simp[iC]
theorem OJ(p:Bk)(l:List Bk):iC (l++ [p])=iC l+p.sh:=by simp[iC]
theorem x9{l:List Bk}(h:∀p∈l,0<=p.sh):0<=iC l:=by
 induction l with
 |nil=>simp[iC]
 |cons p l a=>
  have:=h p aT;have:=a λq hq=>h q (by simp[hq])
  rw[D7];omega
theorem CU(now:Int):∀l:List Bk,iC l=iC (mE now l)+iC (uW now l)
 | []=>rfl
 |p::l=>by
  have:=CU now l;unfold mE uW at *;by_cases h:p.un<=now
  .simp only[List.filter_cons,h,decide_true,abI,Bool.not_true,aaZ,aaY,D7];omega
  .simp only[List.filter_cons,h,decide_false,abI,Bool.not_false,aaZ,aaY,D7];omega
theorem U9(now:Int)(l:List Bk)(p:Bk):mE now (l++ [p])=mE now l++(if p.un<=now then [p] else []):=by
 unfold mE;by_cases h:p.un<=now <;> simp[acP,h]
theorem WW(now:Int)(l:List Bk)(p:Bk):uW now (l++ [p])=uW now l++(if p.un<=now then [] else [p]):=by
 unfold uW;by_cases h:p.un<=now <;> simp[acP,h]
theorem eight{x:Int}(h:0<=x/\x<8):x=0\/x=1\/x=2\/x=3\/x=4\/x=5\/x=6\/x=7:=aQ
theorem QV{f:Int->Option Int}{x:Int}(h:0<=x/\x<8)(v:Option Int):DZ (gC f x v)=DZ f+v.getD 0 - (f x).getD 0:=by
 rcases eight h with rfl|rfl|rfl|rfl|rfl|rfl|rfl|rfl <;> simp[DZ,gC] <;> omega
theorem Mj{f:Int->Option Int}(h:∀x v,f x=some v->0<=v/\0<=x/\x<8){x v:Int}(b:f x=some v):v<=DZ f:=by
 have a:∀y,0<=(f y).getD 0:=λy=>by
  cases c:f y with
  |none=>simp
  |some u=>simpa using (h y u c).1
 have d:=a 0;have h1:=a 1;have e:=a 2;have g:=a 3;have i:=a 4;have j:=a 5;have k:=a 6;have l:=a 7;have m:v=(f x).getD 0:=by rw[b];rfl
 unfold DZ;rcases eight (h x v b).2 with rfl|rfl|rfl|rfl|rfl|rfl|rfl|rfl <;> omega
theorem S4{f:Int->Option Int}(h:∀x v,f x=some v->0<=v/\0<=x/\x<8):0<=DZ f:=by
 have a:∀y,0<=(f y).getD 0:=λy=>by
  cases b:f y with
  |none=>simp
  |some u=>simpa using (h y u b).1
 have c:=a 0;have h1:=a 1;have d:=a 2;have e:=a 3;have g:=a 4;have i:=a 5;have j:=a 6;have k:=a 7;unfold DZ;omega
theorem zV(h:nK bu pe=true):1<=bu/\bu<=pe/\pe<=1048576:=abQ h
theorem DC(h:1<=bu/\bu<=pe/\pe<=1048576):1<=jE bu pe/\jE bu pe<=4294967296:=by
 unfold jE;refine⟨(Int.le_ediv_iff_mul_le aQ).2 aQ,?_⟩;have:(4294967296 *bu+pe - 1) /pe<4294967297:=(Int.ediv_lt_iff_lt_mul aQ).2 aQ;omega
theorem tC.Ym{b:Bs}(h:tC b):0<=b.us:=by
 have:=h.all;have:=S4 h.nn;have:=x9 h.pn;omega
theorem tC.Zc{b:Bs}(h:tC b)(hw:0<=E/\E<8):tC (rZ b E bu pe):=by
 unfold rZ;split
 .rename_i he;unfold nI at he;split at he
  .rename_i c;split at he
   .cases he
   .rename_i hs;split at he
    .cases he
    .rename_i d;have hb:=DC (zV c);have hf:b.f E=none:=by
      cases hf:b.f E with
      |none=>rfl
      |some v=>rw[hf] at hs;simp at hs
     refine⟨λx v a=>?_,h.pn,?_,by simp only;omega⟩
     .simp only[gC] at a;split at a
      .rename_i e;injection a with a;subst a;exact⟨aQ,aQ,aQ⟩
      .exact h.nn x v a
     .have:=h.all;simp only[QV hw,hf,aeH,Option.getD_none];omega
  .cases he
 .exact h
theorem tC.rel{b:Bs}(h:tC b):tC (tE b E N):=by
 unfold tE;split
 .exact h
 .rename_i v e;have h1:=h.nn E v e;have hs:=QV h1.2 (none:Option Int) (f:=b.f);rw[e] at hs;simp only[Option.getD_none,aeH] at hs;have g:=h.all;have a:=h.top;have c:∀x u,gC b.f E none x=some u->0<=u/\0<=x/\x<8:=λx u d=>by
   simp only[gC] at d;split at d
   .cases d
   .exact h.nn x u d
  split
  .refine⟨c,λp hp=>?_,by simp only[OJ,hs];omega,a⟩;rcases aaO.1 hp with hp|hp
   .exact h.pn p hp
   .rw[aaK.1 hp];exact h1.1
  .exact⟨c,h.pn,by simp only[hs];omega,by simp only;omega⟩
theorem tC.Yi{b:Bs}(h:tC b){now:Int}:tC (l7 b now):=by
 unfold l7;split
 .exact h
 .have hs:=CU now b.L;have a:0<=iC (mE now b.L):=x9 λp hp=>h.pn p (abZ.1 hp).1
  have:=h.all;have:=h.top;exact⟨h.nn,λp hp=>h.pn p (abZ.1 hp).1,by simp only;omega,by simp only;omega⟩
end
end
section
open Go.RowKit Go.Lib Go.Shelf
variable{w:aA}{g n d:Nat}{cs:Array aC}{M:Option Nat}{F:Nat->Prop}{B:Option aJ}{tu:Int}
section
def T4(x:Bk):List aC:= [.int .u64 x.sh, .int .i64 x.un]
theorem A7:eL T4 2:=⟨λ_=>rfl,λx u hu=>by simp[T4] at hu;rcases hu with rfl|rfl <;> rfl⟩
def KC(x:Int):aC:= .int .u64 x
def GD(E:Option aJ)(n c:Nat)(bn us:Int)(M:Option Nat)(B:Option aJ)(m d:Nat)(nw tu:Int):Array aC:=#[(E,n,c),bn, .int .u64 us, .map M,(B,m,d),nw,tu]
def Ga{α:Type}(ev:α->aC)(w:aA)(M:Option Nat)(f:Int->Option α):Prop:=(M=none->∀x,f x=none)/\∀r,M=some r->iG ev w r f
structure gE(F:Nat->Prop)(w:aA)(g:Nat)(E:Option aJ)(n c:Nat)(s:Bs)(M:Option Nat)(B:Option aJ)(d:Nat)(nw tu:Int):Prop where
 b:bF w g 186 (GD E n c s.bn s.us M B s.L.length d nw tu)
 oB:bI T4 2 w (g+1) 331 B d s.L
 mp:Ga KC w M s.f
 fl:Ol F w
 fg:¬F g
 fB:∀q,aY B=some q->¬F q
 fM:∀r,M=some r->¬F r
theorem yU{α:Type}{ev:α->aC}{f:Int->Option α}{b:Nat}{t:TypeId}(h:iG ev w b f)(hb:bF w g t cs):b≠g:=λe=>by
 subst e;obtain⟨es,c,h1,_⟩:=h;unfold bF at hb;rw[h1] at hb;cases hb
section
variable{F:Nat->Prop}{w w':aA}{g n c d:Nat}{E B:Option aJ}{nw tu:Int}{M:Option Nat}{b:Bs}
theorem gE.keep(h:gE F w g E n c b M B d nw tu)(hb:aD w w w'):gE F w' g E n c b M B d nw tu:=⟨h.b.keep hb,h.oB.keep hb,⟨h.mp.1,λr a=>(h.mp.2 r a).keep hb⟩,h.fl.kp (h.fl.below hb),h.fg,h.fB,h.fM⟩
theorem gE.cells(h:gE F w g E n c b M B d nw tu){bn' us' nw' tu':Int}(a:w.grownBy w' (some g))(hb:bF w' g 186 (GD E n c bn' us' M B b.L.length d nw' tu')):gE F w' g E n c {b with bn:=bn',us:=us'} M B d nw' tu'/\Kp F w w':=by
 have k:=h.fl.self h.fg a;exact⟨⟨hb,h.oB.kept a (sZ h.oB),⟨h.mp.1,λr e=>(h.mp.2 r e).rU a (yU (h.mp.2 r e) h.b)⟩,h.fl.kp k,h.fg,h.fB,h.fM⟩,k⟩
theorem gE.UP(h:gE F w g E n c b M B d nw tu)(v:Int):gE F (w.setCell (g,2) (.int .u64 v)) g E n c {b with us:=v} M B d nw tu/\Kp F w (w.setCell (g,2) (.int .u64 v)):=
 h.cells (bn':=b.bn) (aZ (bK w g) 2 _) (by have:=h.b.bX 2 (.int .u64 v);simpa[GD] using this)
theorem gE.Uw(h:gE F w g E n c b M B d nw tu)(v:Int):gE F (w.setCell (g,1) v) g E n c {b with bn:=v} M B d nw tu/\Kp F w (w.setCell (g,1) v):=
 h.cells (us':=b.us) (aZ (bK w g) 1 _) (by have:=h.b.bX 1 v;simpa[GD] using this)
theorem gE.Qt(h:gE F w g E n c b M B d nw tu){r:Nat}{f:Int->Option Int}(hm:iG KC w r f)(hF:¬F r):gE F (w.setCell (g,3) (.map (some r))) g E n c {b with f:=f} (some r) B d nw tu/\Kp F w (w.setCell (g,3) (.map (some r))):=by
 have a:=aZ (bK w g) 3 (.map (some r));have k:=h.fl.self h.fg a;refine⟨⟨by have:=h.b.bX 3 (.map (some r));simpa[GD] using this,h.oB.kept a (sZ h.oB),⟨λh=>(by cases h),λq hq=>?_⟩,h.fl.kp k,h.fg,h.fB,λq hq=>?_⟩,k⟩
 .injection hq with hq;subst hq;exact hm.rU a (yU hm h.b)
 .injection hq with hq;subst hq;exact hF
theorem gE.map{r:Nat}{f:Int->Option Int}(h:gE F w g E n c b (some r) B d nw tu)(hm:iG KC w' r f)(a:w.grownBy w' (some r)):gE F w' g E n c {b with f:=f} (some r) B d nw tu/\Kp F w w':=by
 have k:=h.fl.self (h.fM r rfl) a;have i:=yU (h.mp.2 r rfl) h.b;refine⟨⟨h.b.grown a (λe=>i (by injection e with e;exact e.symm)),h.oB.kept a ?_,⟨λh=>(by cases h),λq hq=>?_⟩,h.fl.kp k,h.fg,h.fB,h.fM⟩,k⟩
 .cases hb:aY B with
  |none=>exact .inl rfl
  |some q=>
   right
   intro e;obtain⟨cs,h1⟩:=qM h.oB q hb;injection e with e;exact yU (h.mp.2 r rfl) h1 e.symm
 .injection hq with hq;subst hq;exact hm
end
theorem Qm(r:Nat)(w:aA):(binOp BinOp.eql 181 (.map (some r)) (.map none)).run prog w= .ok (.bool false) w:=aV
theorem Lc(w:aA):(binOp BinOp.eql 181 (.map none) (.map none)).run prog w= .ok (.bool true) w:=aV
theorem IK:∀w,(zeroValue 75).run prog w= .ok (.int .u64 0) w:=λw=>by kernel_rfl
theorem Y3{f:Int->Option Int}(h:Ga KC w M f)(a:Int):∃v:aC,(Instr.lookup 181 (.map M) (.int .i64 a) true).run prog w= .ok (.tuple #[v, .bool (f a).isSome]) w:=by
 cases M with
 |none=>rw[h.1 rfl a];exact⟨_,SG underlying181 underlying3 (IK w) a true⟩
 |some r=>exact⟨_,wI underlying181 underlying3 (IK w) (h.2 r rfl) a true⟩
theorem QX{c:Nat}{E:Option aJ}{nw:Int}{b:Bs}(h:gE F w g E n c b M B d nw tu)(a:Int):
 aG prog 135 #[.pointer (some ⟨g,1,none⟩),a] w λe w'=>e= .returned (.bool (b.f a).isSome)/\w=w':=by
 have c3:=h.b.cell 3 (.map M) rfl;obtain⟨v,hl⟩:=Y3 h.mp a;clear h;generalize (b.f a).isSome=ok at *;go_enter func135,ntmps135
 go_wp2_with fail
 go_ret
 exact⟨rfl,rfl⟩
theorem Bm(bu pe:Int)(w:aA)(v:nK bu pe=true):aG prog 136 #[.agg #[bu,pe]] w λe w'=>e= .returned (.int .u64 (jE bu pe))/\aD w w w':=by
 have x:=zV v;have y:aH (jE bu pe=(4294967296 *bu+pe - 1) /pe):=rfl;have k:=aP (λW=>CX bu pe W);rw[v] at k;have j:=aX w (aI #[bu,pe] 112);have m:=bF.new w 112 #[bu,pe];go_enter func136,ntmps136
 go_upto_region 1 with(fail)
 generalize w.alloc (aI #[bu,pe] 112)=w1 at *;generalize hq:w.heap.size=q at m⊢;have p:=m.cell 0 bu rfl;have r:=m.cell 1 pe rfl;go_wp2_with fail
 refine aS (k.o _) ?_;rintro e z ⟨rfl,a⟩;replace p:=bG a p;replace r:=bG a r;have A:(0:Int)<=pe:=aQ;have z0:IntKind.u64.wrap bu=bu:=by rw[IntKind.wrap_u64];omega
 have C:IntKind.u64.wrap pe=pe:=by rw[IntKind.wrap_u64];omega
 go_upto_region 3 with(fail)
 (have f:=bZ.cell p;have h:=bZ.cell r;refine dB aV aV ?_;(repeat (go_big_quiet_step (fail)));refine wpQuiet_nil ?_;clear f h;intro w5 i;have t:=bZ.below i;clear i)
 have p0:¬pe=0:=aQ;have z2:IntKind.u64.wrap (4294967296 *bu)=4294967296 *bu:=by rw[IntKind.wrap_u64];omega
 have z3:IntKind.u64.wrap (4294967296 *bu+pe)=4294967296 *bu+pe:=by rw[IntKind.wrap_u64];omega
 have z4:IntKind.u64.wrap (4294967296 *bu+pe - 1)=4294967296 *bu+pe - 1:=by rw[IntKind.wrap_u64];omega
 have hb:=DC x;have z5:Int.tdiv (4294967296 *bu+pe - 1) pe=jE bu pe:=by rw[y.o];exact Int.tdiv_eq_ediv_of_nonneg aQ
 have D:IntKind.u64.wrap (jE bu pe)=jE bu pe:=by rw[IntKind.wrap_u64];omega
 generalize l:jE bu pe=s at *;have u:=aP l;clear l;go_wp2_with fail
 go_ret
 exact⟨by simp;exact u.o.symm,(j.trans (Below.mono a j.size)).trans (Below.mono t (aaC j.size a.size))⟩
theorem X8{c:Nat}{E:Option aJ}{nw:Int}{b:Bs}(h:gE F w g E n c b M B d nw tu)(hb:tC b)(a bu pe:Int):
 aG prog 96 #[.pointer (some ⟨g,1,none⟩),a, .agg #[bu,pe]] w λe w'=>e= .returned (.int .i64 (nI b a bu pe))/\(∃M,gE F w' g E n c (rZ b a bu pe) M B d nw tu)/\Kp F w w':=by
 have p:=aP (λW=>CX bu pe W);have A:=aX w (aI #[bu,pe] 112);have t:=bF.new w 112 #[bu,pe];have m1:=h.keep A;have T:=h.fl.below A;by_cases u:nK bu pe=true
 .have hR:=zV u;have hs:=DC hR;have hu:=hb.Ym;have ht:=hb.top;have J:=aP (λW=>Bm bu pe W u);rw[u] at p;have x:aH (nI b a bu pe=if(b.f a).isSome then 7 else if 4294967296<b.us+jE bu pe then 24 else 0):=by unfold aH nI;rw[Zz u]
  have C:aH (rZ b a bu pe=if nI b a bu pe=0 then {b with f:=gC b.f a (some (jE bu pe)),us:=b.us+jE bu pe} else b):=rfl;generalize rZ b a bu pe=b' at *;generalize nI b a bu pe=I at *;clear h u hb;generalize jE bu pe=s at *;go_enter func96,ntmps96
  go_upto_region 3 with(fail)
  generalize w.alloc (aI #[bu,pe] 112)=w1 at *;generalize hq:w.heap.size=q at t⊢;have U:=t.cell 0 bu rfl;have V:=t.cell 1 pe rfl;clear t;have y:=bN m1 T;clear m1 T A;go_wp2_with fail
  refine aS (p.o _) ?_;rintro e w2 ⟨rfl,j⟩;replace U:=bG j U;replace V:=bG j V;have m2:=y.o.1.keep j;have k:=bN m2 (y.o.2.trans (y.o.1.fl.below j));have z:=aP (QX m2 a);clear m2 j y;go_wp2_with fail
  refine aR z ?_;rintro e w3 ⟨rfl,rfl⟩;cases hf:b.f a with
  |some v=>
   rw[hf] at x;have he:aH (I=7):=by show I=7;have:=x.o;simpa using this
   clear x;simp only[ab4];go_wp2_with fail
   go_ret
   refine⟨by rw[he.o];rfl,?_,k.o.2⟩;rw[C.o,he.o,aaA aQ];exact⟨_,k.o.1⟩
  |none=>
   rw[hf] at x;simp only[ab5];clear hf z;go_wp2_with fail
   refine aS (J.o _) ?_;rintro e m ⟨rfl,D⟩;have m4:=k.o.1.keep D;have i:=bN m4 (k.o.2.trans (k.o.1.fl.below D));have c2:=m4.b.cell 2 (.int .u64 b.us) rfl;clear m4 D k U V p J;have z1:IntKind.u64.wrap (b.us+s)=b.us+s:=by rw[IntKind.wrap_u64];omega
   by_cases G:4294967296<b.us+s
   .have he:aH (I=24):=by have:=x.o;rw[aaA aT,Zz G] at this;exact this
    clear x;go_wp2_with fail
    go_ret
    refine⟨by rw[he.o];rfl,?_,i.o.2⟩;rw[C.o,he.o,aaA aQ];exact⟨_,i.o.1⟩
   .have he:aH (I=0):=by have:=x.o;rw[aaA aT,aaA G] at this;exact this
    clear x;have c3:=i.o.1.b.cell 3 (.map M) rfl;obtain⟨K,H⟩:∃K,K=b.us:=⟨_,rfl⟩
    rw[<-H] at c2 z1 G hu ht;have HU:=aP H;clear H;have L:=λr=>Qm r m
    rcases M with _|r;have X:= @run_makeMap prog;have Y:=Lc m;have m5:=i.o.1.keep (aX m (Obj.map #[] 0));have c5:=m5.b.cell 3 (.map none) rfl;have f5:=m5.b.frozen 3;go_upto_region 12 with(fail)
    obtain⟨m6,k6⟩:=m5.Qt (iG.new m KC) (λhF=>by have:=i.o.1.fl _ hF;omega);have N:b.f=λ_=>none:=funext (i.o.1.mp.1 rfl)
    have m7:gE F ((m.alloc (Obj.map #[] 0)).setCell (g,3) (.map (some m.heap.size))) g E n c b (some m.heap.size) B d nw tu:=by
     have:=m6;rw[<-N] at this;exact this
    have l:=aP (And.intro m7 (i.o.2.trans ((i.o.1.fl.below (aX m _)).trans k6)));clear m5 c5 f5 m6 k6 m7 N i X Y L c2 c3;generalize (m.alloc (Obj.map #[] 0)).setCell (g,3) (.map (some m.heap.size))=w6 at *;generalize m.heap.size=r at *;rotate_left
    all_goals try go_upto_region 12 with(fail)
    clear L c2 c3;have l:=i;clear i;generalize m=w6 at *
    all_goals
     obtain⟨w7,O,P,Q⟩:=J9 underlying181 underlying3 (l.o.1.mp.2 r rfl) a s;have c3:=l.o.1.b.cell 3 (.map (some r)) rfl;obtain⟨m7,k7⟩:=l.o.1.map P Q;obtain⟨m8,k8⟩:=m7.UP (K+s);have c2:=m7.b.cell 2 (.int .u64 b.us) rfl;have f2:=m7.b.frozen 2;rw[<-HU.o] at c2;have R:=bN m8 ((l.o.2.trans k7).trans k8);clear m7 k7 m8 k8 P Q l;simp only[KC] at O;go_wp2_with fail
     have Z:aH (Ending.returned (.int .i64 0)=Ending.returned (.int .i64 I)/\(∃M,gE F (w7.setCell (g,2) (.int .u64 (K+s))) g E n c b' M B d nw tu)/\Kp F w (w7.setCell (g,2) (.int .u64 (K+s)))):=by
      refine⟨by rw[he.o],?_,R.o.2⟩;rw[C.o,he.o,Zz rfl,<-HU.o];exact⟨_,R.o.1⟩
     exact bodyPost_ret (v:= .int .i64 0) (by simp[results,results96,go_sem]) rfl Z.o
 .have S:nK bu pe=false:=by simpa using u
  have he:aH (nI b a bu pe=1):=by unfold aH nI;rw[aaA u]
  have hB:aH (rZ b a bu pe=b):=by unfold aH rZ;rw[he.o,aaA aQ]
  rw[S] at p;have y:=bN m1 T;clear h hb u S m1 T;generalize rZ b a bu pe=b' at *;generalize nI b a bu pe=I at *;go_enter func96,ntmps96
  go_upto_region 3 with(fail)
  generalize w.alloc (aI #[bu,pe] 112)=w1 at *;generalize hq:w.heap.size=q at t⊢;have U:=t.cell 0 bu rfl;have V:=t.cell 1 pe rfl;clear t;go_wp2_with fail
  refine aS (p.o _) ?_;rintro e w2 ⟨rfl,j⟩;go_wp2_with fail
  go_ret
  exact⟨by rw[he.o];rfl,by rw[hB.o];exact⟨_,y.o.1.keep j⟩,y.o.2.trans (y.o.1.fl.below j)⟩
end
variable{A6:Option aJ}{m:Nat}
section
theorem Pn:jS prog 182 331 2 16:=fU (z:= .agg #[bC,aU]) underlying182 aV (by simp[Value.cells]) aQ
section
variable{F:Nat->Prop}{w w' w5:aA}{g n c d:Nat}{E B:Option aJ}{nw tu:Int}{M:Option Nat}{b:Bs}
theorem gE.Yz(h:gE F w g E n c b M B d nw tu)(a:w.grownBy w' (aY B)):Ga KC w' M b.f:=⟨h.mp.1,λr i=>by
 cases hb:aY B with
 |none=>rw[hb] at a;exact(h.mp.2 r i).same (a.block r (h.mp.2 r i).lt aT)
 |some q=>
  rw[hb] at a;refine(h.mp.2 r i).rU a (λe=>?_);obtain⟨cs,h1⟩:=qM h.oB q hb;exact yU (h.mp.2 r i) h1 e⟩
theorem gE.Xl{c6:Nat}{x:Bk}(h:gE F w g E n c b M B d nw tu)(hm:m=b.L.length)(a:bI T4 2 w5 (g+1) 331 A6 c6 (b.L++ [x]))(j:w.grownBy w5 (aY B))(k:aY A6=aY B\/aY A6=some w.heap.size):
 gE F (w5.setCell (g,4) (.slice A6 (m+1) c6)) g E n c {b with L:=b.L++ [x]} M A6 c6 nw tu/\Kp F w (w5.setCell (g,4) (.slice A6 (m+1) c6)):=by
 have l:Kp F w w5:=Kp.grown j λb hb=>⟨h.fl b hb,λe=>h.fB b e.symm hb⟩
 have o:=h.b.grown j (λe=>by have:=(h.oB.lt g e.symm).1;omega);have f:=aZ (bK w5 g) 4 (.slice A6 (m+1) c6);have p:=(h.fl.kp l).self h.fg f;have i:=h.Yz j;refine⟨⟨?_,a.kept f (sZ a),⟨i.1,λr s=>(i.2 r s).rU f (yU (i.2 r s) o)⟩,(h.fl.kp l).kp p,h.fg,λq hq hF=>?_,h.fM⟩,l.trans p⟩
 .have:=o.bX 4 (.slice A6 (m+1) c6);subst hm;simpa[GD] using this
 .rcases k with e|e
  .exact h.fB q (e ▸ hq) hF
  .rw[e] at hq;injection hq with hq;have:=h.fl q hF;omega
theorem gE.Xi{c6:Nat}{R:List Bk}(h:gE F w g E n c b M B d nw tu)(hm:m=R.length)(a:bI T4 2 w (g+1) 331 A6 c6 R)(f:∀q,aY A6=some q->¬F q):
 gE F (w.setCell (g,4) (.slice A6 m c6)) g E n c {b with L:=R} M A6 c6 nw tu/\Kp F w (w.setCell (g,4) (.slice A6 m c6)):=by
 have e:=aZ (bK w g) 4 (.slice A6 m c6);have i:=h.fl.self h.fg e;refine⟨⟨?_,a.kept e (sZ a),⟨h.mp.1,λr j=>(h.mp.2 r j).rU e (yU (h.mp.2 r j) h.b)⟩,h.fl.kp i,h.fg,f,h.fM⟩,i⟩;have:=h.b.bX 4 (.slice A6 m c6);subst hm;simpa[GD] using this
end
theorem RV{c:Nat}{E:Option aJ}{nw:Int}{b:Bs}(h:gE F w g E n c b M B d nw tu)(hb:tC b)(a i:Int)(hl:b.L.length<=2000000):
 aG prog 100 #[.pointer (some ⟨g,1,none⟩),a,i] w λe w'=>e= .returned (.int .i64 (CH b a))/\(∃M B d,gE F w' g E n c (tE b a i) M B d nw tu)/\Kp F w w':=by
 have j:=aP (QX h a);cases hf:b.f a with
 |none=>
  have C:aH (CH b a=6/\tE b a i=b):=by unfold aH CH tE;rw[hf];exact⟨rfl,rfl⟩
  rw[hf] at j;have q:=aP h;clear h hb hf;generalize tE b a i=P at *;generalize CH b a=U at *;go_enter func100,ntmps100
  go_wp2_with fail
  refine aR j ?_;rintro e V ⟨rfl,rfl⟩;go_wp2_with fail
  go_ret
  exact⟨by rw[C.o.1];rfl,by rw[C.o.2];exact⟨_,_,_,q.o⟩,Kp.refl _ _⟩
 |some s=>
  have C:aH (CH b a=0):=by unfold aH CH;rw[hf];rfl
  have t:aH (tE b a i=if b.bn<i then {b with f:=gC b.f a none,L:=b.L++ [⟨s,i⟩]} else {b with f:=gC b.f a none,us:=b.us - s}):=by unfold aH tE;rw[hf]
  rw[hf] at j;obtain⟨r,rfl⟩:∃r,M=some r:=by
   cases M with
   |none=>have:=h.mp.1 rfl a;rw[hf] at this;cases this
   |some r=>exact⟨r,rfl⟩
  have hs:=hb.nn a s hf;have R:=Mj hb.nn hf;have S:=x9 hb.pn;have D:=hb.all;have G:=hb.top;have l:=wI underlying181 underlying3 (IK w) (h.mp.2 r rfl) a false;rw[hf] at l;simp only[aa4,KC,aeH,aaZ,aaY] at l;obtain⟨u,H,I,W⟩:∃u,iG KC u r (gC b.f a none)/\w.grownBy u (some r)/\aH (∀ty,(Builtin.delete_ #[181,3] ty #[.map (some r),a]).run prog w= .ok (.tuple #[]) u):=by
   obtain⟨u,h1,h2,h3⟩:=AK underlying181 underlying3 (h.mp.2 r rfl) a 0;exact⟨u,h2,h3,λty=>h1⟩
  have X:=W.o;have c3:=h.b.cell 3 (.map (some r)) rfl;obtain⟨m7,Y⟩:=h.map H I;have c1:=m7.b.cell 1 b.bn rfl;have J:b.us - s<=4294967296:=aQ;have K:0<=b.us - s:=aQ;have Z:IntKind.u64.wrap (b.us - s)=b.us - s:=by rw[IntKind.wrap_u64];omega
  have q:=bN m7 Y;clear h hb hf S D G R H I m7 Y W;generalize tE b a i=P at *;generalize CH b a=U at *;by_cases Q:b.bn<i
  .have x:aH (P={b with f:=gC b.f a none,L:=b.L++ [⟨s,i⟩]}):=by have:=t.o;rw[Zz Q] at this;exact this
   clear t Z J K;have c4:=q.o.1.b.cell 4 (.slice B b.L.length d) rfl;obtain⟨m,hm⟩:∃m,m=b.L.length:=⟨_,rfl⟩
   try simp only at c4
   rw[<-hm] at c4 hl;have HN:=aP hm;clear hm;obtain⟨bn,p⟩:∃bn,bn=b.bn:=⟨_,rfl⟩
   rw[<-p] at c1 Q;clear p;go_enter func100,ntmps100
   go_wp2_with fail
   refine aR j ?_;rintro e V ⟨rfl,rfl⟩;have m8:=q.o.1.keep (aX u (aI #[.int .u64 s,i] 331));have k:=aP (And.intro m8 (q.o.2.trans (q.o.1.fl.below (aX u (aI #[.int .u64 s,i] 331)))));clear m8;go_wp2_with(at_builtin;refine bP _ rfl _ _ rfl Pn A7 k.o.1.oB (n:=m) HN.o.symm rfl (m:=1) rfl (ys:= [⟨s,i⟩]) rfl (Sl.new A7 u ⟨s,i⟩ _ rfl _) dI aQ (by have:=k.o.1.b.lt;omega) _ rfl (m+1) rfl ?_;intro A6 c6 w6 y z N;(have T:=(k.o.1.b.grown z (λe=>by have:=(k.o.1.oB.lt g e.symm).1;omega)));(have f6:=T.frozen 4);(have d6:=T.cell 4 _ rfl);(have A:=aP (k.o.1.Xl HN.o y z N));clear T y z N)
   have HR:aH (Ending.returned (.int .i64 0)=Ending.returned (.int .i64 U)/\(∃M B d,gE F (w6.setCell (g,4) (.slice A6 (m+1) c6)) g E n c P M B d nw tu)/\Kp F w (w6.setCell (g,4) (.slice A6 (m+1) c6))):=
    ⟨by rw[C.o],by rw[x.o];exact⟨_,_,_,A.o.1⟩,k.o.2.trans A.o.2⟩
   exact bodyPost_ret (v:= .int .i64 0) (by simp[results,results100,go_sem]) rfl HR.o
  .have x:aH (P={b with f:=gC b.f a none,us:=b.us - s}):=by have:=t.o;rw[aaA Q] at this;exact this
   clear t;have c2:=q.o.1.b.cell 2 (.int .u64 b.us) rfl;have f2:=q.o.1.b.frozen 2;have A:=aP (q.o.1.UP (b.us - s));obtain⟨bn,p⟩:∃bn,bn=b.bn:=⟨_,rfl⟩
   rw[<-p] at c1 Q;clear p;obtain⟨us,O⟩:∃us,us=b.us:=⟨_,rfl⟩
   rw[<-O] at c2 Z J K A x;clear O;go_enter func100,ntmps100
   go_wp2_with fail
   refine aR j ?_;rintro e V ⟨rfl,rfl⟩;go_wp2_with fail
   go_ret
   exact⟨by rw[C.o];rfl,by rw[x.o];exact⟨_,_,_,A.o.1⟩,q.o.2.trans A.o.2⟩
end
variable{r:Option Nat}
section
structure We(F:Nat->Prop)(H g:Nat)(B:Option aJ)(M:Option Nat):Prop where
 g:g<H
 B:∀q,aY B=some q->q<H
 M:∀r,M=some r->r<H
 F:∀b,F b->b<H
section
variable{F:Nat->Prop}{w w' w5:aA}{g n c d H:Nat}{E B:Option aJ}{nw tu:Int}{M:Option Nat}{b:Bs}
theorem gE.lo(h:gE F w g E n c b M B d nw tu):We F w g B M:=⟨h.b.lt,λq hq=>(h.oB.lt q hq).2,λr a=>(h.mp.2 r a).lt,h.fl⟩
theorem gE.beside(h:gE F w g E n c b M B d nw tu)(a:w.grownBy w' r)(l:We F H g B M)(f:∀q,r=some q->H<=q):gE F w' g E n c b M B d nw tu/\Kp F w w':=by
 have k:Kp F w w':=Kp.grown a λb hb=>⟨h.fl b hb,λe=>by have:=f b e.symm;have:=l.F b hb;omega⟩
 refine⟨⟨h.b.grown a (λe=>by have:=f g e.symm;have:=l.g;omega),h.oB.kept a ?_,⟨h.mp.1,λq hq=>(h.mp.2 q hq).same (a.block q (h.mp.2 q hq).lt (λe=>by have:=f q e.symm;have:=l.M q hq;omega))⟩,h.fl.kp k,h.fg,h.fB,h.fM⟩,k⟩;cases hb:aY B with
 |none=>exact .inl rfl
 |some q=>right;intro e;have:=f q e.symm;have:=l.B q hb;omega
end
theorem RF(now:Int){l:List Bk}(h:∀p∈l,0<=p.sh)(j:Nat):iC (mE now (l.take j))<=iC l:=by
 have h1:=CU now (l.take j);have e:0<=iC (uW now (l.take j)):=x9 λp hp=>h p (adQ (abZ.1 hp).1)
 have f:iC l=iC (l.take j)+iC (l.drop j):=by
  have a:iC (l.take j++l.drop j)=iC (l.take j)+iC (l.drop j):=by simp[iC, -List.take_append_drop]
  rw[List.take_append_drop] at a;exact a
 have i:0<=iC (l.drop j):=x9 λp hp=>h p (List.mem_of_mem_drop hp)
 omega
structure XL(F:Nat->Prop)(w wr:aA)(g:Nat)(E:Option aJ)(n c:Nat)(b:Bs)(M:Option Nat)(B:Option aJ)(d:Nat)(nw tu now us:Int)(k:Nat)(A:Option aJ)(c6:Nat)(R:List Bk):Prop where
 m:gE F wr g E n c {b with bn:=now,us:=us} M B d nw tu
 o:bI T4 2 wr w.heap.size 331 A c6 R
 kp:Kp F w wr
 eR:R=uW now (b.L.take k)
 eu:us=b.us - iC (mE now (b.L.take k))
 sz:w.heap.size<=wr.heap.size
theorem RE{c:Nat}{E:Option aJ}{nw:Int}{b:Bs}(h:gE F w g E n c b M B d nw tu)(hb:tC b)(now:Int)(hl:b.L.length<=2000000):
 aG prog 111 #[.pointer (some ⟨g,1,none⟩),now] w λe w'=>(∃v:Int,e= .returned (.int .i64 v))/\(∃M B d,gE F w' g E n c (l7 b now) M B d nw tu)/\Kp F w w':=by
 have c1:=h.b.cell 1 b.bn rfl;have f1:=h.b.frozen 1;obtain⟨bn,T⟩:∃bn,bn=b.bn:=⟨_,rfl⟩
 rw[<-T] at c1;have HBN:=aP T;clear T;by_cases hn:now<bn
 .have U:aH (l7 b now=b):=by unfold aH l7;rw[Zz (by rw[<-HBN.o];exact hn)]
  have HM:=aP h;clear h hb;generalize l7 b now=b' at *;go_enter func111,ntmps111
  go_wp2_with fail
  go_ret
  exact⟨⟨0,rfl⟩,by rw[U.o];exact⟨_,_,_,HM.o⟩,Kp.refl _ _⟩
 .have U:aH (l7 b now={b with bn:=now,us:=b.us - iC (mE now b.L),L:=uW now b.L}):=by unfold aH l7;rw[aaA (by rw[<-HBN.o];exact hn)]
  obtain⟨m1,k1⟩:=h.Uw now;have G:=aP h.lo;have t:=aP hb;have c4:=m1.b.cell 4 (.slice B b.L.length d) rfl;obtain⟨m,hm⟩:∃m,m=b.L.length:=⟨_,rfl⟩
  rw[<-hm] at c4 hl;have HN:=aP hm;have H1:aH (XL F w (w.setCell (g,1) now) g E n c b M B d nw tu now b.us 0 none 0 []):=⟨m1,bI.nil _ _ _,k1,rfl,by simp[mE,iC],k1.size⟩
  clear h hb m1 k1 hm;generalize l7 b now=b' at *;go_enter func111,ntmps111
  go_upto_region 4 with(fail)
  generalize w.setCell (g,1) now=w1 at *;clear c1 f1;go_wp2_with fail
  go_loopw [5,6,8,28] (λv5 v6 _ v28 wr=>∃(k:Nat) (V us:Int) (A:Option aJ) (c6 r:Nat) (R:List Bk),v5= .int .i64 V/\v6= .slice A r c6/\v28= .int .i64 k/\k<=m/\0<=V/\V<=k/\r<=k/\aH (r=R.length)/\aH (XL F w wr g E n c b M B d nw tu now us k A c6 R)) (λ_ _ _ v28 _=>m - (aL v28).toNat)
  case atStart=>exact⟨0,0,b.us,none,0,0, [],rfl,rfl,rfl,aaH _,aQ,aQ,Zw _,rfl,H1⟩
  case round=>
   clear H1 c4;obtain⟨k,V,us,A,c6,r,R,rfl,rfl,rfl,hk,hg0,hg1,hrk,I,a⟩:=hrel;by_cases hkm:k<m
   .have f:k<b.L.length:=by rw[<-HN.o];exact hkm
    obtain⟨q,rfl⟩:∃q,B=some ⟨q,0,none⟩:=by
     rcases a.o.m.oB.shape with⟨_,h2,_⟩|h2
     .simp only at h2;rw[h2] at f;simp at f
     .exact h2
    have e0:=bM A7 a.o.m.oB (i:=k) f (j:=0) (v:= .int .u64 b.L[k].sh) rfl;have e1:=bM A7 a.o.m.oB (i:=k) f (j:=1) (v:= .int .i64 b.L[k].un) rfl;rw[aaU] at e0;have hy:=t.o.pn _ (aaF f);have hle:=RF now t.o.pn (k+1);have l:=U9 now (b.L.take k) b.L[k];have u:=WW now (b.L.take k) b.L[k];have x:b.L.take (k+1)=b.L.take k++ [b.L[k]]:=by rw[abE,Zv f];rfl
    rw[<-x] at l u;have O:=t.o.all;have hsF:=S4 t.o.nn;have P:=t.o.top;have W:=a.o.eu;have J:=a.o.eR;obtain⟨y,X⟩:∃y,y=b.L[k]:=⟨_,rfl⟩
    rw[<-X] at e0 e1 hy l u;have i0:(0:Int)<=k:=aQ;have i1:(k:Int)<(m:Int):=aQ;have s:=aP (aX wr (aI #[.int .u64 y.sh,y.un] 331));have yb:=bF.new wr 331 #[.int .u64 y.sh,y.un];have m2:=a.o.m.keep s.o;have o2:=a.o.o.keep s.o;have k2:=a.o.kp.trans (a.o.m.fl.below s.o);by_cases hu:y.un<=now
    .have hgs:iC (mE now (b.L.take (k+1)))=iC (mE now (b.L.take k))+y.sh:=by rw[l,Zz hu,OJ]
     have hge:0<=us - y.sh:=aQ;have hlt:us - y.sh<=4294967296:=by
      have:0<=iC (mE now (b.L.take k)):=x9 λp hp=>t.o.pn p (adQ (abZ.1 hp).1)
      omega
     have HA:aH (us - y.sh=b.us - iC (mE now (b.L.take (k+1)))/\R=uW now (b.L.take (k+1))):=⟨aQ,by rw[u,Zz hu,ac7];exact J⟩
     have z1:IntKind.u64.wrap (us - y.sh)=us - y.sh:=by rw[IntKind.wrap_u64];omega
     have c2:=m2.b.cell 2 (.int .u64 us) rfl;have D:=dA m2 o2 k2;have jA:w.heap.size<=(wr.alloc (aI #[.int .u64 y.sh,y.un] 331)).heap.size:=aaC a.o.sz s.o.size;have Y:=aP jA;clear hgs l u x O hsF P W J X hle m2 o2 k2 a f jA;go_upto_region 11 with(fail)
     clear e0 e1 s;generalize wr.alloc (aI #[.int .u64 y.sh,y.un] 331)=w3 at *;generalize wr.heap.size=yq at *;have x0:=yb.cell 0 (.int .u64 y.sh) rfl;clear yb;have K:=bD x0;have N:=bD c2;refine bO (bS _) (λ_=>bS) [] (λ_ _ _=>True) [9] [] 57 (bY _) (λ_ _ _ h hz=>bU h hz) (λ_ d hd _ v w w' _ h hz=>by cases hd) aV aV bL ?_;repeat refine eA ?_
     refine dC ?_;intro γ w5 z hT;clear K N;simp only[cO,Act.put,Zx,aaE,aaD];refine dP ?_;have m5:=D.o.1.keep z;have o5:=D.o.2.1.keep z;have k5:=D.o.2.2.trans (D.o.1.fl.below z);refine dS w5 rfl 75 _ _ rfl g 2 (.int .u64 (us - y.sh)) rfl rfl aV rfl (m5.b.one (by simp[GD])) ?_;refine cI ?_;try simp only[Act.put]
     obtain⟨m6,k6⟩:=m5.UP (us - y.sh);have o6:=o5.kept (aZ (bK w5 g) 2 (.int .u64 (us - y.sh))) (o5.ne (p:=⟨g,2,none⟩) (B:=w.heap.size) G.o.g (Zw _));have HF:aH (XL F w (w5.setCell (g,2) (.int .u64 (us - y.sh))) g E n c b M (some ⟨q,0,none⟩) d nw tu now (us - y.sh) (k+1) A c6 R):=⟨m6,o6,k5.trans k6,HA.o.2,HA.o.1,aaC Y.o (aaC z.size k6.size)⟩
     clear m5 o5 k5 m6 k6 o6 hT z c2 x0;go_wp2_with fail
     go_roundw
     case rel=>exact⟨k+1,V+1,us - y.sh,A,c6,r,R,by go_num,rfl,by go_num,aQ,aQ,aQ,aQ,I,HF⟩
     case measure=>simp[aL];omega
    .have HA:aH (us=b.us - iC (mE now (b.L.take (k+1)))/\R++ [y]=uW now (b.L.take (k+1))):=⟨by rw[l,aaA hu,ac7];exact W,by rw[u,aaA hu];rw[J]⟩
     have hus0:0<=us:=by
      have:iC (mE now (b.L.take (k+1)))=iC (mE now (b.L.take k)):=by rw[l,aaA hu,ac7]
      omega
     have Y:aH (w.heap.size<=(wr.alloc (aI #[.int .u64 y.sh,y.un] 331)).heap.size):=aaC a.o.sz s.o.size;have D:=dA m2 o2 k2;clear l u x O hsF P W J X hle m2 o2 k2 a f hus0;go_upto_region 12 with(fail)
     clear e0 e1 s;generalize wr.alloc (aI #[.int .u64 y.sh,y.un] 331)=w3 at *;generalize wr.heap.size=yq at *;have x0:=yb.cell 0 (.int .u64 y.sh) rfl;have x1:=yb.cell 1 y.un rfl;clear yb;have C:=aX w3 (aI #[.int .u64 y.sh,y.un] 331);have H4:=dA (D.o.1.keep C) (D.o.2.1.keep C) (D.o.2.2.trans (D.o.1.fl.below C));have Q:aH (w.heap.size<=(w3.alloc (aI #[.int .u64 y.sh,y.un] 331)).heap.size):=aaC Y.o C.size;clear C;go_wp2_with(at_builtin;refine bP _ rfl _ _ rfl Pn A7 H4.o.2.1 (n:=r) I.o.symm rfl (m:=1) rfl (ys:= [y]) rfl (Sl.new A7 w3 y _ rfl _) dI aQ Q.o _ rfl (r+1) rfl ?_;intro A6 c7 w6 S Z at6;(have a1:=H4.o.1.beside Z G.o (λq hq=>(H4.o.2.1.lt q hq).1));(have HF:aH (XL F w w6 g E n c b M (some ⟨q,0,none⟩) d nw tu now us (k+1) A6 c7 (R++ [y])):=⟨a1.1,S,H4.o.2.2.trans a1.2,HA.o.2,HA.o.1,aaC Q.o Z.size⟩);clear S Z at6 a1 H4 D)
     go_roundw
     case rel=>exact⟨k+1,V,us,A6,c7,r+1,R++ [y],rfl,rfl,by go_num,aQ,aQ,aQ,aQ,by show r+1=(R++ [y]).length;rw[aaM,<-I.o];rfl,HF⟩
     case measure=>simp[aL];omega
   .obtain rfl:k=m:=aQ;have i1:¬(k:Int)<(k:Int):=aQ;have x:b.L.take k=b.L:=aaS (by rw[<-HN.o];exact Zw _);have f4:=a.o.m.b.frozen 4;have c4:=a.o.m.b.cell 4 (.slice B b.L.length d) rfl;have HF:=aP (a.o.m.Xi (A6:=A) (c6:=c6) I.o (a.o.o.from_ (by have:=G.o.g;omega)) (λq hq hF=>by have:=(a.o.o.lt q hq).1;have:=G.o.F q hF;omega));have HB3:aH (b'={b with bn:=now,us:=us,L:=R}):=by unfold aH;rw[U.o,a.o.eu,a.o.eR,x]
    have HK:=aP (a.o.kp.trans HF.o.2);clear a x;go_wp2_with fail
    go_ret
    exact⟨⟨V,rfl⟩,by rw[HB3.o];exact⟨_,_,_,HF.o.1⟩,HK.o⟩
end
end
variable{T T':Int}
section
section
structure rR(T:Int)(s:Sv):Prop where
 b:PX s
 rp:∀r∈s.rf,1<=r.am/\r.at_<=T+s.pe
 cd:∀x∈s.ch,x.de<=T+s.pe
 ro:s.rf.Pairwise λx y=>x.at_<=y.at_
 nw:0<=s.nw/\s.nw<=T
 cg:0<=s.cg/\s.cg<=T
theorem rR.mono{s:Sv}(h:rR T s)(d:T<=T'):rR T' s:=
 ⟨h.b,λr a=>⟨(h.rp r a).1,by have:=(h.rp r a).2;omega⟩,λx c=>by have:=h.cd x c;omega,h.ro,⟨h.nw.1,by have:=h.nw.2;omega⟩,⟨h.cg.1,by have:=h.cg.2;omega⟩⟩
def vU(bu pe:Int):Sv:=⟨bu,pe,0,bu, [], [],0⟩
theorem rR.new(h:1<=bu/\bu<=pe/\pe<=1048576)(a:0<=T):rR T (vU bu pe):=by
 refine⟨⟨?_,?_,?_,?_,h,?_,?_⟩,?_,?_,?_,⟨?_,a⟩,⟨?_,a⟩⟩ <;> simp[vU,r8,oX]
 omega
theorem It{l:List Ck}(h:∀x∈l,1<=x.lf/\0<=x.us):(l.length:Int)<=r8 l:=by
 induction l with
 |nil=>simp[r8]
 |cons r l a=>
  have:=h r aT;have:=a λr b=>h r (by simp[b])
  rw[oD];simp only[aa9];omega
theorem Fe{l:List Rl}(h:∀r∈l,1<=r.am):(l.length:Int)<=oX l:=by
 induction l with
 |nil=>simp[oX]
 |cons r l a=>
  have:=h r aT;have:=a λr b=>h r (by simp[b])
  rw[zY];simp only[aa9];omega
theorem rR.len{s:Sv}(h:rR T s):s.rf.length+s.ch.length<=1048576:=by
 have h1:=It h.b.ch;have c:=Fe λr a=>(h.rp r a).1
 have:=h.b.all;have:=h.b.bu;have:=h.b.av;omega
theorem AU(now:Int):∀(l:List Rl) (av:Int),(qY now av l).2<:+l
 | [],_=>List.suffix_refl _
 |r::l,av=>by
  unfold qY;split
  .exact(AU now l _).trans (List.suffix_cons r l)
  .exact List.suffix_refl _
def AD(s:Sv):Bool:=!s.rf.isEmpty || s.ch.any λx=>decide (0<x.us)
theorem tW{s:Sv}(h:AD s=false):s.rf= []/\∀x∈s.ch,¬0<x.us:=by
 unfold AD at h;rw[Bool.or_eq_false_iff] at h;refine⟨by simpa using h.1,λx a hu=>?_⟩;have:=List.any_eq_false.1 h.2 x a;simp[hu] at this
theorem zF{s:Sv}(h:s.rf= [])(a:∀x∈s.ch,¬0<x.us):AD s=false:=by
 unfold AD;rw[h,Bool.or_eq_false_iff];exact⟨rfl,List.any_eq_false.2 λx b=>by simp;have:=a x b;omega⟩
theorem IS{T:Int}(bu pe:Int):∀(l:List Ck) (s:Sv),0<=s.av->(∀x∈l,1<=x.lf/\0<=x.us/\x.de<=T+pe)->(∀r∈s.rf,1<=r.am/\r.at_<=T+pe)->s.rf.Pairwise (λx y=>x.at_<=y.at_)->l.Pairwise (λx y=>x.de<=y.de)->(∀r∈s.rf,∀x∈l,r.at_<=x.de)->s.av+r8 l+oX s.rf=bu->
 0<=(l.foldl iE s).av/\(∀r∈(l.foldl iE s).rf,1<=r.am/\r.at_<=T+pe)/\(l.foldl iE s).rf.Pairwise (λx y=>x.at_<=y.at_)/\(l.foldl iE s).av+oX (l.foldl iE s).rf=bu/\(l.foldl iE s).bu=s.bu/\(l.foldl iE s).pe=s.pe/\(l.foldl iE s).nw=s.nw/\(l.foldl iE s).cg=s.cg/\((s.rf= []/\∀x∈l,¬0<x.us)->(l.foldl iE s).rf= [])
 | [],s,h1,_,f,g,_,_,i=>⟨h1,f,g,by simpa[r8] using i,rfl,rfl,rfl,rfl,λh=>h.1⟩
 |x::l,s,h1,h2,f,g,h5,j,i=>by
  have q:=h2 x aT;rw[oD] at i;have e:=adK.1 h5;rw[acY];by_cases hu:x.us=0
  .have k:iE s x={s with av:=s.av+x.lf}:=by unfold iE mW;rw[Zz hu]
   rw[k];obtain⟨m,a2,a3,a4,a5,n,o,p,a9⟩:=IS bu pe l {s with av:=s.av+x.lf} (by simp only;omega) (λy d=>h2 y (by simp[d])) f g e.2 (λr c y d=>j r c y (by simp[d])) (by simp only;omega);exact⟨m,a2,a3,a4,a5,n,o,p,λh=>a9 ⟨h.1,λy d=>h.2 y (by simp[d])⟩⟩
  .have k:iE s x={s with av:=s.av+x.lf,rf:=s.rf++ [⟨x.de,x.us⟩]}:=by unfold iE mW;rw[aaA hu]
   rw[k];obtain⟨m,a2,a3,a4,a5,n,o,p,a9⟩:=IS (T:=T) bu pe l {s with av:=s.av+x.lf,rf:=s.rf++ [⟨x.de,x.us⟩]} (by simp only;omega) (λy d=>h2 y (by simp[d])) (λr c=>by
    rcases aaO.1 c with c|c
    .exact f r c
    .rw[aaK.1 c];exact⟨by simp only;omega,q.2.2⟩) (acZ.2 ⟨g,ac0 _ _,λa ha b hb=>by rw[aaK.1 hb];exact j a ha x aT⟩) e.2 (λr c y d=>by
    rcases aaO.1 c with c|c
    .exact j r c y (by simp[d])
    .rw[aaK.1 c];exact e.1 y d) (by simp only;rw[D2];simp only;omega)
   exact⟨m,a2,a3,a4,a5,n,o,p,λh=>absurd (show 0<x.us by omega) (h.2 x aT)⟩
theorem rR.pop{s:Sv}(h:rR T s)(c:0<=T):rR T (uD T s):=by
 have hs:=AU T s.rf s.av;have hm:∀r∈(qY T s.av s.rf).2,r∈s.rf:=λr a=>hs.subset a
 exact⟨h.b.pop T,λr a=>h.rp r (hm r a),h.cd,h.ro.sublist hs.sublist,⟨c,ab3 _⟩,h.cg⟩
theorem rR.begin{s:Sv}(h:rR T s)(n:0<=T)(rd:Bool):rR T (kH s T rd)/\(kH s T rd).nw=T/\(AD s=false->AD (kH s T rd)=false)/\(kH s T rd).bu=s.bu/\(kH s T rd).pe=s.pe:=by
 have hp:=h.pop n;have f:=AU T s.rf s.av;have hu:AD s=false->(uD T s).rf= []:=λhu=>by
  have h1:=(tW hu).1;have k:(uD T s).rf<:+s.rf:=f;rw[h1] at k;exact List.suffix_nil.1 k
 have i:=hp.b.av;have g:=hp.b.all;unfold kH;cases rd with
 |false=>
  simp only[aaZ,aaY];obtain⟨o,a2,a3,a4,a5,j,l,p,a9⟩:=IS (T:=T) s.bu s.pe s.ch (uD T s) i (λx c=>⟨(hp.b.ch x c).1,(hp.b.ch x c).2,hp.cd x c⟩) hp.rp hp.ro hp.b.ord hp.b.BI g;refine⟨⟨⟨o,aT,λr e=>by have:=(a2 r e).1;omega,by simp only[r8,List.map_nil,List.sum_nil,Int.add_zero];rw[a4,a5];rfl,by simp only;rw[a5,j];exact hp.b.bu,aT,aT⟩,λr e=>by simp only;rw[j];exact a2 r e,aT,a3,by simp only;rw[l];exact hp.nw,by simp only;rw[p];exact hp.cg⟩,l,λd=>zF (a9 ⟨hu d,λx c=>(tW d).2 x c⟩) aT,a5,j⟩
 |true=>
  simp only[abI];split
  .rename_i m;refine⟨⟨⟨?_,?_,hp.b.rf,?_,hp.b.bu,?_,?_⟩,hp.rp,?_,hp.ro,hp.nw,hp.cg⟩,rfl,λd=>zF (hu d) λx c=>?_,rfl,rfl⟩
   .simp
   .intro x c;rcases aaO.1 c with c|c
    .exact hp.b.ch x c
    .rw[aaK.1 c];exact⟨by simp only;omega,aT⟩
   .simp only[Z8];omega
   .refine acZ.2 ⟨hp.b.ord,ac0 _ _,λa ha b hb=>?_⟩;rw[aaK.1 hb];exact hp.cd a ha
   .intro r e x c;rcases aaO.1 c with c|c
    .exact hp.b.BI r e x c
    .rw[aaK.1 c];exact(hp.rp r e).2
   .intro x c;rcases aaO.1 c with c|c
    .exact hp.cd x c
    .rw[aaK.1 c];exact ab3 _
   .rcases aaO.1 c with c|c
    .exact(tW d).2 x c
    .rw[aaK.1 c];simp
  .exact⟨hp,rfl,λd=>zF (hu d) (tW d).2,rfl,rfl⟩
theorem rR.run{T:Int}{s:Sv}(h:rR T s){x:Ck}{xs:List Ck}(hs:s.ch=x::xs):rR (T+1) (CG s)/\(CG s).bu=s.bu/\(CG s).pe=s.pe:=by
 have m:=h.b.ch x (by rw[hs];simp);have g:=h.b.bu;have k:=h.cd x (by rw[hs];simp);have i:=h.b.all;rw[hs,oD] at i;have f:=h.b.ord;rw[hs] at f;have e:=adK.1 f;have hm:∀y∈xs,y∈s.ch:=λy c=>by rw[hs];simp[c]
 have n:=h.nw;have hc:=h.cg;unfold CG;rw[hs];simp only;split
 .rename_i l;have j:¬(x.us+1=0):=aQ;unfold mW;simp only[aaA j];refine⟨⟨⟨h.b.av,λy c=>h.b.ch y (hm y c),λr d=>?_,?_,g,e.2,λr d y c=>?_⟩,λr d=>?_,λy c=>by have:=h.cd y (hm y c);simp only;omega,acZ.2 ⟨h.ro,ac0 _ _,λa ha b hb=>?_⟩,by simp only;omega,by simp only;omega⟩,by first|exact⟨rfl,rfl⟩|trivial⟩
  .rcases aaO.1 d with d|d
   .exact h.b.rf r d
   .rw[aaK.1 d];simp only;omega
  .simp only[D2];omega
  .rcases aaO.1 d with d|d
   .exact h.b.BI r d y (hm y c)
   .rw[aaK.1 d];exact e.1 y c
  .rcases aaO.1 d with d|d
   .have:=h.rp r d;simp only;omega
   .rw[aaK.1 d];simp only;omega
  .rw[aaK.1 hb];exact h.b.BI a ha x (by rw[hs];simp)
 .rename_i l;refine⟨⟨⟨h.b.av,λy c=>?_,h.b.rf,?_,g,?_,λr d y c=>?_⟩,λr d=>by have:=h.rp r d;simp only;omega,λy c=>?_,h.ro,by simp only;omega,by simp only;omega⟩,by first|exact⟨rfl,rfl⟩|trivial⟩
  .rcases acQ.1 c with rfl|c
   .simp only;omega
   .exact h.b.ch y (hm y c)
  .simp only[oD];omega
  .exact adK.2 ⟨λy c=>e.1 y c,e.2⟩
  .rcases acQ.1 c with rfl|c
   .exact h.b.BI r d x (by rw[hs];simp)
   .exact h.b.BI r d y (hm y c)
  .rcases acQ.1 c with rfl|c
   .simp only;omega
   .have:=h.cd y (hm y c);simp only;omega
def xW(l:List Rl):Int:=l.foldl (λa r=>max a r.at_) 0
def xT(a:Int)(l:List Ck):Int:=l.foldl (λa x=>if 0<x.us then max a x.de else a) a
def sR(s:Sv):Int:=xT (xW s.rf) s.ch
theorem KL{a:Int}:∀{l:List Ck},(∀x∈l,¬0<x.us)->xT a l=a
 | [],_=>rfl
 |x::l,h=>by
  have:=KL (a:=a) (l:=l) (λy b=>h y (by simp[b]));unfold xT at *;rw[acY,aaA (h x aT)];exact this
theorem K3{s:Sv}(h:AD s=false):sR s=0:=by
 unfold sR;rw[KL (tW h).2,(tW h).1];rfl
theorem UU(l:List Rl)(r:Rl):xW (l++ [r])=max (xW l) r.at_:=by simp[xW]
theorem VD(a:Int)(l:List Ck)(x:Ck):xT a (l++ [x])=if 0<x.us then max (xT a l) x.de else xT a l:=by simp[xT]
end
end
section
open Go.RowKit Go.Lib Go.Shelf
variable{F:Nat->Prop}{w:aA}{g:Nat}
section
theorem YA{s:Sv}(h:sI F w g s)(hl:s.rf.length+s.ch.length<=2000000):
 aG prog 99 #[.pointer g] w λe w'=>e= .returned (.int .i64 (sR s))/\aD w w w':=by
 obtain⟨A,c,B,d,h⟩:=h;have c4:=h.b.cell 4 (.slice A s.ch.length c) rfl;have c5:=h.b.cell 5 (.slice B s.rf.length d) rfl;have I:=aP h;obtain⟨n,D⟩:∃n,n=s.rf.length:=⟨_,rfl⟩
 obtain⟨m,hm⟩:∃m,m=s.ch.length:=⟨_,rfl⟩
 rw[<-D] at c5 hl;rw[<-hm] at c4 hl;have C:=bN D hm;clear h D hm;go_enter func99,ntmps99
 go_wp2_with fail
 go_loopw [3,16] (λv3 r wr=>∃(k:Nat) (x:Int),r= .int .i64 k/\v3= .int .i64 x/\k<=n/\aH (x=xW (s.rf.take k))/\aD w w wr) (λ_ r _=>n - (aL r).toNat)
 case atStart=>exact⟨0,0,rfl,rfl,aaH _,rfl,Below.refl _ _⟩
 case round=>
  obtain⟨k,x,rfl,rfl,hk,t,a⟩:=hrel;by_cases J:k<n
  .have u:k<s.rf.length:=by have:=C.o.1;omega
   obtain⟨b,off,rfl,Q,R⟩:=((I.o.oB.sl pJ).keep a).Kf u;have S:(0:Int)<=k:=aQ;have K:(k:Int)<(n:Int):=aQ;have i:s.rf.take (k+1)=s.rf.take k++ [s.rf[k]]:=by rw[abE,Zv u];rfl
   have l:aH (xW (s.rf.take (k+1))=max x s.rf[k].at_):=by unfold aH;rw[i,UU,<-t.o]
   clear i;generalize s.rf[k]=y at *;have p:=aP (a.alloc a.size (aI #[y.at_,y.am] 327));clear a;by_cases E:x<y.at_
   all_goals
    go_wp2_with fail
    go_roundw
    case rel=>exact⟨k+1,_,by go_num,rfl,aQ,by show _=_;rw[l.o];omega,p.o⟩
    case measure=>simp[aL];omega
  .obtain rfl:k=n:=aQ;have K:¬(k:Int)<(k:Int):=aQ;replace c4:=bG a c4;have G:aH (x=xW s.rf):=by show x=_;rw[t.o,aaS (by have:=C.o.1;omega)]
   clear t;go_wp2_with fail
   go_loopw [3,30] (λv3 v30 L=>∃(j:Nat) (x:Int),v30= .int .i64 j/\v3= .int .i64 x/\j<=m/\aH (x=xT (xW s.rf) (s.ch.take j))/\aD w w L) (λ_ v30 _=>m - (aL v30).toNat)
   case atStart=>exact⟨0,x,rfl,rfl,aaH _,G,a⟩
   case round=>
    clear a c4;obtain⟨j,x,rfl,rfl,T,t,a⟩:=hrel;by_cases M:j<m
    .have f:j<s.ch.length:=by have:=C.o.2;omega
     have z:=I.o.oA.keep (w':=wr) a;obtain⟨q,rfl⟩:∃q,A=some ⟨q,0,none⟩:=by
      rcases z.shape with⟨_,H,_⟩|H
      .rw[H] at f;simp at f
      .exact H
     have N:=bM kZ z f (j:=0) (v:= .int .i64 s.ch[j].lf) rfl;have U:=bM kZ z f (j:=1) (v:= .int .i64 s.ch[j].us) rfl;have V:=bM kZ z f (j:=2) (v:= .int .i64 s.ch[j].de) rfl;rw[aaU] at N;have W:(0:Int)<=j:=aQ;have O:(j:Int)<(m:Int):=aQ;clear z;have i:s.ch.take (j+1)=s.ch.take j++ [s.ch[j]]:=by rw[abE,Zv f];rfl
     have l:aH (xT (xW s.rf) (s.ch.take (j+1))=if 0<s.ch[j].us then max x s.ch[j].de else x):=by unfold aH;rw[i,VD,<-t.o]
     clear i;generalize s.ch[j]=y at *;have p:=aP (a.alloc a.size (aI #[y.lf,y.us,y.de] 329));clear a;by_cases hu:0<y.us
     .by_cases E:x<y.de
      all_goals
       go_wp2_with fail
       go_roundw
       case rel=>exact⟨j+1,_,by go_num,rfl,aQ,by show _=_;rw[l.o,Zz hu];omega,p.o⟩
       case measure=>simp[aL];omega
     .go_wp2_with fail
      go_roundw
      case rel=>exact⟨j+1,_,by go_num,rfl,aQ,by show _=_;rw[l.o,aaA hu],p.o⟩
      case measure=>simp[aL];omega
    .obtain rfl:j=m:=aQ;have O:¬(j:Int)<(j:Int):=aQ;go_wp2_with fail
     go_ret
     have P:x=sR s:=by rw[t.o,aaS (by have:=C.o.2;omega)];rfl
     exact⟨by rw[<-P];rfl,a⟩
theorem Is(bu pe:Int)(w:aA)(l:nK bu pe=true):aG prog 97 #[.agg #[bu,pe]] w λe w'=>∃g,e= .returned (.tuple #[.pointer (some ⟨g,0,none⟩),aU])/\w.heap.size<=g/\sI (λb=>b<w.heap.size) w' g (vU bu pe)/\aD w w w':=by
 have d:=aP (λW=>CX bu pe W);rw[l] at d;have c:=aX w (aI #[bu,pe] 112);have f:=bF.new w 112 #[bu,pe];go_enter func97,ntmps97
 go_upto_region 1 with(fail)
 generalize w.alloc (aI #[bu,pe] 112)=w1 at *;generalize hq:w.heap.size=q at f⊢;have j:=f.cell 0 bu rfl;have k:=f.cell 1 pe rfl;go_wp2_with fail
 refine aS (d.o _) ?_;rintro e h ⟨rfl,a⟩;replace j:=bG a j;replace k:=bG a k;have i:=aP (c.trans (Below.mono a c.size));clear c a;go_wp2_with fail
 have m:w.heap.size<=h.heap.size:=i.o.size;exact bodyPost_ret (v:= .tuple #[.pointer h.heap.size,aU]) (by simp[results,results97,go_sem]) rfl ⟨h.heap.size,rfl,m,⟨none,0,none,0,bF.new _ _ _,bI.nil _ _ _,bI.nil _ _ _,λb hb=>by have:=hb;simp;omega,aQ,λq hq=>(by cases hq),λq hq=>(by cases hq)⟩,i.o.alloc i.o.size _⟩
end
end
end Go.Proofs.YtacgiflhgdaeaaaGreat
