/- TopWrites answers true at every number of calls and list of acts: as long as no frames are wanted, what a taken frame holds, as long as it is taken, is changed only by one who has the tick, and might write, or take back, that frame ahead of it. No condition. -/
import Derived.Laws.BytesArg
import Derived.Test.YtacgiflhgdaeaaaGreatWZ1
import Derived.Test.YtacgiflhgdaeaaaGreatWZ4
import Derived.Test.YtacgiflhgdaeaaaGreatWZ6
import Derived.Test.YtacgiflhgdaeaaaGreatWZ7
set_option linter.unusedVariables false
set_option linter.unusedSimpArgs false
set_option maxRecDepth 100000
set_option maxHeartbeats 20000000
namespace Go.Proofs.YtacgiflhgdaeaaaGreat
open Go.Proofs.Tryz
open Go renaming World->aA,Value->aC,Addr->aJ,Ending->aM,TypeId->aN,Calls->aG
open Go.RowKit renaming Below->aD,Hid->aH,intOf->aL
open Go.Obj renaming cells->aI
section
open Go.ChangeShapes Go.WideShapes Go.ChangeAt Go.RowKit Go.Deep Go.Joins Go.Lib dL Fr Up Nt
variable{P:Program}{w:aA}{fs:Array Field}{n sz:Nat}{A:Option aJ}
section
theorem iU{H:Type}{enc0:aN×aC->H}{e:aN}{cs:List aC}{x:DataW H×List MemPlace}(he:P.underlying e=some (.struct fs))(h:DataW.trod enc0 P w 0 (λ_=>true) true n e cs=some x)(j:Nat)(f:Field)(a:fs[j]?=some f)(o k:Nat)(ho:f.offset=o)(hk:P.cellsOf f.type=k):
 ∃(y:DataW H×List MemPlace) (m:Nat),DataW.trod enc0 P w 0 (λ_=>true) true m f.type ((cs.drop o).take k)=some y:=by
 obtain⟨ys,b,c,i,hlen,d,hf⟩:=DataW.trod_struct he h;have h1:=hf j f a;rw[ho,hk] at h1;have g:j<fs.size:=(afH.1 a).1;rw[abO (show j<ys.length by omega)] at h1;exact⟨_,b,h1⟩
theorem Sl.fE{α:Type}{enc:α->List aC}{xs:List α}(h:Sl enc sz w A xs)(he:eW enc sz)(d:0<sz):∀q,mM A xs.length=some q->q<w.heap.size:=λq hq=>by
 unfold mM at hq;split at hq
 .cases hq
 .obtain⟨b,off,a,hc⟩:=h aQ;rw[a] at hq;injection hq with hq;subst hq;have hl:=he.len (xs[0]'(by omega));have h1:=hc 0 (xs[0]'(by omega)) 0 ((enc (xs[0]'(by omega)))[0]'(by omega)) (abO _) (abO _);have c:=World.block_lt_of_cell? w _ h1;exact c
def P8(a:Sc):Prop:=match a with|⟨x0,x1,x2⟩=>(Lit.int .i64 x0).wf=true/\(Lit.int .i64 x1).wf=true/\(Lit.int .i64 x2).wf=true
theorem Rk{H:Type}{enc0:aN×aC->H}(cs:List aC)(x:DataW H×List MemPlace)(n:Nat)(e:cs.length=3)
 (h:DataW.trod enc0 prog w 0 (λ_=>true) true n 201 cs=some x):∃a:Sc,cs=lN a/\P8 a:=by
 obtain⟨_,v0,o,m0,j,t0⟩:=nD underlying201 aV aV h 0 _ rfl;obtain⟨_,v1,p,m1,k,t1⟩:=nD underlying201 aV aV h 1 _ rfl;obtain⟨_,v2,q,m2,l,t2⟩:=nD underlying201 aV aV h 2 _ rfl;obtain⟨a0,b,_,f⟩:=DataW.trod_int underlying3 t0;obtain⟨m,c,_,g⟩:=DataW.trod_int underlying3 t1;obtain⟨a2,d,_,i⟩:=DataW.trod_int underlying3 t2;injection b with b;injection c with c;injection d with d;subst b c d;refine⟨⟨a0,m,a2⟩,?_,⟨f,g,i⟩⟩;match cs,e with
 | [q0,q1,q2],_=>
  simp at j k l;subst j k l;rfl
def QN(a:(Int×Int×Int)):Prop:=match a with|⟨x0,x1,x2⟩=>(Lit.int .i64 x0).wf=true/\(Lit.int .i64 x1).wf=true/\(Lit.int .i64 x2).wf=true
theorem Tf{H:Type}{enc0:aN×aC->H}(cs:List aC)(x:DataW H×List MemPlace)(n:Nat)(e:cs.length=3)
 (h:DataW.trod enc0 prog w 0 (λ_=>true) true n 171 cs=some x):∃a:(Int×Int×Int),cs=mC a/\QN a:=by
 obtain⟨_,v0,o,m0,j,t0⟩:=nD underlying171 aV aV h 0 _ rfl;obtain⟨_,v1,p,m1,k,t1⟩:=nD underlying171 aV aV h 1 _ rfl;obtain⟨_,v2,q,m2,l,t2⟩:=nD underlying171 aV aV h 2 _ rfl;obtain⟨a0,b,_,f⟩:=DataW.trod_int underlying3 t0;obtain⟨m,c,_,g⟩:=DataW.trod_int underlying3 t1;obtain⟨a2,d,_,i⟩:=DataW.trod_int underlying3 t2;injection b with b;injection c with c;injection d with d;subst b c d;refine⟨⟨a0,m,a2⟩,?_,⟨f,g,i⟩⟩;match cs,e with
 | [q0,q1,q2],_=>
  simp at j k l;subst j k l;rfl
def P2(a:(Int×Int×Int)):Prop:=match a with|⟨x0,x1,x2⟩=>(Lit.int .i64 x0).wf=true/\(Lit.int .i64 x1).wf=true/\(Lit.int .i64 x2).wf=true
theorem Re{H:Type}{enc0:aN×aC->H}(cs:List aC)(x:DataW H×List MemPlace)(n:Nat)(e:cs.length=3)
 (h:DataW.trod enc0 prog w 0 (λ_=>true) true n 106 cs=some x):∃a:(Int×Int×Int),cs=mC a/\P2 a:=by
 obtain⟨_,v0,o,m0,j,t0⟩:=nD underlying106 aV aV h 0 _ rfl;obtain⟨_,v1,p,m1,k,t1⟩:=nD underlying106 aV aV h 1 _ rfl;obtain⟨_,v2,q,m2,l,t2⟩:=nD underlying106 aV aV h 2 _ rfl;obtain⟨a0,b,_,f⟩:=DataW.trod_int underlying3 t0;obtain⟨m,c,_,g⟩:=DataW.trod_int underlying3 t1;obtain⟨a2,d,_,i⟩:=DataW.trod_int underlying3 t2;injection b with b;injection c with c;injection d with d;subst b c d;refine⟨⟨a0,m,a2⟩,?_,⟨f,g,i⟩⟩;match cs,e with
 | [q0,q1,q2],_=>
  simp at j k l;subst j k l;rfl
section
variable{H:Type}{enc0:aN×aC->H}{w:aA}
theorem Vw(cs:List aC)(x:DataW H×List MemPlace)(n:Nat)(b:cs.length=1)(h:DataW.trod enc0 prog w 0 (λ_=>true) true n 34 cs=some x):∃a:Wd,cs=P9 a/\Sl eU 1 w a.A a.xs/\∀u∈a.xs,0<=u/\u<18446744073709551616:=by
 match cs,b with
 | [v],_=>
  obtain⟨A,xs,c,rfl,_,_,h1,d⟩:=jD (enc:=eU) (λa=>(Lit.int .u64 a).wf=true) underlying34 (show prog.cellsOf 75=1 by kernel_rfl) aQ h (λcs x n hl h=>MT underlying75 cs x n hl h);exact⟨⟨A,c,xs⟩,rfl,h1,λu hu=>by have:=wf_u64 (d u hu);omega⟩
theorem Uq(cs:List aC)(x:DataW H×List MemPlace)(n:Nat)(b:cs.length=5)(h:DataW.trod enc0 prog w 0 (λ_=>true) true n 131 cs=some x):∃a:Tm,cs=pP a/\Sl lN 3 w a.A a.t.se:=by
 obtain⟨l,m0,t0⟩:=iU underlying131 h 0 _ rfl 0 3 rfl aV;obtain⟨m,m1,t1⟩:=iU underlying131 h 1 _ rfl 3 1 rfl aV;obtain⟨o,m2,t2⟩:=iU underlying131 h 2 _ rfl 4 1 rfl aV;match cs,b with
 | [q0,q1,q2,q3,q4],_=>
  simp only[afI,ae0,aeZ,afL] at t0 t1 t2;obtain⟨z0,n0,g⟩:=iU underlying122 t0 0 _ rfl 0 1 rfl aV;obtain⟨p,n1,i⟩:=iU underlying122 t0 1 _ rfl 1 1 rfl aV;obtain⟨z2,q,j⟩:=iU underlying122 t0 2 _ rfl 2 1 rfl aV;simp only[afI,ae0,aeZ,afL] at g i j;obtain⟨a0,d,_,_⟩:=DataW.trod_int underlying3 g;obtain⟨k,h1,_,_⟩:=DataW.trod_int underlying3 i;obtain⟨a2,e,_,_⟩:=DataW.trod_int underlying3 j;obtain⟨a4,f,_,_⟩:=DataW.trod_int underlying3 t2;injection d with d;injection h1 with h1;injection e with e;injection f with f;subst d h1 e f;obtain⟨A,se,c,rfl,_,_,s1,s2⟩:=jD (enc:=lN) P8 underlying129 (show prog.cellsOf 201=3 by kernel_rfl) aQ t1 Rk;exact⟨⟨⟨a0,k,a2,se,a4⟩,A,c⟩,rfl,s1⟩
theorem Vm(cs:List aC)(x:DataW H×List MemPlace)(n:Nat)(f:cs.length=12)(h:DataW.trod enc0 prog w 0 (λ_=>true) true n 44 cs=some x):∃a:Ac,cs=NG a/\sI (λb=>b<w.heap.size) w a:=by
 obtain⟨M,m0,t0⟩:=iU underlying44 h 0 _ rfl 0 1 rfl aV;obtain⟨N,m1,t1⟩:=iU underlying44 h 1 _ rfl 1 1 rfl aV;obtain⟨O,m2,t2⟩:=iU underlying44 h 2 _ rfl 2 1 rfl aV;obtain⟨P,m3,t3⟩:=iU underlying44 h 3 _ rfl 3 2 rfl aV;obtain⟨Q,m4,t4⟩:=iU underlying44 h 4 _ rfl 5 1 rfl aV;obtain⟨R,m5,t5⟩:=iU underlying44 h 5 _ rfl 6 1 rfl aV;obtain⟨S,m6,t6⟩:=iU underlying44 h 6 _ rfl 7 1 rfl aV;obtain⟨T,m7,t7⟩:=iU underlying44 h 7 _ rfl 8 4 rfl aV;match cs,f with
 | [q0,q1,q2,q3,q4,q5,q6,q7,q8,q9,q10,q11],_=>
  simp only[afI,ae0,aeZ,afL] at t0 t1 t2 t3 t4 t5 t6 t7;obtain⟨z0,n0,o⟩:=iU underlying32 t3 0 _ rfl 0 1 rfl aV;obtain⟨U,n1,p⟩:=iU underlying32 t3 1 _ rfl 1 1 rfl aV;obtain⟨z2,V,e⟩:=iU underlying42 t7 0 _ rfl 0 3 rfl aV;obtain⟨z3,W,q⟩:=iU underlying42 t7 1 _ rfl 3 1 rfl aV;simp only[afI,ae0,aeZ,afL] at o p e q;obtain⟨z4,X,r⟩:=iU underlying39 e 0 _ rfl 0 1 rfl aV;obtain⟨z5,n5,s⟩:=iU underlying39 e 1 _ rfl 1 1 rfl aV;obtain⟨Y,n6,y⟩:=iU underlying39 e 2 _ rfl 2 1 rfl aV;simp only[afI,ae0,aeZ,afL] at r s y;obtain⟨a0,g,_,_⟩:=DataW.trod_int underlying3 t0;obtain⟨G,h1,_,_⟩:=DataW.trod_int underlying3 t1;obtain⟨a2,i,_,I⟩:=DataW.trod_int underlying5 t2;obtain⟨a3,j,_,_⟩:=DataW.trod_int underlying3 o;obtain⟨a4,k,_,_⟩:=DataW.trod_int underlying3 p;obtain⟨a5,l,_,w5⟩:=DataW.trod_int underlying5 t5;injection g with g;injection h1 with h1;injection i with i;injection j with j;injection k with k;injection l with l;subst g h1 i j k l;have b2:=wf_u8 I;have Z:=wf_u8 w5;obtain⟨TA,ts,Tc,rfl,_,_,s1,s2⟩:=jD (enc:=pP) (λa=>Sl lN 3 w a.A a.t.se) underlying33 (show prog.cellsOf 131=5 by kernel_rfl) aQ t4 Uq;obtain⟨CA,cs',Cc,rfl,_,_,B,J⟩:=jD (enc:=eU) (λa=>(Lit.int .u64 a).wf=true) underlying34 (show prog.cellsOf 75=1 by kernel_rfl) aQ t6 (λcs x n hl h=>MT underlying75 cs x n hl h);obtain⟨RA,rs,Rc,rfl,_,_,C,s6⟩:=jD (enc:=eI) (λa=>(Lit.int .i64 a).wf=true) underlying35 (show prog.cellsOf 3=1 by kernel_rfl) aQ r (λcs x n hl h=>MT underlying3 cs x n hl h);obtain⟨WA,ws,Wc,rfl,_,_,D,s8⟩:=jD (enc:=mC) QN underlying36 (show prog.cellsOf 171=3 by kernel_rfl) aQ s Tf;obtain⟨XA,xs,Xc,rfl,_,_,E,c⟩:=jD (enc:=P9) (λa=>Sl eU 1 w a.A a.xs/\∀u∈a.xs,0<=u/\u<18446744073709551616) underlying37 (show prog.cellsOf 34=1 by kernel_rfl) aQ y Vw;obtain⟨QA,qs,Qc,rfl,_,_,d,K⟩:=jD (enc:=mC) P2 underlying40 (show prog.cellsOf 106=3 by kernel_rfl) aQ q Re;refine⟨⟨a0,G,a2,a3,a4,TA,Tc,ts,a5,CA,Cc,cs',RA,Rc,rs,WA,Wc,ws,XA,Xc,xs,QA,Qc,qs⟩,rfl,?_⟩;exact⟨s1,s1.fE lK aQ,λx F=>⟨s2 x F,(s2 x F).fE CS aQ⟩,B,B.fE yF aQ,λv L=>by have:=wf_u64 (J v L);omega,⟨C,C.fE gR aQ,D,D.fE uV aQ,E,E.fE Rh aQ,λz m=>⟨(c z m).1,(c z m).1.fE yF aQ,(c z m).2⟩⟩,d,d.fE uV aQ,(show 0<=a2/\a2<=255 by omega),(show 0<=a5/\a5<=255 by omega)⟩
end
end
end
section
open Go.RowKit Go.Lib Go.Shelf dL Fr Up Nt
variable{r:Option Nat}{A9 A5 A:Option aJ}{c9 n0 g n:Nat}{co pe de po:Int}{ss:List Sc}
section
structure vW(w0 wr:aA)(N:Nat)(A:Option aJ)(c:Nat)(L:List Tm):Prop where
 o:bH pP 5 wr w0.heap.size 125 A c L
 s:∀x∈L,Sl lN 3 wr x.A x.t.se/\x.t.se.length<=x.c/\∀q,aY x.A=some q->q<N/\∃cs,bF wr q 199 cs
 b:aD w0 w0 wr
 n:w0.heap.size<=N/\N<=wr.heap.size
section
variable{w0 wr w9:aA}{N:Nat}{A:Option aJ}{c:Nat}{L:List Tm}
theorem vW.below(h:vW w0 wr N A c L)(hb:aD wr wr w9):vW w0 w9 N A c L:=
 ⟨h.o.keep hb,λx a=>⟨(h.s x a).1.keep hb,(h.s x a).2.1,λq hq=>⟨((h.s x a).2.2 q hq).1,by obtain⟨cs,h1⟩:=((h.s x a).2.2 q hq).2;exact⟨cs,h1.keep hb⟩⟩⟩,h.b.trans (hb.mono (abX h.n.1 h.n.2)),h.n.1,abX h.n.2 hb.size⟩
theorem vW.up(h:vW w0 wr N A c L):vW w0 wr wr A c L:=
 ⟨h.o,λx a=>⟨(h.s x a).1,(h.s x a).2.1,λq hq=>⟨by obtain⟨cs,h1⟩:=((h.s x a).2.2 q hq).2;exact h1.lt,((h.s x a).2.2 q hq).2⟩⟩,h.b,abX h.n.1 h.n.2,abQ _⟩
theorem vW.grown(h:vW w0 wr N A c L)(d:wr.grownBy w9 r)(j:aY A=none\/aY A≠r)(k:∀q,r=some q->w0.heap.size<=q)(hs:∀x∈L,aY x.A=none\/aY x.A≠r):vW w0 w9 N A c L:=
 ⟨h.o.kept d j,λx a=>⟨(h.s x a).1.grown d λg f e=>by
  rcases hs x a with h1|h1
  .rw[h1] at e;cases e
  .exact h1 (e.trans f.symm),(h.s x a).2.1,λq hq=>⟨((h.s x a).2.2 q hq).1,by
  obtain⟨cs,h1⟩:=((h.s x a).2.2 q hq).2;exact⟨cs,h1.grown d λe=>by
   rcases hs x a with i|i
   .rw[i] at hq;cases hq
   .exact i (hq.trans e)⟩⟩⟩,LQ h.b d k,h.n.1,abX h.n.2 d.size⟩
theorem vW.app(h:vW w0 wr N A c L){x:Tm}(m:Sl lN 3 wr x.A x.t.se/\x.t.se.length<=x.c/\∀q,aY x.A=some q->q<wr.heap.size/\∃cs,bF wr q 199 cs)(d:bH pP 5 w9 w0.heap.size 125 A9 c9 (L++ [x]))(j:wr.grownBy w9 (aY A)):vW w0 w9 w9 A9 c9 (L++ [x]):=by
 have ne:∀y:Tm,(∀q,aY y.A=some q->∃cs,bF wr q 199 cs)->aY y.A=none\/aY y.A≠aY A:=λy a=>by
  cases hq:aY y.A with
  |none=>exact .inl rfl
  |some q=>
   refine .inr λe=>?_
   obtain⟨cs,h1⟩:=a q hq;obtain⟨cs',f⟩:=qP h.o q e.symm;exact RE h1 f cH rfl
 have key:∀y:Tm,(Sl lN 3 wr y.A y.t.se/\y.t.se.length<=y.c/\∀q,aY y.A=some q->q<wr.heap.size/\∃cs,bF wr q 199 cs)->Sl lN 3 w9 y.A y.t.se/\y.t.se.length<=y.c/\∀q,aY y.A=some q->q<w9.heap.size/\∃cs,bF w9 q 199 cs:=λy a=>by
  have n1:=ne y λq hq=>(a.2.2 q hq).2
  refine⟨a.1.grown j λg k e=>?_,a.2.1,λq hq=>?_⟩
  .rcases n1 with h1|h1
   .rw[h1] at e;cases e
   .exact h1 (e.trans k.symm)
  .obtain⟨h1,cs,f⟩:=a.2.2 q hq;have i:=f.grown j λe=>by
    rcases n1 with l|l
    .rw[l] at hq;cases hq
    .exact l (hq.trans e)
   exact⟨i.lt,cs,i⟩
 refine⟨d,λy a=>?_,LQ h.b j (λq hq=>(h.o.lt q hq).1),abX h.n.1 (abX h.n.2 j.size),abQ _⟩;rcases ab9.1 a with a|a
 .obtain⟨h1,f,i⟩:=h.s y a;exact key y ⟨h1,f,λq hq=>⟨abR (i q hq).1 h.n.2,(i q hq).2⟩⟩
 .rw[ab3.1 a];exact key x m
structure ND(w0 wr:aA)(n0 N g:Nat)(B:Option aJ)(d:Nat)(L:List Tm)(co pe de po:Int)(A5:Option aJ)(c5:Nat)(ss:List Sc):Prop where
 t:vW w0 wr n0 B d L
 k:bF wr g 125 #[co,pe,de,(A5,ss.length,c5),po]
 o:bH lN 3 wr N 199 A5 c5 ss
 bB:∀q,aY B=some q->q<n0
 ng:n0<=g/\g<N/\N<=wr.heap.size
theorem ND.below{c5:Nat}(h:ND w0 wr n0 N g A c L co pe de po A5 c5 ss)(hb:aD wr wr w9):ND w0 w9 n0 N g A c L co pe de po A5 c5 ss:=
 ⟨h.t.below hb,h.k.keep hb,h.o.keep hb,h.bB,h.ng.1,h.ng.2.1,abX h.ng.2.2 hb.size⟩
theorem ND.app{c5:Nat}{s:Sc}(h:ND w0 wr n0 N g A c L co pe de po A5 c5 ss)(b:bH lN 3 w9 N 199 A9 c9 (ss++ [s]))(f:wr.grownBy w9 (aY A5))(l:n=(ss++ [s]).length):(∃v,w9.cell? (g,3)=some v)/\w9.frozen? (g,3)=false/\ND w0 (w9.setCell (g,3) (.slice A9 n c9)) n0 N g A c L co pe de po A9 c9 (ss++ [s]):=by
 have d:∀q,aY A5=some q->N<=q:=λq hq=>(h.o.lt q hq).1
 have m:∀q,aY A9=some q->N<=q:=λq hq=>(b.lt q hq).1
 have ng:=h.ng;have i:bF w9 g 125 _:=h.k.grown f λe=>by have:=d g e.symm;omega
 have t9:vW w0 w9 n0 A c L:=h.t.grown f (by
  cases a:aY A with
  |none=>exact .inl rfl
  |some q=>exact .inr λe=>by have:=h.bB q a;have:=d q e.symm;omega) (λq hq=>by have:=d q hq;have:=h.t.n;omega) (λx j=>by
  cases a:aY x.A with
  |none=>exact .inl rfl
  |some q=>exact .inr λe=>by have:=((h.t.s x j).2.2 q a).1;have:=d q e.symm;omega)
 have gs:w9.grownBy (w9.setCell (g,3) (.slice A9 n c9)) (some g):=bC (bL _ _) 3 _;refine⟨⟨_,i.cell 3 _ rfl⟩,i.frozen 3,t9.grown gs ?_ (λq hq=>by injection hq with hq;have:=h.t.n;omega) (λx j=>?_),?_,b.kept gs ?_,h.bB,ng.1,ng.2.1,abX (abX ng.2.2 f.size) gs.size⟩
 .cases a:aY A with
  |none=>exact .inl rfl
  |some q=>exact .inr λe=>by injection e with e;have:=h.bB q a;omega
 .cases a:aY x.A with
  |none=>exact .inl rfl
  |some q=>exact .inr λe=>by injection e with e;have:=((h.t.s x j).2.2 q a).1;omega
 .have:=i.cB 3 (.slice A9 n c9);rw[l] at this⊢;exact this
 .cases a:aY A9 with
  |none=>exact .inl rfl
  |some q=>exact .inr λe=>by injection e with e;have:=m q a;omega
theorem vW.Uk(h:vW w0 wr N A c L):sR wr A L:=⟨h.o.sl lK,λx a=>(h.s x a).1,λx a=>(h.s x a).2.1⟩
end
def Xl(ts:List Tm)(w:aA)(r:aM)(w':aA):Prop:=∃(A':Option aJ) (c':Nat) (L:List Tm),r= .returned (.slice A' ts.length c')/\sR w' A' L/\L.map Tm.t=ts.map Tm.t/\aD w w w'
theorem WJ{ts:List Tm}(cT:Nat)(w:aA)(h:Sl pP 5 w A ts)(hs:∀x∈ts,Sl lN 3 w x.A x.t.se)(hl:ts.length<=100)(V:∀x∈ts,x.t.se.length<=100):
 aG prog 25 #[(A,ts.length,cT)] w (Xl ts w):=by
 have HS:=bO h hs;have h0:aH (vW w w w none 0 []):=⟨bH.nil _ _ _,λx hx=>(by cases hx),Below.refl _ _,abQ _,abQ _⟩
 clear h hs;go_enter func25,ntmps25
 go_wp2_with fail
 go_loopw [3,4] (λv3 v4 wr=>∃(i:Nat) (B:Option aJ) (d:Nat),v3= .slice B i d/\v4= .int .i64 i/\i<=ts.length/\aH (∃L,vW w wr wr B d L/\L.map Tm.t=(ts.take i).map Tm.t)) (λ_ v4 _=>ts.length - (aL v4).toNat)
 case atStart=>exact⟨0,none,0,rfl,rfl,ab0 _, [],h0.o,rfl⟩
 case round=>
  clear h0;obtain⟨i,B,d,rfl,rfl,hi,F⟩:=hrel;obtain⟨L,e,l⟩:=F.o;have G:L.length=i:=by have:=congrArg List.length l;simp at this;omega
  have H:=dE e l G;have i0:(0:Int)<=i:=aQ;by_cases p:i<ts.length
  .have i1:(i:Int)<(ts.length:Int):=aQ;obtain⟨b,off,rfl,hc⟩:=HS.o.1.cells p;have kR:aH (ts.take (i+1)=ts.take i++ [ts[i]]):=(acO p).symm;have M:aH (Sl lN 3 w ts[i].A ts[i].t.se/\ts[i].t.se.length<=100):=⟨HS.o.2 _ (abY p),V _ (abY p)⟩
   generalize ts[i]=x at *;obtain⟨⟨co,pe,de,se,po⟩,xA,xc⟩:=x;have HC:aH (w.cell? (b,off+i *5+3)=some (.slice xA se.length xc)):=hc 3 _ rfl;have c0:wr.cell? (b,off+i *5)=some (.int .i64 co):=bK e.b (hc 0 _ rfl);have c1:wr.cell? (b,off+i *5+1)=some (.int .i64 pe):=bK e.b (hc 1 _ rfl);have c2:wr.cell? (b,off+i *5+2)=some (.int .i64 de):=bK e.b (hc 2 _ rfl);have c4:wr.cell? (b,off+i *5+4)=some (.int .i64 po):=bK e.b (hc 4 _ rfl);have hse1:se.length<=100:=M.o.2;clear hc e l G F;go_upto_region 5 with(fail)
   have r:=bE c0;have u:=bE c1;have y:=bE c2;have z:=bE c4;refine bN (bP _) (λ_=>bP) [5] (λ_ v w=>FR (jA c0) 125 #[aU,aU,aU,bG,aU] v w) [12] [] 60 (bZ _) (λ_ _ _ h W=>bV h W) (λ_ d hd _ v w w' _ h W=>h.keep W) aV aV aZ ?_;repeat (first|(refine eK ?_)|(refine sF 5 [] aZ aZ aZ aZ (λγ w hC e=>?_) ?_;(simp only[cE];go_simp;exact pG (aX w _) ⟨_,rfl,Below.size hC,bF.new w _ _⟩);(try refine cI ?_)))
   refine dG ?_;intro γ w_ hb_ e;clear r u y z;simp only[cE,Act.put,abP,abV,abU];refine dS ?_;obtain⟨g5,e_,O,P⟩:=e 5 aT;simp only[e_];clear e e_;refine iP O hb_ P rfl 125 _ _ rfl #[co,pe,de,bG,po] rfl rfl rfl aV aV ?_;clear O hb_ P;intro w5 Q R;refine cY ?_;simp only[Act.put];have K:aH (ND w w5 wr w5.heap.size g5 B d L co pe de po none 0 []):=by
    obtain⟨h1,h2⟩:=R;exact⟨H.o.1.below Q,h2,bH.nil _ _ _,λq hq=>(H.o.1.o.lt q hq).2,h1,h2.lt,abQ _⟩
   have X:aH (aD w w w5):=K.o.t.b;clear c0 c1 c2 c4 Q R;generalize wr.heap.size=n0 at *;generalize w5.heap.size=N at *;go_wp2_with fail
   go_loopw [6] (λv6 wr=>∃k:Nat,v6= .int .i64 k/\k<=se.length/\aH (∃I c5,ND w wr n0 N g5 B d L co pe de po I c5 (se.take k))) (λv6 _=>se.length - (aL v6).toNat)
   case atStart=>exact⟨0,rfl,ab0 _,none,0,K.o⟩
   case round=>
    clear K X;obtain⟨k,rfl,hk,F⟩:=hrel;obtain⟨I,c5,a⟩:=F.o;have K:=aP a;have c3:wr.cell? (b,off+i *5+3)=some (.slice xA se.length xc):=bK a.t.b HC.o;have k0:(0:Int)<=k:=aQ;have C:(se.take k).length=k:=by rw[ac9];omega
    have g3:=a.k.cell 3 (.slice I (se.take k).length c5) rfl;rw[C] at g3;by_cases S:k<se.length
    .have k1:(k:Int)<(se.length:Int):=aQ;obtain⟨b3,f,rfl,D⟩:=(M.o.1.keep a.t.b).cells S;have Y:aH (se.take (k+1)=se.take k++ [se[k]]):=(acO S).symm;generalize se[k]=s at *;obtain⟨lk,fr,up⟩:=s;have s0:wr.cell? (b3,f+k *3)=some (.int .i64 lk):=D 0 _ rfl;have s1:wr.cell? (b3,f+k *3+1)=some (.int .i64 fr):=D 1 _ rfl;have s2:wr.cell? (b3,f+k *3+2)=some (.int .i64 up):=D 2 _ rfl;have T:=aP C;clear D a F C;go_upto_region 10 with(fail)
     have Z:=aP (K.o.below (aX wr (aI #[lk,fr,up] 201)));have U:=bF.new wr 201 #[lk,fr,up];have y0:=U.cell 0 lk rfl;have y1:=U.cell 1 fr rfl;have y2:=U.cell 2 up rfl;have g3':=bK (aX wr (aI #[lk,fr,up] 201)) g3;clear g3 c3 s0 s1 s2 U;generalize wr.alloc (aI #[lk,fr,up] 201)=w8 at *;go_wp2_with(refine bQ _ rfl (.tmp 44) (.tmp 52) rfl Vq CS (base:=N) (xs:=se.take k) (Z.o.o.alloc _) (n:=k) T.o rfl (m:=1) rfl (ys:= [⟨lk,fr,up⟩]) rfl (Sl.fH CS w8 ⟨lk,fr,up⟩ _ rfl _ aT) dN aQ (abX Z.o.ng.2.2 aT) _ rfl (k+1) rfl ?_;intro A9 c9 w9 g J at9;(obtain⟨b9,f9,HO9⟩:=(Z.o.below (aX w8 (aI #[lk,fr,up] 199))).app g J (n:=k+1) (by rw[ab6,T.o];rfl));obtain⟨b9v,b9⟩:=b9)
     exact⟨⟨k+1,rfl,aQ,A9,c9,by rw[Y.o];exact HO9⟩,by simp only[aL];omega⟩
    .obtain rfl:k=se.length:=aQ;have k1:¬(se.length:Int)<(se.length:Int):=aQ;rw[ad0] at a;have E:=aP a;have g0:=a.k.cell 0 co rfl;have g1:=a.k.cell 1 pe rfl;have g2:=a.k.cell 2 de rfl;have g4:=a.k.cell 4 po rfl;clear a K F C;go_wp2_with(refine bQ _ rfl (.tmp 55) (.tmp 57) rfl Ez lK (base:=w.heap.size) (xs:=L) (E.o.t.o.alloc _) (n:=i) H.o.2.2 rfl (m:=1) rfl (ys:= [⟨⟨co,pe,de,se,po⟩,I,c5⟩]) rfl (Sl.fH lK wr ⟨⟨co,pe,de,se,po⟩,I,c5⟩ _ rfl _ aT) dN aQ (abX E.o.t.n.1 (abX E.o.t.n.2 aT)) _ rfl (i+1) rfl ?_;intro A9 c9 w9 g J at9)
     have j:=E.o.below (aX wr (aI #[co,pe,de, .slice I se.length c5,po] 125));exact⟨⟨i+1,A9,c9,rfl,rfl,aQ,L++ [⟨⟨co,pe,de,se,po⟩,I,c5⟩],j.t.up.app ⟨j.o.sl CS,j.o.cap,λq hq=>⟨(j.o.lt q hq).2,qP j.o q hq⟩⟩ g J,by rw[kR.o,afE,afE,H.o.2.1];rfl⟩,by simp only[aL];omega⟩
  .obtain rfl:i=ts.length:=aQ;have i1:¬(ts.length:Int)<(ts.length:Int):=aQ;clear e l G F;go_wp2_with fail
   go_ret
   have h1:=H.o.2.1;rw[ad0] at h1;exact⟨B,d,L,rfl,H.o.1.Uk,h1,H.o.1.b⟩
end
theorem Nv(e:Int)(w:aA):aG prog 19 #[e] w λr w'=>r= .returned (.bool (decide (0<=e/\e<4)))/\w=w':=by
 by_cases h1:0<=e
 .by_cases a:e<4
  .have hd:decide (0<=e/\e<4)=true:=acF ⟨h1,a⟩;rw[hd];go_enter func19,ntmps19
   go_wp2_with fail
   go_ret
   exact⟨rfl,rfl⟩
  .have hd:decide (0<=e/\e<4)=false:=ab8 λh=>a h.2
   rw[hd];go_enter func19,ntmps19
   go_wp2_with fail
   go_ret
   exact⟨rfl,rfl⟩
 .have hd:decide (0<=e/\e<4)=false:=ab8 λh=>h1 h.1
  rw[hd];go_enter func19,ntmps19
  go_wp2_with fail
  go_ret
  exact⟨rfl,rfl⟩
theorem KH(w:aA)(c:Int)(hc:1<=c/\c<=64):aG prog 8 #[c] w λe w'=>∃hb m g p0,e= .returned (.pointer (some ⟨hb,0,none⟩))/\bY (λb=>b<w.heap.size) w' hb m g c (oX p0) sN/\aD w w w':=by
 have h:=aP (Ee w c hc);go_enter func8,ntmps8
 go_wp2_with fail
 refine aR h ?_;rintro r u ⟨hb,m,g,p0,rfl,f,d⟩;have c0:=f.c0;unfold pA at c0;obtain⟨G,a,hk,d0,_⟩:=f.kn;have i:=hk.pf;have j:=hk.pt;have k:=hk.pc;have l:=hk.pi;have n:=hk.pr;have p:=hk.pb;have q:=hk.ps;unfold pA at i j k l n p q;have s:=bO f d;clear f d hk h;go_wp2_with(first|(go_at_call 10;(refine aS (A7 c0) ?_);rintro x t ⟨rfl,rfl⟩)|(go_at_call 11;(refine aS (lR d0) ?_);rintro x t ⟨rfl,rfl⟩))
 go_ret
 exact⟨hb,m,g,p0,rfl,s.o⟩
variable{i:Nat}
section
variable{F:Nat->Prop}{w w0 w':aA}{hb m g:Nat}{c:Int}{k:Kv}{rs:List Rm}
def Wg(F:Nat->Prop)(hb m g:Nat)(c:Int)(k:Kv)(rs:List Rm)(i:Nat)(r:Pa.Cp.Tp×Nat×Pa.Cp.St)(w:aA)(e:aM)(w':aA):Prop:=e= .returned (.tuple #[.agg #[r.1.k,r.1.p, .int .u64 r.1.x],r.2.1])/\Pa.Cp.FX r.2.2.R/\∃L,(qH L/\L.length<=16/\Pa.Cp.nN L=Pa.Cp.nN k.t)/\bY F w' hb m g c {k with t:=L,f:=r.2.2.s} (F0 rs i r.2.2.R r.2.2.pc)/\Kp F w w'
theorem Gv(hi:i<rs.length):F0 rs i (bJ rs i).R (bJ rs i).pc=rs:=by
 unfold F0;rw[<-lS hi];exact List.set_getElem_self hi
theorem bY.tf(h:bY F w hb m g c k rs):w.cell? (g,1)=some (.pointer k.p.1)/\w.cell? (g,0)=some (.pointer k.p.2):=by
 obtain⟨G,a,hk,_⟩:=h.kn;have h1:=hk.pt;have b:=hk.pf;rw[hk.pp];exact⟨h1,b⟩
theorem Eh(h:bY F w hb m g c k rs)(hI:KI k n0)(hi:i<8)(e:Int)(n:Nat)(hn:n<=1000):
 aG prog 81 #[.pointer (some ⟨hb,2+i *15+5,none⟩), .slice (bJ rs i).cA (bJ rs i).C.length (bJ rs i).cc, .agg #[e, .pointer k.p.1, .pointer k.p.2],n] w
  (Wg F hb m g c k rs i (Pa.Cp.nH (Pa.Cp.nN k.t e) (bJ rs i).C n 0 ⟨(bJ rs i).R,(bJ rs i).pc,k.f⟩) w):=by
 have d:i<rs.length:=by rw[h.l8];exact hi
 obtain⟨Q,S⟩:=h.cdX d;obtain⟨G1,⟨bs,a,hA⟩,b1⟩:=h.st;obtain⟨G2,hk,b2⟩:=hA.kn;obtain⟨G3,hf,b3⟩:=hk.fr;obtain⟨G4,⟨A,ca,th,tm,B,D,E,L⟩,b4⟩:=hk.tb;have hp:=hk.pp;have e1:k.p.1=a.gt:=by rw[hp]
 have e2:k.p.2=a.gf:=by rw[hp]
 rw[e1,e2];have l:=h.bk;have n1:a.gt≠a.gf:=zO B.1 hf.m.at_ cH;have n2:a.gt≠hb:=zO B.1 l cH;have T:a.gf≠hb:=zO hf.m.at_ l cH;have n4:aY A≠some a.gf:=CV B.2 hf.m.at_ cH;have n5:aY A≠some hb:=CV B.2 l cH;have ok:=h.CE hi;have q:Pa.Cp.Mo (λb=>b<w.heap.size/\b≠a.gt/\b≠a.gf/\b≠hb/\aY A≠some b) w a.gt a.gf (Mh hb m c rs i) (Pa.Cp.nN k.t) ⟨(bJ rs i).R,(bJ rs i).pc,k.f⟩:=
  ⟨A,ca,k.t,th,tm,B,hf.m,by rw[Lm hb m c h.ok d,Gv d];exact l,ok.rg,by
   show 2+i *15+5<=(iE m c rs).size;have:=ab7.1 ((acH ..).symm ▸ (XG m c h.ok d (j:=5) aQ).trans (abO (by rw[pW (h.ok _ (abY d))];omega)));simpa using Nat.le_of_lt this.1,hI.tu,hI.tl,rfl,n1,n2,T,n4,n5,λb hb=>hb⟩
 have hc:Pa.Cp.Cd (λb=>b<w.heap.size/\b≠a.gt/\b≠a.gf/\b≠hb/\aY A≠some b) w (bJ rs i).cA (bJ rs i).C:=⟨by rw[<-lS d];exact Q,ok.cr,by have:=ok.cl;omega,λ_ b hb=>by
  rw[<-lS d] at hb;obtain⟨cs,M⟩:=S b hb;exact⟨M.lt,zO M B.1 cH,zO M hf.m.at_ cH,zO M l cH,CV B.2 M cH⟩⟩
 refine(Pa.Cp.Ve _ a.gt a.gf (Mh hb m c rs i) (bJ rs i).cA (bJ rs i).cc (bJ rs i).C e _ _ n w q hc hn).mono ?_;generalize Pa.Cp.nH (Pa.Cp.nN k.t e) (bJ rs i).C n 0 ⟨(bJ rs i).R,(bJ rs i).pc,k.f⟩=r;rintro v w' ⟨rfl,⟨A2,c2,L2,P,m2,q2⟩,kp⟩;have N:bF w' hb 139 (iE m c (F0 rs i r.2.2.R r.2.2.pc)):=by rw[<-Lm hb m c h.ok d];exact q2.cp
 have U:(F0 rs i r.2.2.R r.2.2.pc).length=rs.length:=ab5;have V:∀x∈F0 rs i r.2.2.R r.2.2.pc,p6 x:=λx W=>by
  rcases acW W with W|rfl
  .exact h.ok x W
  .exact⟨q2.rg,ok.cl,ok.cr⟩
 have jA:(iE m c (F0 rs i r.2.2.R r.2.2.pc)).size=(iE m c rs).toList.length:=by
  unfold iE NV;simp only[aeN,ab6,GF V,GF h.ok,U]
 have bA:=N.fill (iE m c rs).toList jA;have z:=fN hb (iE m c rs).toList 0 w' w' (bL w' hb);have X:=QX (w:=w') (g:=hb) 0 (iE m c rs).toList;rw[Array.toArray_toList] at bA;generalize w'.setCells hb 0 (iE m c rs).toList=o at *;have fA:bF o a.gf 150 (fc r.2.2.s).toArray:=q2.fm.at_.grown z (λe=>T (by injection e));have tA:=q2.tb.only z n2 q2.ac;have Y:(fc r.2.2.s).toArray.size=(fc k.f).length:=by
  simp[fc,q2.fm.t,q2.fm.b,hf.m.t,hf.m.b]
 have bB:=fA.fill (fc k.f) Y;have G:=fN a.gf (fc k.f) 0 o o (bL o a.gf);have Z:=QX (w:=o) (g:=a.gf) 0 (fc k.f);generalize o.setCells a.gf 0 (fc k.f)=wB at *;have tB:=tA.only G n1 q2.af;have k4:Kp G4 w wB:=⟨G.os.trans (z.os.trans kp.os),G.tape.trans (z.tape.trans kp.tape),G.output.trans (z.output.trans kp.output),abX kp.size (abX z.size G.size),λb H=>by
  have u:=D b H;have P:=abR u kp.size;have h3:=abR P z.size;by_cases K:b=a.gf
  .rw[K];exact bB.trans hf.m.at_.symm
  .by_cases I:b=hb
   .rw[I];exact(G.block hb (I ▸ h3) (λe=>T (by injection e with e;exact e.symm))).trans (bA.trans l.symm)
   .exact(G.block b h3 (λe=>K (by injection e))).trans ((z.block b P (λe=>I (by injection e))).trans (kp.block b ⟨u,λe=>E (e ▸ H),K,I,λe=>L b e H⟩))⟩
 obtain⟨x1,x2⟩:=b4 L2 wB ⟨A2,c2,P,m2,tB,D.kp k4,E,λb J hG=>by
  have u:=D b hG;by_cases K:b=a.gf
  .exact q2.af (by rw[J,K])
  .by_cases I:b=hb
   .exact q2.ac (by rw[J,I];rfl)
   .exact(q2.off b ⟨u,λe=>E (e ▸ hG),K,I,λe=>L b e hG⟩).2.2.2.2 J⟩ k4
 obtain⟨y1,y2⟩:=b2 a _ wB x1 x2;obtain⟨G5,hk5,b5⟩:=y1.kn;obtain⟨G6,y,b6⟩:=hk5.fr;have k6:Kp G6 wB o:=Kp.grown Z λb O=>⟨y.ol b O,λe=>y.nf (by injection e with e;exact e ▸ O)⟩
 obtain⟨z1,z2⟩:=b6 r.2.2.s o ⟨⟨q2.fm.n0,q2.fm.t,q2.fm.b,fA⟩,y.ol.kp k6,y.nf⟩ k6;obtain⟨u1,u2⟩:=b5 a _ o z1 z2;obtain⟨v1,v2⟩:=b1 _ o ⟨bs,a,u1⟩ (y2.trans u2);obtain⟨s1,s2⟩:=v1.Za hi {bJ rs i with R:=r.2.2.R,pc:=r.2.2.pc} ⟨q2.rg,ok.cl,ok.cr⟩ rfl rfl N X;exact⟨rfl,q2.rg,L2,⟨q2.D3,q2.len,q2.tt⟩,s1,v2.trans s2⟩
end
variable{k k':Kv}{e op D N E:Int}
section
theorem TX(k:Kv)(e:Int):(dQ k e).p=k.p:=by unfold dQ;split <;> rfl
theorem kB.p_{o:Int}(r:kB k o k'):k'.p=k.p:=by
 obtain⟨L,_,rfl⟩:=r;rfl
theorem gD.p_{l:List cP}(r:gD l k k'):k'.p=k.p:=by
 induction r with
 |nil k=>rfl
 |skip h r a=>exact a
 |fZ h r1 r a=>exact a.trans r1.p_
theorem lG.p_{A B C:Int}(r:lG k e op A B C D N E k'):k'.p=k.p:=by
 cases r with
 |alloc _=>
  unfold lI;split
  .rfl
  .split
   .rfl
   .split
    .rfl
    .split <;> rfl
 |free _ r=>
  unfold rO at r;split at r
  .rw[r.2]
  .exact r.2.p_
 |read _=>rfl
 |write _=>
  unfold oJ;split
  .rfl
  .split <;> rfl
 |load _=>
  unfold mR;split
  .rfl
  .split <;> rfl
 |zI _=>rfl
 |hand _ r=>
  unfold gU at r;split at r
  .rw[(af7 r).2]
  .split at r
   .split at r
    .rw[(af7 r).2]
    .rw[r.2]
   .split at r
    .unfold p5 at r;split at r
     .rw[r.2]
     .obtain⟨_,L,_,rfl⟩:=r;rfl
    .unfold wV at r;split at r
     .rw[r.2]
     .obtain⟨_,L,_,r⟩:=r;exact r.p_
 |line _=>rfl
 |qC _ _=>rfl
 |time _ r=>
  unfold mU at r;split at r
  .rw[r.2]
  .split at r
   .rw[r.2]
   .rcases r with r|r <;> rw[r]
 |send _ r=>
  rcases r with r|⟨o,r⟩
  .rw[r]
  .rw[r,TX]
 |next _ _=>rfl
 |null _=>rfl
theorem iN.p_{c:Int}{x:Int}(r:iN c e i x k N E k'):k'.p=k.p:=by
 unfold iN at r;split at r
 .rw[r.2.2]
 .split at r
  .rcases r with r|r
   .exact r.p_
   .rw[r.2.2]
  .rw[r.2.2]
inductive AA (t:Int->Option (Int×Bool)) (s:dK):dK->Prop
 |refl:AA t s s
 |put {s1:dK} (r:AA t s s1) (p f a v:Int) (h:t p=some (f,true)):AA t s (iV s1 f a v)
theorem AA.trans{t:Int->Option (Int×Bool)}{a b c:dK}(h:AA t a b)(d:AA t b c):AA t a c:=by
 induction d with
 |refl=>exact h
 |put r p f a v hp e=>exact .put e p f a v hp
theorem AA.n_{t:Int->Option (Int×Bool)}{a b:dK}(h:AA t a b):b.n=a.n/\b.T=a.T:=by
 induction h with
 |refl=>exact⟨rfl,rfl⟩
 |put r p f a v hp c=>
  unfold iV;split
  .exact c
  .exact c
open Pa.Cp in
theorem Sg{t:Int->Option (Int×Bool)}{s s':dK}{ad v:Int}(h:Pa.Cp.stM t s ad v= .ok s'):AA t s s':=by
 unfold Pa.Cp.stM KC at h;cases ht:t (ad /16) with
 |none=>rw[ht] at h;cases h
 |some q=>
  obtain⟨f,b⟩:=q;rw[ht] at h;simp only at h;cases b with
  |false=>simp at h
  |true=>
   simp only[ae1,and_false,acI] at h;split at h
   .injection h with h;rw[<-h];exact .put .refl (ad /16) f _ _ ht
   .cases h
open Pa.Cp in
theorem Uo{t:Int->Option (Int×Bool)}{i:In}{m:St}{q:St×Tp}(h:kT t i m= .ok q):AA t m.s q.1.s/\(q.2.k=1->∃a,q.2.x=rat q.1.R a):=by
 unfold kT at h;simp only at h;by_cases h0:i.op=0
 .rw[abS h0] at h;cases h
 rw[abT h0] at h;by_cases h1:i.op=1
 .rw[abS h1] at h;injection h with h;subst h;exact⟨.refl,λh=>by simp at h⟩
 rw[abT h1] at h;by_cases h2:i.op=12
 .rw[abS h2] at h;split at h
  .cases h
  .injection h with h;subst h;exact⟨.refl,λh=>by simp at h⟩
 rw[abT h2] at h;by_cases h3:i.op=13
 .rw[abS h3] at h;split at h
  .cases h
  .rename_i hs;injection h with h;subst h;exact⟨Sg hs,λh=>by simp at h⟩
 rw[abT h3] at h;by_cases h4:i.op=14
 .rw[abS h4] at h;injection h with h;subst h;exact⟨.refl,λh=>by simp at h⟩
 rw[abT h4] at h;by_cases h5:i.op=15
 .rw[abS h5] at h;injection h with h;subst h;exact⟨.refl,λh=>by simp at h⟩
 rw[abT h5] at h;by_cases h6:i.op=16
 .rw[abS h6] at h;injection h with h;subst h;exact⟨.refl,λ_=>⟨i.a,rfl⟩⟩
 rw[abT h6] at h;by_cases h7:i.op=17
 .rw[abS h7] at h;injection h with h;subst h;exact⟨.refl,λh=>by simp at h⟩
 rw[abT h7] at h;by_cases h8:i.op=18
 .rw[abS h8] at h;split at h
  .cases h
  .injection h with h;subst h;exact⟨.refl,λh=>by simp at h⟩
 rw[abT h8] at h;split at h
 .cases h
 .injection h with h;subst h;exact⟨.refl,λh=>by simp at h⟩
open Pa.Cp in
theorem YZ{t:Int->Option (Int×Bool)}{ad:Int}{b:Bool}{z:Int×Int}(h:KC t ad b= .error z):z.1≠1:=by
 unfold KC at h;split at h
 .injection h with h;subst h;show(5:Int)≠1;decide
 .split at h
  .injection h with h;subst h;show(6:Int)≠1;decide
  .cases h
open Pa.Cp in
theorem Ud{t:Int->Option (Int×Bool)}{i:In}{m:St}{z:Int×Int}(h:kT t i m= .error z):z.1≠1:=by
 unfold kT at h;simp only at h;by_cases hc:i.op=0
 .rw[abS hc] at h;injection h with h;subst h;show(2:Int)≠1;decide
 rw[abT hc] at h;clear hc;by_cases hc:i.op=1
 .rw[abS hc] at h;cases h
 rw[abT hc] at h;clear hc;by_cases hc:i.op=12
 .rw[abS hc] at h;cases hl:IT t m.s (vU (rat m.R i.b) i.n) with
  |ok v=>rw[hl] at h;cases h
  |error y=>
   rw[hl] at h;injection h with h;subst h;unfold IT at hl;split at hl
   .rename_i hf;injection hl with hl;subst hl;exact YZ hf
   .split at hl
    .cases hl
    .injection hl with hl;subst hl;show(5:Int)≠1;decide
 rw[abT hc] at h;clear hc;by_cases hc:i.op=13
 .rw[abS hc] at h;cases hl:Pa.Cp.stM t m.s (vU (rat m.R i.b) i.n) (rat m.R i.a) with
  |ok v=>rw[hl] at h;cases h
  |error y=>
   rw[hl] at h;injection h with h;subst h;unfold Pa.Cp.stM at hl;split at hl
   .rename_i hf;injection hl with hl;subst hl;exact YZ hf
   .split at hl
    .cases hl
    .injection hl with hl;subst hl;show(5:Int)≠1;decide
 rw[abT hc] at h;clear hc;by_cases hc:i.op=14
 .rw[abS hc] at h;cases h
 rw[abT hc] at h;clear hc;by_cases hc:i.op=15
 .rw[abS hc] at h;cases h
 rw[abT hc] at h;clear hc;by_cases hc:i.op=16
 .rw[abS hc] at h;cases h
 rw[abT hc] at h;clear hc;by_cases hc:i.op=17
 .rw[abS hc] at h;cases h
 rw[abT hc] at h;clear hc;by_cases hc:i.op=18
 .rw[abS hc] at h;split at h
  .injection h with h;subst h;show(3:Int)≠1;decide
  .cases h
 rw[abT hc] at h;clear hc;split at h
 .injection h with h;subst h;show(4:Int)≠1;decide
 .cases h
open Pa.Cp in
theorem Hh(t:Int->Option (Int×Bool))(C:List Int)(m:St):AA t m.s (mG t C m).2.s/\((mG t C m).1.k=1->∃a,(mG t C m).1.x=rat (mG t C m).2.R a):=by
 unfold mG;split
 .exact⟨.refl,λh=>by simp at h⟩
 .split
  .exact⟨.refl,λh=>by simp at h⟩
  .rename_i i _;split
   .rename_i z hz;refine⟨.refl,λh=>?_⟩;exact absurd h (Ud hz)
   .rename_i q hq;exact Uo hq
open Pa.Cp in
theorem UT(t:Int->Option (Int×Bool))(C:List Int):∀(k n:Nat) (m:St),AA t m.s (nH t C k n m).2.2.s/\((nH t C k n m).1.k=1->n+1<=(nH t C k n m).2.1/\∃a,(nH t C k n m).1.x=rat (nH t C k n m).2.2.R a)
 |0,n,m=>⟨.refl,λh=>by simp[nH] at h⟩
 |k+1,n,m=>by
  have hs:=Hh t C m;unfold nH;split
  .have:=UT t C k (n+1) (mG t C m).2;exact⟨hs.1.trans this.1,λh=>⟨by have:=(this.2 h).1;omega,(this.2 h).2⟩⟩
  .split
   .exact⟨hs.1,λh=>⟨abQ _,hs.2 h⟩⟩
   .rename_i hne;exact⟨hs.1,λh=>absurd h hne⟩
end
variable{rs oa:List Rm}{j hb m q1:Nat}{R:List Int}{F F3:Nat->Prop}{w wr w6 wE wx:aA}
section
inductive lZ (e:Int) (k:Kv):Kv->Prop
 |refl:lZ e k k
 |run {k1:Kv} (r:lZ e k k1) (L:List En) (s:dK) (hL:qH L/\L.length<=16/\Pa.Cp.nN L=Pa.Cp.nN k1.t) (hs:AA (Pa.Cp.nN k1.t e) k1.f s):lZ e k {k1 with t:=L,f:=s}
 |Cu {k1 k2:Kv} (r:lZ e k k1) (l x N E:Int) (h:iN l e 0 x k1 N E k2):lZ e k k2
 |FI {k1:Kv} (r:lZ e k k1) (b:Bool):lZ e k {k1 with s:=jX k1.s e b}
 |tell {k1:Kv} (r:lZ e k k1):lZ e k (dQ k1 e)
theorem lZ.p_(r:lZ e k k'):k'.p=k.p:=by
 induction r with
 |refl=>rfl
 |run r L s d hs a=>exact a
 |Cu r l x N E h a=>rw[h.p_,a]
 |FI r b a=>exact a
 |tell r a=>rw[TX,a]
structure wI(rs rs':List Rm)(i:Nat):Prop where
 l:∀j,(bJ rs' j).l=(bJ rs j).l
 g:∀j,(bJ rs' j).g=(bJ rs j).g
 sn:∀j,(bJ rs' j).sn=(bJ rs j).sn
 C:∀j,(bJ rs' j).C=(bJ rs j).C
 ru:∀j,j≠i->(bJ rs' j).ru=(bJ rs j).ru
 cA:(bJ rs' i).cA=(bJ rs i).cA
 cc:(bJ rs' i).cc=(bJ rs i).cc
theorem wI.refl(rs:List Rm)(i:Nat):wI rs rs i:=⟨λ_=>rfl,λ_=>rfl,λ_=>rfl,λ_=>rfl,λ_ _=>rfl,rfl,rfl⟩
theorem wI.set(h:wI rs oa i)(hi:i<oa.length)(R:List Int)(p:Int)(b:Bool):wI rs (oa.set i {bJ oa i with R:=R,pc:=p,ru:=b}) i:=by
 refine⟨λj=>?_,λj=>?_,λj=>?_,λj=>?_,λj a=>?_,?_,?_⟩;iterate 4
  by_cases e:i=j
  .subst e;rw[mA hi];first|exact h.l i|exact h.g i|exact h.sn i|exact h.C i
  .rw[vZ e];first|exact h.l j|exact h.g j|exact h.sn j|exact h.C j
 .rw[vZ (aeF a)];exact h.ru j a
 .rw[mA hi];exact h.cA
 .rw[mA hi];exact h.cc
theorem T7(r:Rm)(h:r.R.length=8)(a:j<8)(v:Int):gF {r with R:=r.R.set j v}=(gF r).set (5+j) (.int .u64 v):=by
 unfold gF;rw[acA _ _ aT,adV _ _ (by simp[h];omega),adS];simp
theorem GW(h:Pa.Cp.FX R)(j:Nat){v:Int}(b:0<=v/\v<18446744073709551616):Pa.Cp.FX (R.set j v):=⟨by rw[ab5];exact h.1,λx a=>by
 rcases acW a with a|rfl
 .exact h.2 x a
 .exact b⟩
theorem bY.Yu{c:Int}(h:bY F w hb m g c k rs)(hi:i<8)(x y:Int)(a:0<=x/\x<18446744073709551616)(b:0<=y/\y<18446744073709551616):bY F ((w.setCell (hb,2+i *15+5) (.int .u64 x)).setCell (hb,2+i *15+5+1) (.int .u64 y)) hb m g c k (rs.set i {bJ rs i with R:=((bJ rs i).R.set 0 x).set 1 y,pc:=(bJ rs i).pc,ru:=(bJ rs i).ru})/\Kp F w ((w.setCell (hb,2+i *15+5) (.int .u64 x)).setCell (hb,2+i *15+5+1) (.int .u64 y)):=by
 have hl:i<rs.length:=by rw[h.l8];exact hi
 have ok:=h.CE hi;have r1:=GW ok.rg 0 a;obtain⟨d,a2⟩:=h.XJ hi (j:=5) aQ (.int .u64 x) {bJ rs i with R:=(bJ rs i).R.set 0 x} (T7 _ ok.rg.1 (j:=0) aQ x) ⟨r1,ok.cl,ok.cr⟩ rfl rfl;have e:bJ (rs.set i {bJ rs i with R:=(bJ rs i).R.set 0 x}) i={bJ rs i with R:=(bJ rs i).R.set 0 x}:=mA hl _;obtain⟨b1,b2⟩:=d.XJ hi (j:=6) aQ (.int .u64 y) {bJ rs i with R:=((bJ rs i).R.set 0 x).set 1 y} (by rw[e];exact T7 {bJ rs i with R:=(bJ rs i).R.set 0 x} r1.1 (j:=1) aQ y) ⟨GW r1 1 b,ok.cl,ok.cr⟩ (by rw[e];rfl) (by rw[e];rfl);rw[List.set_set] at b1;exact⟨b1,a2.trans b2⟩
def Wn(F:Nat->Prop)(hb m g:Nat)(c:Int)(k:Kv)(rs:List Rm)(i:Nat)(n0:Nat)(w:aA)(e:aM)(w':aA):Prop:=∃(s x y z:Int) (k':Kv) (rs':List Rm),e= .returned (.tuple #[s, .agg #[x,y, .int .u64 z]])/\lZ i k k'/\KI k' (n0+40)/\wI rs rs' i/\bY F w' hb m g c k' rs'/\Kp F w w'
section
variable{F:Nat->Prop}{w w0 w':aA}{hb m g:Nat}{c:Int}{k:Kv}{rs:List Rm}
theorem oU(W:aA)(p:aJ):W.drew.cell? p=W.cell? p:=rfl
theorem aaB{o:Obj}(h:bY (Nw F3 wr wr.drew) w6 hb m g c k rs/\Kp (Nw F3 wr wr.drew) wr.drew w6):bY (Fb F3 w6) (w6.alloc o) hb m g c k rs/\Kp F3 wr (w6.alloc o)/\wr.heap.size<=w6.heap.size:=by
 have h1:bY F3 w6 hb m g c k rs:=h.1.less λb hb=> .inl hb
 exact⟨(bY.cM hb m g c k rs).box h1 h1.fl o,((Kp.refl F3 wr).drew.trans (h.2.mono λb hb=> .inl hb)).trans (h1.below (aX w6 o)).2,h.2.size⟩
theorem Zm{o:Obj}(fl:Ol F3 wr)(h:bY (Nw F3 wr (wr.alloc o).drew) w6 hb m g c k rs/\Kp (Nw F3 wr (wr.alloc o).drew) (wr.alloc o).drew w6)(a:w6.grownBy wE (some wr.heap.size)):bY (Fb F3 wr) wE hb m g c k rs/\Kp F3 wr wE/\wr.heap.size<=wr.heap.size:=by
 have d:Nw F3 wr (wr.alloc o).drew wr.heap.size:= .inr ⟨abQ _,(show wr.heap.size<(wr.alloc o).heap.size by simp)⟩;have f:(wr.alloc o).heap.size<=w6.heap.size:=h.2.size;have i:wr.heap.size<w6.heap.size:=abR aT f;refine⟨dV.gr (bY.cM hb m g c k rs) h.1 a (λq hq=>by injection hq with hq;exact hq ▸ d) (λb hb=>?_) (λb _ hb=>?_),((Kp.cD (aX wr o).drew fl).trans (h.2.mono λb hb=> .inl hb)).trans (Kp.grown a λb hb=>⟨by have:=fl b hb;omega,λe=>by injection e with e;have:=fl b hb;omega⟩),abQ _⟩
 .rcases hb with hb|rfl
  .have:=fl b hb;have:=a.size;omega
  .have:=a.size;omega
 .rcases hb with hb|rfl
  .exact .inl hb
  .exact d
theorem VM(a:∀b,F b->F3 b)(j:F3 q1)(hq:∀b,F b->b≠q1)(kw:Kp F w wr)(h:bY F3 wx hb m g c k rs)(l:Kp F3 wr wx)(i:wx.grownBy wE (some q1)):bY F wE hb m g c k rs/\Kp F w wE:=by
 have f:∀b,F b->b<wx.heap.size:=λb hb=>h.fl b (a b hb)
 exact⟨dV.gr (bY.cM hb m g c k rs) h i (λq d=>by injection d with d;exact d ▸ j) (λb hb=>abR (f b hb) i.size) (λb _ hb=>a b hb),(kw.trans (l.mono a)).trans (Kp.grown i λb hb=>⟨f b hb,λe=>hq b hb (by injection e)⟩)⟩
theorem WG(h:bY F w hb m g c k rs)(hI:KI k n0)(hn:n0+40<999999)(hi:i<4)(l:Int)(hl: -100000<=l/\l<=100000):aG prog 47 #[.pointer hb,i,l] w (Wn F hb m g c k rs i n0 w):=by
 have hb1:=aX w (aI #[aU,aU,bD] 77);have bk:=bF.new w 77 #[aU,aU,bD];have hx:bY (Fb F w) (w.alloc (aI #[aU,aU,bD] 77)) hb m g c k rs:=(bY.cM hb m g c k rs).box h h.fl _;have H1:=aP (And.intro hx (h.below hb1).2);have HI:=aP hI;have HQ:aH (∀b,F b->b≠w.heap.size):=λb hb e=>by have:=h.fl b hb;omega
 have c0:(w.alloc (aI #[aU,aU,bD] 77)).cell? (hb,0)=some (.pointer m):=hx.c0;obtain⟨G0,a0,_,d0,_⟩:=hx.kn;obtain⟨t1,t0⟩:=hx.tf;have hp1:=aP (show k.p=(k.p.1,k.p.2) from rfl);generalize k.p.1=gt at *;generalize k.p.2=gf at *;have i0:(0:Int)<=i:=aQ;have i1:(i:Int)<8:=aQ;have i2:i<8:=aQ;clear h hx hI hb1;go_enter func47,ntmps47
 go_upto_region 1 with(fail)
 generalize w.alloc (aI #[aU,aU,bD] 77)=w1 at *;generalize w.heap.size=q1 at *;go_wp2_with(go_at_call 11;(refine aS (lR d0) ?_);rintro x w2 ⟨rfl,rfl⟩)
 go_cut [10] (λs10 wx=>∃q,s10= .pointer (some ⟨q,0,none⟩)/\w1.heap.size<=q/\bF wx q 241 #[i, .pointer gt, .pointer gf]/\aD w1 w1 wx)
 case first=>
  go_region_held3 (λW=>W.cell? (g,1)=some (.pointer gt)/\W.cell? (g,0)=some (.pointer gf)) (first|exact⟨t1,t0⟩|exact⟨bK (aX w1 _).drew t1,bK (aX w1 _).drew t0⟩|exact⟨bK (aX _ _) t1,bK (aX _ _) t0⟩|fail) (fail)
  all_goals
   go_wp2_with fail
   go_meet
   first
    |exact⟨_,rfl,abQ _,bF.new w1 _ _,aX w1 _⟩
    |exact⟨_,rfl,abQ _,(bF.new w1 _ _).drewN 1,(aX w1 _).drew⟩
 case rest=>
 obtain⟨I,rfl,hq10,bp,hbc⟩:=hcut;obtain⟨T,hF3⟩:∃T:Nat->Prop,T=λb=>Fb F q1 b\/b=I:=⟨_,rfl⟩
 have B:aH (bY T wc hb m g c k rs/\Kp F w wc/\(∀b,F b->T b)/\T q1/\T I):=by
  have h1:=dV.grow (bY.cM hb m g c k rs) H1.o.1 H1.o.1.fl hbc;subst hF3;exact⟨h1.less λb hb=>by
   rcases hb with hb|rfl
   .exact .inl hb
   .exact .inr ⟨hq10,bp.lt⟩,H1.o.2.trans ((H1.o.1.below hbc).2.unbox),λb hb=> .inl (.inl hb), .inl (.inr rfl), .inr rfl⟩
 have BP:=aP bp;have BK:aH (bF wc q1 77 #[aU,aU,bD]):=bk.keep hbc;clear hF3 bp bk hbc hq10 H1 c0 d0 t1 t0;go_wp2_with fail
 go_loopw [2,11] (λv2 v11 wr=>∃(j:Nat) (lv:Int) (O:Kv) (d:List Rm),j<=32/\v11= .int .i64 j/\v2= .int .i64 lv/\(-100000<=lv+j/\lv<=100000)/\aH (lZ i k O/\KI O (n0+j)/\wI rs d i/\bY T wr hb m g c O d/\Kp F w wr/\Kp T wc wr)) (λ_ v11 _=>32 - (aL v11).toNat)
 case atStart=>exact⟨0,l,k,rs,aQ,rfl,rfl,aQ, .refl,HI.o,wI.refl rs i,B.o.1,B.o.2.1,Kp.refl _ _⟩
 case round=>
  obtain⟨j,lv,O,d,hj,rfl,rfl,hlv,D⟩:=hrel;by_cases hlt:j<32
  .have h4:=D.o.2.2.2.1;have e4:=h4.Ky (n:=i) i2;have p0:=D.o.2.2.2.2.2.cell (BP.o.cell 0 _ rfl) B.o.2.2.2.2;have p1:=D.o.2.2.2.2.2.cell (BP.o.cell 1 _ rfl) B.o.2.2.2.2;have p2:=D.o.2.2.2.2.2.cell (BP.o.cell 2 _ rfl) B.o.2.2.2.2;simp only[aeV,ac5,ac0] at p0 p1 p2;have hsub:((32 - j:Nat):Int)=32 - (j:Int):=aQ;have HL:aH (∀W,aD wr wr W->aG prog 81 #[.pointer (some ⟨hb,2+i *15+5,none⟩), .slice (bJ d i).cA (bJ d i).C.length (bJ d i).cc, .agg #[i, .pointer gt, .pointer gf], .int .i64 (32 - (j:Int))] W λr w'=>∃(K pp G:Int) (n:Nat) (M:Kv) (y:List Rm),r= .returned (.tuple #[.agg #[K,pp, .int .u64 G],n])/\aH (j+n<=32/\(K=1->1<=n/\0<=G/\G<18446744073709551616))/\aH (lZ i k M/\KI M (n0+j)/\wI rs y i)/\bY (Nw T wr W) w' hb m g c M y/\Kp (Nw T wr W) W w'/\w'.cell? (hb,2+i *15+4)=some (.slice (bJ d i).cA (bJ d i).C.length (bJ d i).cc)/\w'.cell? (I,0)=some (.int .i64 i)/\w'.cell? (I,1)=some (.pointer gt)/\w'.cell? (I,2)=some (.pointer gf)):=λW hW=>by
    have h5:=dV.grow (bY.cM hb m g c O d) h4 h4.fl hW;have hk1:O.p=(gt,gf):=D.o.1.p_.trans hp1.o;have hr:=Eh h5 D.o.2.1 i2 i (32 - j) aQ;rw[hk1,hsub] at hr;refine hr.mono ?_;rintro r w' ⟨rfl,hR,L,hL,h6,J⟩;have hle:=Pa.Cp.U0 (Pa.Cp.nN O.t i) (bJ d i).C (32 - j) 0 ⟨(bJ d i).R,(bJ d i).pc,O.f⟩;have hch:=UT (Pa.Cp.nN O.t i) (bJ d i).C (32 - j) 0 ⟨(bJ d i).R,(bJ d i).pc,O.f⟩;generalize Pa.Cp.nH (Pa.Cp.nN O.t i) (bJ d i).C (32 - j) 0 ⟨(bJ d i).R,(bJ d i).pc,O.f⟩=z at *;have hl1:i<d.length:=by rw[h4.l8];exact i2
    have hcr:wI rs (F0 d i z.2.2.R z.2.2.pc) i:=by
     have:=D.o.2.2.1.set hl1 z.2.2.R z.2.2.pc (bJ d i).ru;exact this
    have e6:=h6.Ky (n:=i) i2;unfold F0 at e6;rw[mA hl1] at e6;have U:=D.o.2.1;refine⟨_,_,_,z.2.1,_,_,rfl,⟨aQ,λhk=>?_⟩,⟨.run D.o.1 L _ hL hch.1,⟨U.sd,U.p4,U.cn,hL.2.1,hL.1,U.bb,U.bu,hch.1.n_.1.trans U.f6,U.an⟩,hcr⟩,h6,J,e6,J.cell (bK hW p0) (.inl B.o.2.2.2.2),J.cell (bK hW p1) (.inl B.o.2.2.2.2),J.cell (bK hW p2) (.inl B.o.2.2.2.2)⟩;obtain⟨q1,a,q2⟩:=hch.2 hk;rw[q2];exact⟨aQ,Pa.Cp.GO hR a⟩
   generalize (bJ d i).cA=cA at *;generalize (bJ d i).C.length=cl at *;generalize (bJ d i).cc=cc at *;have HBA:aH (∀o,aD wr wr (wr.alloc o).drew):=λo=>(aX wr o).drew
   have hgA:hb≠wr.heap.size:=by have:=h4.bk.lt;omega
   have hqA:I≠wr.heap.size:=by have:=World.block_lt_of_cell? wr _ p0;simp only at this;omega
   have j1:(j:Int)<32:=aQ;have HF3:aH (Ol T wr):=h4.fl;have hwr:IntKind.i64.wrap (32 - (j:Int))=32 - (j:Int):=by rw[IntKind.wrap_i64];omega
   clear h4 hsub hlt hj;go_upto_region 6 with(fail)
   go_cut [12,13] from 36 to 112 (λs12 s13 wx=>∃(A:Nat) (K pp G:Int) (n:Nat) (M:Kv) (y:List Rm),s12= .pointer A/\s13= .int .i64 n/\aH (j+n<=32/\(K=1->1<=n/\0<=G/\G<18446744073709551616))/\aH (lZ i k M/\KI M (n0+j)/\wI rs y i)/\aH (bF wx A 77 #[K,pp, .int .u64 G])/\aH (bY (Fb T A) wx hb m g c M y/\Kp T wr wx/\wr.heap.size<=A))
   case first=>
    go_region_held3 (λW=>W.cell? (hb,2+i *15+4)=some (.slice cA cl cc)/\W.cell? (I,0)=some (.int .i64 i)/\W.cell? (I,1)=some (.pointer gt)/\W.cell? (I,2)=some (.pointer gf)) (first|with_reducible exact⟨‹_›,‹_›,‹_›,‹_›⟩|exact⟨by simp only[dP hgA,dP hgB];with_reducible assumption,by simp only[dP hqA,dP hqB];with_reducible assumption,by simp only[dP hqA,dP hqB];with_reducible assumption,by simp only[dP hqA,dP hqB];with_reducible assumption⟩|exact⟨bK (aX wr _).drew e4,bK (aX wr _).drew p0,bK (aX wr _).drew p1,bK (aX wr _).drew p2⟩|exact⟨bK (aX _ _) e4,bK (aX _ _) p0,bK (aX _ _) p1,bK (aX _ _) p2⟩|exact⟨bK (aX _ _) ‹_›,bK (aX _ _) ‹_›,bK (aX _ _) ‹_›,bK (aX _ _) ‹_›⟩|exact⟨e4,p0,p1,p2⟩|fail) ((go_at_call 81;first|((refine aS (HL.o _ (Below.refl _ _).drew) ?_);rintro r P ⟨K,pp,G,n,M,y,rfl,HK,u,h6,J,e6,z0,z1,z2⟩;(have hgB:hb≠P.heap.size:=by have:=h6.bk.lt;omega);(have hqB:I≠P.heap.size:=by have:=World.block_lt_of_cell? P _ z0;simp only at this;omega);(have HM6:=bO h6 J);clear h6 J)|((refine aS (HL.o _ (HBA.o _)) ?_);rintro r P ⟨K,pp,G,n,M,y,rfl,HK,u,h6,J,e6,z0,z1,z2⟩;(have zb:bF P wr.heap.size 77 #[aU,aU,bD]:=J.aY (bF.new wr 77 #[aU,aU,bD]) (.inr ⟨abQ _,(show wr.heap.size<(wr.alloc (aI #[aU,aU,bD] 77)).heap.size by simp)⟩));(have ZB:=aP zb);(have Q:=zb.cell 0 _ rfl);(have Z:=zb.cell 1 _ rfl);(have S:=zb.cell 2 _ rfl);(have f0:=zb.frozen 0);(have f1:=zb.frozen 1);(have f2:=zb.frozen 2);(have HM6:=bO h6 J);(have hgB:=hgA);(have hqB:=hqA);clear zb h6 J)|fail))
    all_goals
     go_wp2_with fail
     go_meet
     first
      |exact⟨_,K,pp,G,n,M,y,rfl,rfl,HK,u,bF.new P _ _,aaB HM6.o⟩
      |exact⟨_,K,pp,G,n,M,y,rfl,rfl,HK,u,((ZB.o.cB 0 _).cB 1 _).cB 2 _,Zm HF3.o HM6.o (bC (bC (bC (bL _ _) 0 _) 1 _) 2 _)⟩
   case rest=>
   obtain⟨A,K,pp,G,n,M,y,rfl,rfl,HK,u,ZT,HX⟩:=hcut;have a1:aH (bY T _ hb m g c M y):=HX.o.1.less λb hb=> .inl hb
   have V:=HX.o.2.1.aY (D.o.2.2.2.2.2.aY BK.o B.o.2.2.2.1) B.o.2.2.2.1;have Q:=ZT.o.cell 0 _ rfl;have Z:=ZT.o.cell 1 _ rfl;have S:=ZT.o.cell 2 _ rfl;have b0:=V.cell 0 _ rfl;have b1:=V.cell 1 _ rfl;have b2:=V.cell 2 _ rfl;have f0:=V.frozen 0;have f1:=V.frozen 1;have f2:=V.frozen 2;have n0':(0:Int)<=n:=aQ;have hjn:=HK.o.1;have n1':(j:Int)+(n:Int)<=32:=aQ;clear hjn e4 p0 p1 p2 HL HBA hgA hqA HF3 hwr;simp only[aeV,ac5,ac0] at Q Z S b0 b1 b2;by_cases e0:K=0
   .subst e0;go_wp2_with fail
    exact bodyPost_ret (v:= .tuple #[.int .i64 ((j:Int)+n), .agg #[aU,aU,bD]]) (by simp[results,results47,go_sem, *]) rfl ⟨_,0,0,0,M,y,rfl,u.o.1,u.o.2.1.mono aQ,u.o.2.2,VM B.o.2.2.1 B.o.2.2.2.1 HQ.o D.o.2.2.2.2.1 a1.o HX.o.2.1 (bC (bC (bC (bL _ _) 0 _) 1 _) 2 _)⟩
   .have hl2:i<y.length:=by rw[a1.o.l8];exact i2
    by_cases e2:K=2
    .subst e2;have g14:=a1.o.WE (n:=i) i2;have fz14:=a1.o.fz (2+i *15+14);have HS:=aP (HX.o.1.XH (i:=i) i2 false);have X:A≠q1:=by have:=(D.o.2.2.2.2.2.aY BK.o B.o.2.2.2.1).lt;have:=HX.o.2.2;omega
     obtain⟨G4,gs,hs,d0,d6,back⟩:=HS.o.1.sd;have HRd:=aP (xI hs u.o.2.1.p8 i false);have HB:=aP (λs' w' h k=>(back s' w' h k).1);go_upto_region 20 with(fail)
     generalize wc.setCell (hb,2+i *15+14) (.bool false)=w5 at *;clear Q Z S b0 b1 b2 f0 f1 f2 g14 fz14 hs back;go_wp2_with fail
     refine aR HRd ?_;rintro r P ⟨rfl,hs6,J⟩;have Y:=aP (HB.o _ _ hs6 J);have K6:=aP (HS.o.2.trans Y.o.2);have zt:=K6.o.aY ZT.o (.inr rfl);have bq:=K6.o.aY V (.inl B.o.2.2.2.1);have Q:=zt.cell 0 _ rfl;have Z:=zt.cell 1 _ rfl;have S:=zt.cell 2 _ rfl;have b0:=bq.cell 0 _ rfl;have b1:=bq.cell 1 _ rfl;have b2:=bq.cell 2 _ rfl;have f0:=bq.frozen 0;have f1:=bq.frozen 1;have f2:=bq.frozen 2;simp only[aeV,ac5,ac0] at Q Z S b0 b1 b2;clear hs6 J HRd HB d0 d6;go_upto_region 21 with(fail)
     go_region_held3 (λW=>W.cell? (A,0)=some (.int .i64 2)/\W.cell? (A,1)=some (.int .i64 pp)/\W.cell? (A,2)=some (.int .u64 G)) (first|exact⟨Q,Z,S⟩|exact⟨by simp only[oU,dP X];exact Q,by simp only[oU,dP X];exact Z,by simp only[oU,dP X];exact S⟩|exact⟨‹_›,‹_›,‹_›⟩|fail) (fail)
     all_goals go_wp2_with fail
     have H:=bC (bC (bC (bL P q1) 0 (.int .i64 2)) 1 (.int .i64 pp)) 2 (.int .u64 G);have HE:=aP (VM B.o.2.2.1 B.o.2.2.2.1 HQ.o D.o.2.2.2.2.1 (Y.o.1.less λb hb=> .inl hb) (HX.o.2.1.trans (K6.o.mono λb hb=> .inl hb)) (wE:=(((P.setCell (⟨q1,0,none⟩) (.int .i64 2)).setCell (⟨q1,1,none⟩) (.int .i64 pp)).setCell (⟨q1,2,none⟩) (.int .u64 G)).drew) ⟨H.os,H.tape,H.output,H.size,H.block⟩);have HKI:aH (KI {M with s:=jX M.s i false} (n0+40)):=(u.o.2.1.mono aQ).DZ (wG u.o.2.1.sd u.o.2.1.p4 i false).1 (wG u.o.2.1.sd u.o.2.1.p4 i false).2;exact bodyPost_ret (v:= .tuple #[.int .i64 ((j:Int)+n), .agg #[.int .i64 2,pp, .int .u64 G]]) (by simp[results,results47,go_sem,oU, *]) rfl ⟨_,_,_,_,_,_,rfl, .FI u.o.1 false,HKI.o,u.o.2.2.set hl2 (bJ y i).R (bJ y i).pc false,HE.o⟩
    .by_cases e1:K=1
     .subst e1;obtain⟨hn1,hx0,hx1⟩:=HK.o.2 rfl;have HAs:=aP (Ey HX.o.1 u.o.2.1 aQ (i:Int) G lv ⟨hx0,hx1⟩);clear hx0 hx1 b0 b1 b2 f0 f1 f2;go_wp2_with fail
      refine aR HAs ?_;rintro r P ⟨N,E,k3,hW,hN,rfl,h6,J⟩;have Y:=bO h6 J;clear h6 J HAs Q Z S;go_upto_region 16 with(fail)
      have g0:∃v,P.cell? (hb,2+i *15+5)=some v:=⟨_,Y.o.1.RX (n:=i) i2 (j:=5) aQ (abO (by rw[pW (Y.o.1.CE i2)];omega))⟩
      have g1:∃v,P.cell? (hb,2+i *15+5+1)=some v:=⟨_,Y.o.1.RX (n:=i) i2 (j:=6) aQ (abO (by rw[pW (Y.o.1.CE i2)];omega))⟩
      obtain⟨v0,g0⟩:=g0;obtain⟨v1,g1⟩:=g1;have z0:=Y.o.1.fz (2+i *15+5);have z1:=Y.o.1.fz (2+i *15+5+1);go_region_held3 (λ_=>True) (exact trivial) (fail)
      have HG:=aP (Y.o.1.Yu (i:=i) i2 N (IntKind.u64.wrap E) hN ⟨by rw[IntKind.wrap_u64];omega,by rw[IntKind.wrap_u64];omega⟩);have hlw:IntKind.i64.wrap (lv - 1)=lv - 1:=by rw[IntKind.wrap_i64];omega
      generalize (P.setCell (hb,2+i *15+5) (.int .u64 N)).setCell (hb,2+i *15+5+1) (.int .u64 (IntKind.u64.wrap E))=w7 at *;clear g0 g1 z0 z1;go_wp2_with fail
      have hd:=HG.o.1.below (Below.refl w7 w7).drew;have O:Kp T wr w7.drew:=HX.o.2.1.trans (((Y.o.2.trans HG.o.2).trans hd.2).mono λb hb=> .inl hb);refine⟨⟨j+n,lv - 1,k3,_,aQ,rfl,rfl,aQ, .Cu u.o.1 lv G N E hW,(hW.ki u.o.2.1).mono aQ,u.o.2.2.set hl2 _ (bJ y i).pc (bJ y i).ru,hd.1.less λb hb=> .inl hb,D.o.2.2.2.2.1.trans (O.mono B.o.2.2.1),D.o.2.2.2.2.2.trans O⟩,by simp only[aL];omega⟩
     .have e0':¬K=0:=e0;have g14:=a1.o.WE (n:=i) i2;have fz14:=a1.o.fz (2+i *15+14);have HS:=aP (HX.o.1.XH (i:=i) i2 false);have X:A≠q1:=by have:=(D.o.2.2.2.2.2.aY BK.o B.o.2.2.2.1).lt;have:=HX.o.2.2;omega
      obtain⟨G4,a4,hk4,d0,back⟩:=HS.o.1.kn;have HRd:=aP (uC hk4 u.o.2.1.p8 i 8 K G aQ);have HB:=aP (λk' w' h k=>back k' w' h k);go_upto_region 10 with(fail)
      generalize wc.setCell (hb,2+i *15+14) (.bool false)=w5 at *;clear Q Z S b0 b1 b2 f0 f1 f2 g14 fz14 hk4 back;have zt5:=HS.o.2.aY ZT.o (.inr rfl);have Q:=zt5.cell 0 _ rfl;have S:=zt5.cell 2 _ rfl;simp only[aeV,ac5,ac0] at Q S;go_wp2_with fail
      refine aR HRd ?_;rintro r P ⟨vv,rfl,hs6,J⟩;have Y:=aP (HB.o _ _ ⟨_,hs6⟩ J);have K6:=aP (HS.o.2.trans Y.o.2);clear Q S zt5;have zt:=K6.o.aY ZT.o (.inr rfl);have bq:=K6.o.aY V (.inl B.o.2.2.2.1);have Q:=zt.cell 0 _ rfl;have Z:=zt.cell 1 _ rfl;have S:=zt.cell 2 _ rfl;have b0:=bq.cell 0 _ rfl;have b1:=bq.cell 1 _ rfl;have b2:=bq.cell 2 _ rfl;have f0:=bq.frozen 0;have f1:=bq.frozen 1;have f2:=bq.frozen 2;simp only[aeV,ac5,ac0] at Q Z S b0 b1 b2;clear hs6 J HRd HB d0;go_upto_region 11 with(fail)
      go_region_held3 (λW=>W.cell? (A,0)=some (.int .i64 K)/\W.cell? (A,1)=some (.int .i64 pp)/\W.cell? (A,2)=some (.int .u64 G)) (first|exact⟨Q,Z,S⟩|exact⟨by simp only[oU,dP X];exact Q,by simp only[oU,dP X];exact Z,by simp only[oU,dP X];exact S⟩|exact⟨‹_›,‹_›,‹_›⟩|fail) (fail)
      all_goals go_wp2_with fail
      have H:=bC (bC (bC (bL P q1) 0 (.int .i64 K)) 1 (.int .i64 pp)) 2 (.int .u64 G);have HE:=aP (VM B.o.2.2.1 B.o.2.2.2.1 HQ.o D.o.2.2.2.2.1 (Y.o.1.less λb hb=> .inl hb) (HX.o.2.1.trans (K6.o.mono λb hb=> .inl hb)) (wE:=(((P.setCell (⟨q1,0,none⟩) (.int .i64 K)).setCell (⟨q1,1,none⟩) (.int .i64 pp)).setCell (⟨q1,2,none⟩) (.int .u64 G)).drew) ⟨H.os,H.tape,H.output,H.size,H.block⟩);have HKI:aH (KI (dQ M i) (n0+40)):=(u.o.2.1.mono aQ).tell i;exact bodyPost_ret (v:= .tuple #[.int .i64 ((j:Int)+n), .agg #[K,pp, .int .u64 G]]) (by simp[results,results47,go_sem,oU, *]) rfl ⟨_,_,_,_,_,_,rfl, .tell u.o.1,HKI.o,u.o.2.2.set hl2 (bJ y i).R (bJ y i).pc false,HE.o⟩
  .obtain rfl:j=32:=aQ;have V:=D.o.2.2.2.2.2.aY BK.o B.o.2.2.2.1;have b0:=V.cell 0 _ rfl;have b1:=V.cell 1 _ rfl;have b2:=V.cell 2 _ rfl;have f0:=V.frozen 0;have f1:=V.frozen 1;have f2:=V.frozen 2;simp only[aeV,ac5,ac0] at b0 b1 b2;go_wp2_with fail
   exact bodyPost_ret (v:= .tuple #[.int .i64 32, .agg #[aU,aU,bD]]) (by simp[results,results47,go_sem, *]) rfl ⟨_,0,0,0,O,d,rfl,D.o.1,D.o.2.1.mono aQ,D.o.2.2.1,VM B.o.2.2.1 B.o.2.2.2.1 HQ.o D.o.2.2.2.2.1 D.o.2.2.2.1 (Kp.refl _ _) (bC (bC (bC (bL _ _) 0 _) 1 _) 2 _)⟩
end
end
end
section
open Go.RowKit
end
section
open Go.RowKit Go.Lib Go.Shelf dL Fr Up Nt
structure kR(c:Int)(k:Kv)(rs:List Rm)(ws:List (Int×Int×Int))(xs:List Wd)(qs:List (Int×Int×Int))(rn:Rn)(D:List (Int×Int))(AS:List Int)(tk nu:Int)(nT:Nat)(k':Kv)(rs':List Rm):Prop where
 as_:AS=tP rs qs
 t:∃k2,tC {k with s:=jY k.s (gX rs qs) 8} c ws xs rn D k2/\((∃i:Nat,rn.env=i/\i<4/\(bJ (gX rs qs) i).ru=true/\lZ i k2 k'/\wI (iW (gX rs qs) rn.env 8) rs' i)\/((rn.env<0\/∃i:Nat,rn.env=i/\i<4/\(bJ (gX rs qs) i).ru=false)/\k'=k2/\rs'=iW (gX rs qs) rn.env 8))
 j:(tk,nu)=mN (gX rs qs) rn.env 8
 n:nT=(kS (gX rs qs) rn.env 8).length
def Kj(F:Nat->Prop)(hb m g:Nat)(c:Int)(k:Kv)(rs:List Rm)(n0 M:Nat)(ws:List (Int×Int×Int))(xs:List Wd)(qs:List (Int×Int×Int))(w:aA)(e:aM)(w':aA):Prop:=
 ∃(o:Ou) (D:List (Int×Int)) (AS:List Int) (k':Kv) (rs':List Rm),e= .returned (.tuple #[.agg (jV o).toArray,aU])/\kR c k rs ws xs qs o.rn D AS o.tk o.nu o.T.n k' rs'/\KI k' (n0+M+40)/\o.S.n=D.length/\o.A.n=AS.length/\
  bH vT 2 w' w.heap.size 227 o.S.A o.S.c D/\bH eI 1 w' 0 45 o.A.A o.A.c AS/\(∀b,aY o.A.A=some b->w.heap.size<=b)/\bY (cN (cN F o.S.A) o.A.A) w' hb m g c k' rs'/\Kp F w w'
variable{n0 nl cR cX cQ:Nat}{AR AW AX AQ:Option aJ}{ls:List Int}{ws qs:List (Int×Int×Int)}
section
variable{F:Nat->Prop}{w w0 w':aA}{hb m g:Nat}{c:Int}{k:Kv}{rs:List Rm}
theorem NY(h:bY F w hb m g c k rs){M:Nat}(hI:KI k n0)(hM:n0+M+40<999999/\M<=50000)(hc:1<=c/\c<=64)(hnw:k.s.nw<1048576){cW:Nat}{xs:List Wd}(O:CU F w AR ls AW ws AX xs)(hq:Sl mC 3 w AQ qs)(hqF:∀b,mM AQ qs.length=some b->F b)
 (hlr:ls.length<=1000/\ws.length<=1000/\xs.length<=1000) (hxM:∀z∈xs,z.xs.length<=M) (hL:oH rs nl k.s.nw) (hn:nl+qs.length<=2700):
 aG prog 16 #[.pointer hb, .agg #[(AR,ls.length,cR),(AW,ws.length,cW),(AX,xs.length,cX),(AQ,qs.length,cQ)]] w (Kj F hb m g c k rs n0 M ws xs qs w):=by
 have hb1:=aX w (aI #[(AR,ls.length,cR),(AW,ws.length,cW),(AX,xs.length,cX),(AQ,qs.length,cQ)] 87);have hb2:=hb1.alloc hb1.size (aI (jV (sW 0)).toArray 79);have hz2:((w.alloc (aI #[(AR,ls.length,cR),(AW,ws.length,cW),(AX,xs.length,cX),(AQ,qs.length,cQ)] 87)).alloc (aI (jV (sW 0)).toArray 79)).heap.size=w.heap.size+1+1:=aT;have ib:=(bF.new w 87 #[(AR,ls.length,cR),(AW,ws.length,cW),(AX,xs.length,cX),(AQ,qs.length,cQ)]).keep (aX _ (aI (jV (sW 0)).toArray 79));have rb:=bF.fH (w.alloc (aI #[(AR,ls.length,cR),(AW,ws.length,cW),(AX,xs.length,cX),(AQ,qs.length,cQ)] 87)) 79 (jV (sW 0)).toArray (g:=w.heap.size+1) aT;have HIn:=dE O hq hqF;have HKI:=dE hI hM.1 hxM;have HLb:=bO hL hn;have HB2:=aP hb2;have U:aH (bY (Gk F w) ((w.alloc (aI #[(AR,ls.length,cR),(AW,ws.length,cW),(AX,xs.length,cX),(AQ,qs.length,cQ)] 87)).alloc (aI (jV (sW 0)).toArray 79)) hb m g c k rs/\Kp F w ((w.alloc (aI #[(AR,ls.length,cR),(AW,ws.length,cW),(AX,xs.length,cX),(AQ,qs.length,cQ)] 87)).alloc (aI (jV (sW 0)).toArray 79))):=by
  refine⟨(dV.grow (bY.cM hb m g c k rs) h h.fl hb2).less λb hb=>?_,(h.below hb2).2⟩;rcases hb with hb|hb|hb
  .exact .inl hb
  .exact .inr ⟨aQ,aQ⟩
  .exact .inr ⟨aQ,aQ⟩
 have H8:=aP h.l8;have HNW:=aP hnw;have HMM:=aP hM.2;have HZ:aH (∀b,(F b\/b=w.heap.size\/b=w.heap.size+1)->b<w.heap.size+1+1):=λb hb=>by
  rcases hb with hb|rfl|rfl
  .have:=h.fl b hb;omega
  .omega
  .omega
 have HN1:aH (¬F w.heap.size/\¬F (w.heap.size+1)):=⟨λhb=>by have:=h.fl _ hb;omega,λhb=>by have:=h.fl _ hb;omega⟩
 have hin0:=ib.cell 3 (.slice AQ qs.length cQ) rfl;have HX2:=bO ib rb;simp only[jV,sW,IJ] at U hb2 hz2 HB2 HX2 hin0;obtain⟨l1,l2,l3⟩:=hlr;obtain⟨c1,c2⟩:=hc;clear h hb1 hb2 ib rb O hq hqF hI hM hL hn hxM;go_enter func16,ntmps16
 go_upto_region 1 with(fail)
 generalize ((w.alloc (aI #[(AR,ls.length,cR),(AW,ws.length,cW),(AX,xs.length,cX),(AQ,qs.length,cQ)] 87)).alloc (aI #[aU,false,bG,bG,bG,bG,aU,aU,bG,aU,aU,aU,bD] 79))=w2 at *;have c0:=U.o.1.c0;unfold pA at c0;obtain⟨G0,gs,hs,d0,d6,_⟩:=U.o.1.sd;have HNw:=aP (wO hs);clear hs;go_wp2_with(go_at_call 11;(refine aS (lR d0) ?_);rintro x w3 ⟨rfl,rfl⟩)
 refine aR HNw ?_;rintro x w3 ⟨rfl,rfl⟩;clear HNw;have HT:=aP (eC.start U.o.1 (-1));simp only[jV,sW,IJ] at HT;go_upto_region 7 with(fail)
 generalize w2.alloc (aI #[aU,false,bG,bG,bG,bG, .int .i64 (-1),aU,bG,aU,aU,aU,bD] 79)=w3 at *;have H3:aH (eC (Gk F w) w3 hb m g c k rs w2 (sW (-1)) [] []/\Kp (Gk F w) w2 w3):=HT.o;rw[hz2] at H3;have HK2:aH (Kp F w w2):=U.o.2;have hlw:w2.heap.size<=w3.heap.size:=H3.o.2.size;rw[hz2] at hlw;clear HT U hin0 c0 d0 d6 hz2 hnw HB2;generalize hq1:w.heap.size=q1 at *;have HQ1:=aP hq1;clear hq1;have HX3:aH (bF w3 q1 87 #[(AR,ls.length,cR),(AW,ws.length,cW),(AX,xs.length,cX),(AQ,qs.length,cQ)]/\bF w3 (q1+1) 79 #[aU,false,bG,bG,bG,bG,aU,aU,bG,aU,aU,aU,bD]):=⟨H3.o.2.aY HX2.o.1 (.inr (.inl rfl)),H3.o.2.aY HX2.o.2 (.inr (.inr rfl))⟩
 have HK3:aH (Kp F w w3):=HK2.o.trans (H3.o.2.mono λb hb=> .inl hb);have HIn3:aH (CU F w3 AR ls AW ws AX xs/\Sl mC 3 w3 AQ qs/\∀b,mM AQ qs.length=some b->F b):=⟨HIn.o.1.kp HK3.o,HIn.o.2.1.C0 HK3.o HIn.o.2.2,HIn.o.2.2⟩
 have HKF:aH (∀W W',Kp (Gk F q1) W W'->Kp F W W'):=λW W' h=>h.mono λb hb=> .inl hb
 have i3:=HX3.o.1.cell 3 (.slice AQ qs.length cQ) rfl;clear HX2 HIn HK2;go_wp2_with fail
 go_loopw [48] (λv48 wr=>∃i:Nat,v48= .int .i64 i/\i<=qs.length/\aH (∃A cA,eC (Gk F q1) wr hb m g c k (gX rs (qs.take i)) (q1+1+1) ((sW (-1)).sA ⟨A,i,cA⟩) (tP rs (qs.take i)) []/\Kp (Gk F q1) w3 wr/\∀b,aY A=some b->q1<=b)) (λv48 _=>qs.length - (aL v48).toNat)
 case atStart=>exact⟨0,rfl,ab0 _,none,0,H3.o.1,Kp.refl _ _,λb h=>by cases h⟩
 case round=>
  clear H3 i3;obtain⟨i,rfl,hi,HR⟩:=hrel;obtain⟨A,cA,hR,hkR,hnR⟩:=HR.o;have HR:=dE hR hkR hnR;by_cases O:i<qs.length
  .obtain⟨b,off,rfl,hc0,hc1,hc2⟩:=(HIn3.o.2.1.C0 (HKF.o _ _ hkR) HIn3.o.2.2).GD O;have j0:(0:Int)<=i:=aQ;have j1:(i:Int)<(qs.length:Int):=aQ;have HT:aH (qs.take (i+1)=qs.take i++ [qs[i]]):=(acO O).symm;generalize qs[i]=x at *;obtain⟨xe,xo,xg⟩:=x;simp only at hc0 hc1 hc2;have c5:=hR.bk.cell 5 (.slice A i cA) rfl;clear hR hkR hnR;go_upto_region 10 with(fail)
   have c6:(wr.alloc (aI #[xe,xo,xg] 126)).cell? (q1+1+1,5)=some (.slice A i cA):=bK (aX wr _) c5;have a6:=aP (bF.new wr 126 #[xe,xo,xg]);have y0:=a6.o.cell 0 xe rfl;have y1:=a6.o.cell 1 xo rfl;have y2:=a6.o.cell 2 xg rfl;have HBx:aH (aD wr wr (wr.alloc (aI #[xe,xo,xg] 126))):=aX wr _;have HLi:aH (∀x,(bJ (gX rs (qs.take i)) xe.toNat).l=some x->∃n,n<=2900/\kX x n):=λx hx=>by
    have:=HLb.o.1.asks (qs.take i) H8.o _ x hx;exact⟨_,by rw[ac9];have:=HLb.o.2;omega,this.1⟩
   clear hc0 hc1 hc2 c5 a6;generalize (wr.alloc (aI #[xe,xo,xg] 126))=wx at *;have HRs:aH (∀W,aD wx wx W->aG prog 42 #[.pointer hb, .agg #[xe,xo,xg]] W λr w'=>∃v:Int,r= .returned (.int .i64 v)/\aH (v=JL (gX rs (qs.take i)) xe xo xg/\eC (Gk F q1) w' hb m g c k (gX rs (qs.take (i+1))) (q1+1+1) ((sW (-1)).sA ⟨A,i,cA⟩) (tP rs (qs.take i)) []/\Kp (Gk F q1) w3 w')/\w'.cell? (q1+1+1,5)=some (.slice A i cA)/\∀o,(w'.alloc o).cell? (q1+1+1,5)=some (.slice A i cA)):=λW hW=>by
    have hbb:=HR.o.1.below (HBx.o.trans (hW.mono HBx.o.size));obtain⟨G,L,back⟩:=hbb.1.ho;refine(Kf L xe xo xg HLi.o).mono ?_;rintro r w' ⟨rfl,h2,C⟩;obtain⟨b1,b2⟩:=back _ _ w' h2 C;have this:=b1.bk.cell 5 (.slice A i cA) rfl;rw[HT.o,Ci];exact⟨_,rfl,⟨rfl,b1,HR.o.2.1.trans (hbb.2.trans b2)⟩,this,λo=>bK (aX w' o) this⟩
   have HDl:aH ((tP rs (qs.take i)).length=i):=(R1 _ _).trans (by rw[ac9];omega);have hil:i<=1000000:=by have:=HLb.o.2;omega
   clear HLi HBx;go_region_law (first|(refine kM _ rfl (.tmp 53) (.tmp 57) rfl Gx gR (base:=0) (xs:=tP rs (qs.take i)) (HR6.o.2.1.D8.alloc _) (n:=i) HDl.o rfl (m:=1) rfl (ys:= [v]) rfl (Sl.fH gR w6 v _ rfl _ aT) dN aQ (ab0 _) _ rfl (i+1) rfl ?_;intro A9 c9 w9 own9 hg9 at9;(obtain⟨b9,f9,HO9,HK9⟩:=(HR6.o.2.1.below (aX w6 (aI #[v] 45))).1.Gs own9 hg9 at9 (n:=i+1) (by rw[ab6,HDl.o];rfl));obtain⟨b9v,b9⟩:=b9)|(go_simp;(refine aS (HRs.o _ (Below.refl _ _).drew) ?_);rintro r w6 ⟨v,rfl,HR6,c36,c37⟩))
   all_goals (
    have HO:aH (eC (Gk F q1) (w9.setCell (q1+1+1,5) (.slice A9 (i+1) c9)) hb m g c k (gX rs (qs.take (i+1))) (q1+1+1) ((sW (-1)).sA ⟨A9,i+1,c9⟩) (tP rs (qs.take (i+1))) []/\Kp (Gk F q1) w3 (w9.setCell (q1+1+1,5) (.slice A9 (i+1) c9))/\∀b,aY A9=some b->q1<=b):=by
     refine⟨?_,HR6.o.2.2.trans ((HR6.o.2.1.below (aX w6 _)).2.trans HK9),λb hb=>?_⟩
     .have e:tP rs (qs.take (i+1))=tP rs (qs.take i)++ [v]:=by rw[HT.o,NI,HR6.o.1]
      rw[e];exact HO9
     .rcases at9 with e|e
      .exact HR.o.2.2 b (e.symm.trans hb)
      .rw[e] at hb;injection hb with hb;have:=HR6.o.2.2.size;simp at hb;omega
    clear HO9 HK9 b9 f9 hg9 at9 own9 HR6 HRs c36 c37 c6 y0 y1 y2;generalize (w9.setCell (q1+1+1,5) (.slice A9 (i+1) c9))=w10 at *;clear w9;go_wp2_with fail
    exact⟨⟨i+1,rfl,aQ,A9,c9,HO.o⟩,by simp only[aL];omega⟩)
  .have j1:¬(i:Int)<(qs.length:Int):=aQ;have hT:qs.take i=qs:=acC aQ;rw[hT] at hR HR;obtain rfl:i=qs.length:=aQ;obtain⟨f,hrs1⟩:∃r,r=gX rs qs:=⟨_,rfl⟩
   have HRS:=aP hrs1;have HL1:aH (oH f (nl+qs.length) k.s.nw/\f.length=8):=by rw[hrs1];exact⟨HLb.o.1.asks qs H8.o,(P5 _ _).trans H8.o⟩
   obtain⟨DA,hDA⟩:∃r,r=tP rs qs:=⟨_,rfl⟩
   have HDA:=aP hDA;rw[<-hrs1,<-hDA] at HR;have HLb2:aH (nl+qs.length<=2700):=HLb.o.2;clear hR hT hrs1 hDA O hi HLb;go_wp2_with fail
   go_loopw [61] (λv61 wr2=>∃j:Nat,v61= .int .i64 j/\j<=8/\aH (eC (Gk F q1) wr2 hb m g c {k with s:=jY k.s f j} f (q1+1+1) ((sW (-1)).sA ⟨A,qs.length,cA⟩) DA []/\Kp (Gk F q1) w3 wr2)) (λv61 _=>8 - (aL v61).toNat)
   case atStart=>exact⟨0,rfl,aQ,HR.o.1,HR.o.2.1⟩
   case round=>
    obtain⟨j,rfl,hj,U⟩:=hrel;by_cases hj8:j<8
    .obtain⟨G,L,_⟩:=U.o.1.ho;have r0:=L.OZ (n:=j) hj8;have jj0:(0:Int)<=j:=aQ;have jj1:(j:Int)<8:=aQ;cases hl:(bJ f j).l with
     |none=>
      have HE:aH (jY k.s f (j+1)=jY k.s f j):=by unfold aH;show(match(bJ f j).l with|none=>_|some x=>_)=_;rw[hl]
      rw[hl] at r0;simp only[xL,adP] at r0;clear L;go_wp2_with fail
      exact⟨⟨j+1,rfl,aQ,by rw[HE.o];exact U.o⟩,by simp only[aL];omega⟩
     |some x=>
      have HE:aH (jY k.s f (j+1)=jX (jY k.s f j) j (nB x).isSome):=by unfold aH;show(match(bJ f j).l with|none=>_|some x=>_)=_;rw[hl]
      have HLx:=HL1.o.1 j x hl;rw[hl] at r0;simp only[xL,acP] at r0;obtain⟨_,gs2,_,_,d6,_⟩:=L.sd;have HRd:aH (∀W,aD wr wr W->aG prog 44 #[.pointer (some ⟨(bJ f j).g,0,none⟩)] W λr w'=>r= .returned (.bool (nB x).isSome)/\aD W.heap.size W w'):=λW hW=>by
       obtain⟨G3,y3,hlb,_⟩:=(L.below hW).1.Lj hj8 hl;exact XT hlb HLx.1.R0 (by have:=HLb2.o;omega)
      have HSR:aH (∀W,aD wr wr W->aG prog 43 #[.pointer gs2,j, .bool (nB x).isSome] W λr w'=>∃v:Int,r= .returned (.int .i64 v)/\aH (eC (Gk F q1) w' hb m g c {k with s:=jY k.s f (j+1)} f (q1+1+1) ((sW (-1)).sA ⟨A,qs.length,cA⟩) DA []/\Kp (Gk F q1) w3 w')/\w'.cell? (g,6)=some (.pointer gs2)):=λW hW=>by
       have hbb:=U.o.1.below hW;obtain⟨G3,h3,back3⟩:=hbb.1.ho;obtain⟨G4,gs4,hs4,_,e6,back4⟩:=h3.sd;have e:=(bK hW d6).symm.trans e6;injection e with e;injection e with e;injection e with e;injection e with e;subst e;refine(xI hs4 (by have:=(wD HKI.o.1.sd HKI.o.1.p4 f j).2.1;show(jY k.s f j).P.length<=8;omega) j _).mono ?_;rintro r w' ⟨rfl,hs5,k5⟩;obtain⟨⟨b1,b2⟩,_,b6⟩:=back4 _ w' hs5 k5;obtain⟨u1,u2⟩:=back3 _ _ w' b1 b2;exact⟨_,rfl,⟨by rw[HE.o];exact u1,U.o.2.trans (hbb.2.trans u2)⟩,b6⟩
      clear L hl HLx HE;generalize (bJ f j).g=gl at *;generalize (nB x).isSome=bv at *;go_upto_region 17 with(fail)
      clear r0;go_region_held3 (λW=>W.cell? (g,6)=some (.pointer gs2)) (first|exact d6|assumption) ((first|(go_at_call 44;(refine aS (HRd.o _ (Below.refl _ _).drew) ?_);rintro r w4 ⟨rfl,hb4⟩;(have B4:aD wr wr w4:=(Below.refl wr wr).drew.trans hb4);(have d64:w4.cell? (g,6)=some (.pointer gs2):=bK hb4 d6))|(go_at_call 43;(refine aS (HSR.o _ B4) ?_);rintro r w5 ⟨v,rfl,N,d65⟩)))
      go_wp2_with fail
      exact⟨⟨j+1,rfl,aQ,N.o⟩,by simp only[aL];omega⟩
    .obtain rfl:j=8:=aQ;have E:aH (eC (Gk F q1) wr hb m g c {k with s:=jY k.s f 8} f (q1+1+1) ((sW (-1)).sA ⟨A,qs.length,cA⟩) DA []/\Kp (Gk F q1) w3 wr/\∀b,aY A=some b->q1<=b):=⟨U.o.1,U.o.2,HR.o.2.2⟩
     clear HR U;go_wp2_with fail
     have HKN:aH (KI {k with s:=jY k.s f 8} n0/\({k with s:=jY k.s f 8}:Kv).s.nw<1048576):=by
      obtain⟨z1,z2,z3⟩:=wD HKI.o.1.sd HKI.o.1.p4 f 8;exact⟨HKI.o.1.DZ z1 z2,by show(jY k.s f 8).nw<_;rw[z3];exact HNW.o⟩
     obtain⟨kN,hkN⟩:∃r,r=({k with s:=jY k.s f 8}:Kv):=⟨_,rfl⟩
     have HkN:=aP hkN;rw[<-hkN] at E HKN;clear hkN;obtain⟨o1,ho1⟩:∃r,r=(sW (-1)).sA ⟨A,qs.length,cA⟩:=⟨_,rfl⟩
     have HO1:=aP ho1;rw[<-ho1] at E;clear ho1;have p:=E.o.2.1.aY HX3.o.1 (.inr (.inl rfl));have p0:=p.cell 0 (.slice AR ls.length cR) rfl;have p1:=p.cell 1 (.slice AW ws.length cW) rfl;have p2:=p.cell 2 (.slice AX xs.length cX) rfl;obtain⟨G,L,_⟩:=E.o.1.ho;have e0:=L.c0;unfold pA at e0;have HFL:aH (Ol (Gk F q1) wr):=E.o.1.ob.fl;have hgA:hb≠wr.heap.size:=by have:=L.bk.lt;omega
     have hqA:q1≠wr.heap.size:=by have:=p.lt;omega
     have hqs:q1+1+1<=wr.heap.size:=abX hlw E.o.2.1.size;have HTc:aH (∀W,aD wr wr W->aG prog 45 #[.pointer m, .agg #[(AR,ls.length,cR),(AW,ws.length,cW),(AX,xs.length,cX)]] W λr w'=>∃(rn:Rn) (S t u:uQ) (D:List (Int×Int)) (C:Kv),r= .returned (.tuple #[.agg #[rn.env,rn.ch,(S.A,S.n,S.c),(t.A,t.n,t.c),(u.A,u.n,u.c)],aU])/\aH (S.n=D.length/\tC kN c ws xs rn D C/\KI C (n0+M))/\aH (bH vT 2 w' W.heap.size 227 S.A S.c D/\eC (cN (Nw (Gk F q1) wr.heap.size W) S.A) w' hb m g c C f (q1+1+1) o1 DA []/\Kp (Nw (Gk F q1) wr.heap.size W) W w')/\w'.cell? (hb,0)=some (.pointer m)/\w'.cell? (q1,0)=some (.slice AR ls.length cR)/\w'.cell? (q1,1)=some (.slice AW ws.length cW)/\w'.cell? (q1,2)=some (.slice AX xs.length cX)):=λW hW=>by
      have hg:=E.o.1.grow hW;obtain⟨G3,sG,h3,back3⟩:=hg.st;have NZ:Kp F w3 W:=HKF.o _ _ (E.o.2.1.trans (E.o.1.below hW).2);have hi:=(HIn3.o.1.kp NZ).up (λb hb=>sG b (.inl (.inl hb)));refine(Pr h3 HKN.o.1 (by have:=HKI.o.2.1;omega) HKN.o.2 hi ⟨l1,l2,l3⟩ HKI.o.2.2).mono ?_;rintro r w' ⟨rn,SA,A2,A3,nA,cA2,n2,c2',n3,c3,D,C,rfl,hnA,ht,hki,own,hst,kp⟩;obtain⟨b1,b2⟩:=back3 C SA w' (λb hb=>(own.lt b hb).1) hst kp;obtain⟨G4,h4,_⟩:=b1.ho;have hc0:=h4.c0;have hF1:Nw (Gk F q1) wr.heap.size W q1:= .inl (.inr (.inl rfl));exact⟨rn,⟨SA,nA,cA2⟩,⟨A2,n2,c2'⟩,⟨A3,n3,c3⟩,D,C,rfl,⟨hnA,ht,hki⟩,⟨own,b1,b2⟩,hc0,b2.cell (bK hW p0) hF1,b2.cell (bK hW p1) hF1,b2.cell (bK hW p2) hF1⟩
     have hqs':q1<=wr.heap.size:=aQ;have HBA:aH (∀o,aD wr wr (wr.alloc o).drew):=λo=>(aX wr o).drew
     clear L p;go_cut [12,13] (λs12 s13 wx=>∃(Q:Nat) (rn:Rn) (S t u:uQ) (D:List (Int×Int)) (C:Kv),s12= .pointer Q/\s13= .int .i64 0/\aH (S.n=D.length/\tC kN c ws xs rn D C/\KI C (n0+M))/\aH (bF wx Q 73 #[rn.env,rn.ch,(S.A,S.n,S.c),(t.A,t.n,t.c),(u.A,u.n,u.c)])/\aH (bH vT 2 wx q1 227 S.A S.c D/\eC (Fb (cN (Gk F q1) S.A) Q) wx hb m g c C f (q1+1+1) o1 DA []/\Kp (Gk F q1) wr wx/\wr.heap.size<=Q))
     case first=>
      go_region_held3 (λW=>W.cell? (hb,0)=some (.pointer m)/\W.cell? (q1,0)=some (.slice AR ls.length cR)/\W.cell? (q1,1)=some (.slice AW ws.length cW)/\W.cell? (q1,2)=some (.slice AX xs.length cX)) (first|with_reducible exact⟨‹_›,‹_›,‹_›,‹_›⟩|exact⟨by simp only[dP hgA,dP hgB];with_reducible assumption,by simp only[dP hqA,dP hqB];with_reducible assumption,by simp only[dP hqA,dP hqB];with_reducible assumption,by simp only[dP hqA,dP hqB];with_reducible assumption⟩|exact⟨bK (aX wr _).drew e0,bK (aX wr _).drew p0,bK (aX wr _).drew p1,bK (aX wr _).drew p2⟩|exact⟨bK (aX _ _) e0,bK (aX _ _) p0,bK (aX _ _) p1,bK (aX _ _) p2⟩|exact⟨bK (aX _ _) ‹_›,bK (aX _ _) ‹_›,bK (aX _ _) ‹_›,bK (aX _ _) ‹_›⟩|exact⟨e0,p0,p1,p2⟩|fail) ((go_at_call 45;first|((refine aS (HTc.o _ (Below.refl _ _).drew) ?_);rintro r w6 ⟨rn,S,t,u,D,C,rfl,HD6,I,g0,z0,z1,z2⟩;(have hgB:hb≠w6.heap.size:=by have:=World.block_lt_of_cell? w6 _ g0;simp only at this;omega);(have hqB:q1≠w6.heap.size:=by have:=World.block_lt_of_cell? w6 _ z0;simp only at this;omega))|((refine aS (HTc.o _ (HBA.o _)) ?_);rintro r w6 ⟨rn,S,t,u,D,C,rfl,HD6,I,g0,z0,z1,z2⟩;(have zb:bF w6 wr.heap.size 73 #[aU,false,bG,bG,bG]:=I.o.2.2.aY (bF.new wr 73 #[aU,false,bG,bG,bG]) (.inr ⟨abQ _,(show wr.heap.size<(wr.alloc (aI #[aU,false,bG,bG,bG] 73)).heap.size by simp)⟩));(have ZB:=aP zb);(have y0:=zb.cell 0 _ rfl);(have y1:=zb.cell 1 _ rfl);(have y2:=zb.cell 2 _ rfl);(have y3:=zb.cell 3 _ rfl);(have y4:=zb.cell 4 _ rfl);(have f0:=zb.frozen 0);(have f1:=zb.frozen 1);(have f2:=zb.frozen 2);(have f3:=zb.frozen 3);(have f4:=zb.frozen 4);(have hgB:=hgA);(have hqB:=hqA);clear zb)|fail))
      all_goals
       go_wp2_with fail
       go_meet
       first
        |(have:=ZB;exact⟨_,rn,S,t,u,D,C,rfl,rfl,HD6,((((ZB.o.cB 0 _).cB 1 _).cB 2 _).cB 3 _).cB 4 _,Wq I.o.1 (bC (bC (bC (bC (bC (bL _ _) 0 _) 1 _) 2 _) 3 _) 4 _) hqs',(Tj HFL.o I.o.2.1 I.o.2.2 (bC (bC (bC (bC (bC (bL _ _) 0 _) 1 _) 2 _) 3 _) 4 _)).1,(Tj HFL.o I.o.2.1 I.o.2.2 (bC (bC (bC (bC (bC (bL _ _) 0 _) 1 _) 2 _) 3 _) 4 _)).2,abQ _⟩)
        |exact⟨_,rn,S,t,u,D,C,rfl,rfl,HD6,bF.new w6 _ _,((I.o.1.from_ hqs').alloc _),(Sp I.o.2.1 I.o.2.2 _).1,(Sp I.o.2.1 I.o.2.2 _).2,I.o.2.2.size⟩
     case rest=>
     obtain⟨Q,rn,S,t,u,D,C,rfl,rfl,HD6,Y,HX⟩:=hcut;clear e0 p0 p1 p2 hgA hqA HTc HBA;have y:=HX.o.2.1;have x0:=Y.o.cell 0 rn.env rfl;have x1:=Y.o.cell 1 (.bool rn.ch) rfl;have x2:=Y.o.cell 2 (.slice S.A S.n S.c) rfl;have x3:=Y.o.cell 3 (.slice t.A t.n t.c) rfl;have x4:=Y.o.cell 4 (.slice u.A u.n u.c) rfl;have y0:=y.bk.cell 0 o1.rn.env rfl;have y1:=y.bk.cell 1 (.bool o1.rn.ch) rfl;have y2:=y.bk.cell 2 (.slice o1.S.A o1.S.n o1.S.c) rfl;have y3:=y.bk.cell 3 (.slice o1.R.A o1.R.n o1.R.c) rfl;have y4:=y.bk.cell 4 (.slice o1.W.A o1.W.n o1.W.c) rfl;have f0:=y.bk.frozen 0;have f1:=y.bk.frozen 1;have f2:=y.bk.frozen 2;have f3:=y.bk.frozen 3;have f4:=y.bk.frozen 4;clear y;go_upto_region 23 with(fail)
     have hgg:wc.grownBy (((((wc.setCell (q1+1+1,0) rn.env).setCell (q1+1+1,1) (.bool rn.ch)).setCell (q1+1+1,2) (.slice S.A S.n S.c)).setCell (q1+1+1,3) (.slice t.A t.n t.c)).setCell (q1+1+1,4) (.slice u.A u.n u.c)) (some (q1+1+1)):=bC (bC (bC (bC (bC (bL _ _) 0 _) 1 _) 2 _) 3 _) 4 _;have H7:=aP (HX.o.2.1.put (o1.sS rn S t u) rfl rfl (((((HX.o.2.1.bk.cB 0 rn.env).cB 1 (.bool rn.ch)).cB 2 (.slice S.A S.n S.c)).cB 3 (.slice t.A t.n t.c)).cB 4 (.slice u.A u.n u.c)) hgg);have HS7:aH (bH vT 2 (((((wc.setCell (q1+1+1,0) rn.env).setCell (q1+1+1,1) (.bool rn.ch)).setCell (q1+1+1,2) (.slice S.A S.n S.c)).setCell (q1+1+1,3) (.slice t.A t.n t.c)).setCell (q1+1+1,4) (.slice u.A u.n u.c)) q1 227 S.A S.c D):=HX.o.1.kp H7.o.2 (λb hb=> .inl (.inr hb));have HB7:aH (bF (((((wc.setCell (q1+1+1,0) rn.env).setCell (q1+1+1,1) (.bool rn.ch)).setCell (q1+1+1,2) (.slice S.A S.n S.c)).setCell (q1+1+1,3) (.slice t.A t.n t.c)).setCell (q1+1+1,4) (.slice u.A u.n u.c)) Q 73 #[rn.env,rn.ch,(S.A,S.n,S.c),(t.A,t.n,t.c),(u.A,u.n,u.c)]):=H7.o.2.aY Y.o (.inr rfl);obtain⟨Z,hF5⟩:∃X,X=Fb (cN (Gk F q1) S.A) Q:=⟨_,rfl⟩
     have J:aH ((∀b,Gk F q1 b->Z b)/\(∀b,aY S.A=some b->Z b)/\Z Q):=by rw[hF5];exact⟨λb hb=> .inl (.inl hb),λb hb=> .inl (.inr hb), .inr rfl⟩
     rw[<-hF5] at H7;have HK7:aH (Kp (Gk F q1) w3 (((((wc.setCell (q1+1+1,0) rn.env).setCell (q1+1+1,1) (.bool rn.ch)).setCell (q1+1+1,2) (.slice S.A S.n S.c)).setCell (q1+1+1,3) (.slice t.A t.n t.c)).setCell (q1+1+1,4) (.slice u.A u.n u.c))/\q1+1+1<Q):=⟨(E.o.2.1.trans HX.o.2.2.1).trans (H7.o.2.mono J.o.1),by have:=HX.o.2.2.2;have:=E.o.1.bk.lt;omega⟩
     have HNA:aH (∀b,aY A=some b->q1<=b):=E.o.2.2;clear HX Y hF5 x0 x1 x2 x3 x4 y0 y1 y2 y3 y4 f0 f1 f2 f3 f4 hgg E HFL;generalize ((((wc.setCell (q1+1+1,0) rn.env).setCell (q1+1+1,1) (.bool rn.ch)).setCell (q1+1+1,2) (.slice S.A S.n S.c)).setCell (q1+1+1,3) (.slice t.A t.n t.c)).setCell (q1+1+1,4) (.slice u.A u.n u.c)=w7 at *;have HLT:aH (nl+qs.length<=2700/\k.s.nw<1048576):=⟨HLb2.o,HNW.o⟩
     go_wp2_with fail
     go_loopw [98] (λv98 wr=>∃j:Nat,v98= .int .i64 j/\j<=8/\aH (∃T cT,eC Z wr hb m g c C (iW f rn.env j) (q1+1+1) (((o1.sS rn S t u).sJ (mN f rn.env j).1 (mN f rn.env j).2).sT ⟨T,(kS f rn.env j).length,cT⟩) DA (kS f rn.env j)/\Kp Z w7 wr/\(kS f rn.env j).length<=4000000000 *j)) (λv98 _=>8 - (aL v98).toNat)
     case atStart=>exact⟨0,rfl,aQ,none,0,by have e:=HO1.o;subst e;exact H7.o.1,Kp.refl _ _,by simp[kS]⟩
     case round=>
      clear H7;obtain⟨j,rfl,hj,U⟩:=hrel;obtain⟨T,cT,h2,k27,hTl⟩:=U.o;have HTl:=aP hTl;have U:=bO h2 k27;by_cases hj8:j<8
      .obtain⟨G,L,_⟩:=h2.ho;have r0:=L.OZ (n:=j) hj8;have jj0:(0:Int)<=j:=aQ;have jj1:(j:Int)<8:=aQ;have hle:(bJ (iW f rn.env j) j).l=(bJ f j).l:=by rw[(GL (rs:=f) (e:=rn.env) j j (by rw[HL1.o.2];omega)).1,abT aQ]
       rw[hle] at r0;cases hl:(bJ f j).l with
       |none=>
        have HE:aH (iW f rn.env (j+1)=iW f rn.env j/\kS f rn.env (j+1)=kS f rn.env j/\mN f rn.env (j+1)=mN f rn.env j):=by
         rw[hl] at hle;refine⟨?_,?_,?_⟩
         .show DW (iW f rn.env j) rn.env j=_;unfold DW;rw[hle]
         .show kS f rn.env j++Di (iW f rn.env j) rn.env j=_;unfold Di;rw[hle];simp
         .show ZE (iW f rn.env j) rn.env j (mN f rn.env j)=_;unfold ZE;rw[hle]
        rw[hl] at r0;simp only[xL,adP] at r0;clear L h2 k27 hle hTl;go_wp2_with fail
        exact⟨⟨j+1,rfl,aQ,T,cT,by rw[HE.o.1,HE.o.2.1,HE.o.2.2];exact⟨U.o.1,U.o.2,by have:=HTl.o;omega⟩⟩,by simp only[aL];omega⟩
       |some x=>
        rw[hl] at hle;have HLx:=HL1.o.1 j x hl;have HX:aH (kX x (nl+qs.length)/\x.nw<1048576/\x.lg.length<=4000000000):=⟨HLx.1,by have:=HLx.2;have:=HLT.o.2;omega,by have:=HLx.1.lg;have:=HLT.o.1;omega⟩
        have x0:=(k27.aY HB7.o J.o.2.2).cell 0 rn.env rfl;rw[hl] at r0;simp only[xL,acP] at r0;have HT1:aH (∀gv,gv=decide (rn.env=(j:Int))->iW f rn.env (j+1)=r9 (vC (r9 (iW f rn.env j) j x) j (jG x gv)) j (jG x gv)/\kS f rn.env (j+1)=kS f rn.env j++(wM (vC (r9 (iW f rn.env j) j x) j (jG x gv)) j (jG x gv)).map (λv=>((j:Int),v))/\mN f rn.env (j+1)=if gv=true then qY x (nZ x gv) else mN f rn.env j):=λgv hgv=>by
         subst hgv;refine⟨?_,?_,?_⟩
         .show DW (iW f rn.env j) rn.env j=_;unfold DW;rw[hle];rfl
         .show kS f rn.env j++Di (iW f rn.env j) rn.env j=_;unfold Di;rw[hle];rfl
         .show ZE (iW f rn.env j) rn.env j (mN f rn.env j)=_;unfold ZE;rw[hle];simp only[aeE]
        have HRl:aH ((iW f rn.env j).length=8):=(JN _ _ _).trans HL1.o.2;clear L hl h2 k27 HLx hTl;go_upto_region 28 with(fail)
        go_cut [16] (λs16 wx=>s16= .bool (decide (rn.env=(j:Int)))/\wx=wr)
        case first=>
         by_cases hgv:rn.env=(j:Int)
         .rw[hgv] at x0;go_wp2_with fail
          go_meet
          exact⟨by simp[hgv],rfl⟩
         .go_wp2_with fail
          go_meet
          exact⟨by simp[hgv],rfl⟩
        case rest=>
        obtain⟨rfl,rfl⟩:=hcut;obtain⟨gv,hgv⟩:∃gv,gv=decide (rn.env=(j:Int)):=⟨_,rfl⟩
        have HGV:=aP (HT1.o gv hgv);rw[<-hgv];clear HT1 hgv x0 r0;generalize iW f rn.env j=R at *;generalize kS f rn.env j=TT at *;generalize mN f rn.env j=JJ at *;have HNs:=aP (U.o.1.news hj8 hle HX.o.2.2);go_wp2_with fail
        refine aR HNs ?_;rintro r w4 ⟨B4,d4,rfl,_,h4,k4⟩;have H4:aH (eC Z w4 hb m g c C (r9 R j x) (q1+1+1) (((o1.sS rn S t u).sJ JJ.1 JJ.2).sT ⟨T,TT.length,cT⟩) DA TT/\Kp Z w7 w4):=⟨h4.less λb hb=> .inl hb,U.o.2.trans k4⟩
        have hl4:(bJ (r9 R j x) j).l=some x:=by rw[(J7 (j:=j) (x:=x) (by rw[HRl.o];exact hj8)).1,hle]
        have r4:=H4.o.1.r0 hj8 hl4;have kR:=aP (H4.o.1.Vz hj8 hl4 HX.o.1 (by have:=HLT.o.1;omega) HX.o.2.1 gv);have HR4:aH ((r9 R j x).length=8):=by unfold aH r9 QS;rw[ab5];exact HRl.o
        clear h4 k4 HNs U;go_wp2_with fail
        refine aR kR ?_;rintro r w5 ⟨rfl,h5,k5⟩;have N:aH (eC Z w5 hb m g c C (vC (r9 R j x) j (jG x gv)) (q1+1+1) (((o1.sS rn S t u).sJ JJ.1 JJ.2).sT ⟨T,TT.length,cT⟩) DA TT/\Kp Z w7 w5):=⟨h5,H4.o.2.trans k5⟩
        clear h5 k5 kR H4 r4;generalize qY x (nZ x gv)=pp at *;obtain⟨pp1,pp2⟩:=pp;simp only;have hl5:(bJ (vC (r9 R j x) j (jG x gv)) j).l=some (jG x gv):=by unfold vC;rw[mA (by rw[HR4.o];exact hj8)]
        have HX5:aH ((jG x gv).lg.length<=4000000000):=by have:=(HX.o.1.tick HX.o.2.1 (by have:=HLT.o.1;omega) gv).lg;have:=HLT.o.1;unfold aH;omega
        clear HX HRl HR4 hl4 hle;generalize vC (r9 R j x) j (jG x gv)=R5 at *;generalize jG x gv=x5 at *;go_upto_if 128 with(fail)
        go_cut [] (λwx=>aH (eC Z wx hb m g c C R5 (q1+1+1) (((o1.sS rn S t u).sJ (if gv=true then(pp1,pp2) else JJ).1 (if gv=true then(pp1,pp2) else JJ).2).sT ⟨T,TT.length,cT⟩) DA TT/\Kp Z w7 wx))
        case first=>
         cases gv
         .go_wp2_with fail
          go_meet
          exact N.o
         .have y6:=N.o.1.bk.cell 6 JJ.1 rfl;have y7:=N.o.1.bk.cell 7 JJ.2 rfl;have f6:=N.o.1.bk.frozen 6;have f7:=N.o.1.bk.frozen 7;go_wp2_with fail
          go_meet
          have h6:=N.o.1.put (((o1.sS rn S t u).sJ pp1 pp2).sT ⟨T,TT.length,cT⟩) rfl rfl ((N.o.1.bk.cB 6 pp1).cB 7 pp2) (bC (bC (bL _ _) 6 _) 7 _);exact⟨h6.1,N.o.2.trans h6.2⟩
        case rest=>
        clear N;have HNs:=aP (hcut.o.1.news hj8 hl5 HX5.o);have HC:=aP hcut.o.2;clear hcut;generalize (if gv=true then(pp1,pp2) else JJ)=J2 at *;go_wp2_with fail
        refine aR HNs ?_;rintro r w6 ⟨B,d,rfl,own6,h6,k6⟩;have H6:=bO h6 (HC.o.trans k6);have HO6:=aP own6;have HVl:aH ((wM R5 j x5).length<=4000000000):=abX (Jm _ _ _) HX5.o;clear h6 k6 own6 HNs HC hl5 HX5;generalize wM R5 j x5=V at *;generalize r9 R5 j x5=R6 at *;go_wp2_with fail
        go_loopw [136] (λv136 wr=>∃i:Nat,v136= .int .i64 i/\i<=V.length/\aH (∃T' cT',eC (cN Z B) wr hb m g c C R6 (q1+1+1) (((o1.sS rn S t u).sJ J2.1 J2.2).sT ⟨T',TT.length+i,cT'⟩) DA (TT++(V.take i).map (λv=>((j:Int),v)))/\Kp Z w7 wr/\Kp (cN Z B) w6 wr)) (λv136 _=>V.length - (aL v136).toNat)
        case atStart=>exact⟨0,rfl,ab0 _,T,cT,by rw[afL,List.map_nil,aeQ];exact H6.o.1,H6.o.2,Kp.refl _ _⟩
        case round=>
         obtain⟨i,rfl,hi,HV⟩:=hrel;obtain⟨T',cT',hv,kv7,kv6⟩:=HV.o;have HV:=dE hv kv7 kv6;by_cases O:i<V.length
         .obtain⟨qB,hqB⟩:=wS HO6.o aQ;have HT:aH (V.take (i+1)=V.take i++ [V[i]]):=(acO O).symm;have ho:=HO6.o.kp kv6 (λb hb=> .inr hb);subst hqB;generalize hVi:V[i]=ev at *;have e0:=bM xJ ho O (j:=0) (v:= .int .i64 ev.kd) (by rw[hVi];rfl);have e1:=bM xJ ho O (j:=1) (v:= .int .i64 ev.tk) (by rw[hVi];rfl);have e2:=bM xJ ho O (j:=2) (v:= .int .i64 ev.jb) (by rw[hVi];rfl);have e3:=bM xJ ho O (j:=3) (v:= .int .i64 ev.at_) (by rw[hVi];rfl);rw[acD] at e0;have c8:=hv.bk.cell 8 (.slice T' (TT.length+i) cT') rfl;have ii0:(0:Int)<=i:=aQ;have ii1:(i:Int)<(V.length:Int):=aQ;clear ho hVi hv kv7 kv6;go_upto_region 36 with(fail)
          have a6:=aP (bF.new wr 165 #[ev.kd,ev.tk,ev.jb,ev.at_]);have y0:=a6.o.cell 0 ev.kd rfl;have y1:=a6.o.cell 1 ev.tk rfl;have y2:=a6.o.cell 2 ev.jb rfl;have y3:=a6.o.cell 3 ev.at_ rfl;have d8:=bK (aX wr (aI #[ev.kd,ev.tk,ev.jb,ev.at_] 165)) c8;have HRx:=aP (HV.o.1.below (aX wr (aI #[ev.kd,ev.tk,ev.jb,ev.at_] 165)));have HDl:aH ((TT++(V.take i).map (λv=>((j:Int),v))).length=TT.length+i):=by unfold aH;rw[ab6,acU,ac9];omega
          have hbd:TT.length+i<=40000000000:=by have:=HTl.o;have:=HVl.o;omega
          clear e0 e1 e2 e3 c8 a6;generalize wr.alloc (aI #[ev.kd,ev.tk,ev.jb,ev.at_] 165)=wx at *;go_wp2_with(refine bQ _ rfl (.tmp 141) (.tmp 145) rfl Zr Aq (base:=0) (xs:=TT++(V.take i).map (λv=>((j:Int),v))) (HRx.o.1.yU.alloc _) (n:=TT.length+i) HDl.o rfl (m:=1) rfl (ys:= [((j:Int),ev)]) rfl (Sl.fH Aq wx ((j:Int),ev) _ rfl _ aT) dN aQ (ab0 _) _ rfl (TT.length+i+1) rfl ?_;intro A9 c9 w9 own9 hg9 at9;(obtain⟨b9,f9,HO9,HK9⟩:=(HRx.o.1.below (aX wx (aI #[j,ev.kd,ev.tk,ev.jb,ev.at_] 167))).1.Eo own9 hg9 at9 (n:=TT.length+i+1) (by rw[ab6,HDl.o];rfl));obtain⟨b9v,b9⟩:=b9)
          have HKx:=HRx.o.2.trans ((HRx.o.1.below (aX wx (aI #[j,ev.kd,ev.tk,ev.jb,ev.at_] 167))).2.trans HK9);exact⟨⟨i+1,rfl,aQ,A9,c9,by rw[HT.o,afE,<-ac7];exact HO9,HV.o.2.1.trans (HKx.mono λb hb=> .inl hb),HV.o.2.2.trans HKx⟩,by simp only[aL];omega⟩
         .obtain rfl:i=V.length:=aQ;have hT:V.take V.length=V:=ad0;rw[hT] at hv;have HE:aH (∃T cT,eC Z wr hb m g c C (iW f rn.env (j+1)) (q1+1+1) (((o1.sS rn S t u).sJ (mN f rn.env (j+1)).1 (mN f rn.env (j+1)).2).sT ⟨T,(kS f rn.env (j+1)).length,cT⟩) DA (kS f rn.env (j+1))/\Kp Z w7 wr/\(kS f rn.env (j+1)).length<=4000000000 *(j+1)):=by
           rw[HGV.o.1,HGV.o.2.1,HGV.o.2.2,ab6,acU];exact⟨T',cT',hv.less λb hb=> .inl hb,kv7,by have:=HTl.o;have:=HVl.o;omega⟩
          have ii1:¬(V.length:Int)<(V.length:Int):=aQ;clear hv kv7 kv6 hT HV HGV;go_wp2_with fail
          obtain⟨T9,cT9,z1,z2,z3⟩:=HE.o;exact⟨⟨_,_,_,_,_,_,_,_,⟨j+1,rfl,aQ,⟨T9,cT9,z1⟩,z2,z3⟩,rfl,rfl,rfl,rfl,rfl,rfl,rfl,rfl⟩,by simp only[aL];omega⟩
      .obtain rfl:j=8:=aQ;have H8T:aH (eC Z wr hb m g c C (iW f rn.env 8) (q1+1+1) (((o1.sS rn S t u).sJ (mN f rn.env 8).1 (mN f rn.env 8).2).sT ⟨T,(kS f rn.env 8).length,cT⟩) DA (kS f rn.env 8)/\Kp Z w7 wr):=⟨h2,k27⟩
       clear h2 k27 U hTl HTl;go_wp2_with fail
       have b12:=H8T.o.2.aY HB7.o J.o.2.2;have x0:=b12.cell 0 rn.env rfl;have x2:=b12.cell 2 (.slice S.A S.n S.c) rfl;obtain⟨G,L,_⟩:=H8T.o.1.ho;have c1':=L.c1;have HEN:=HD6.o.2.1.XE HKN.o.1;have HRU:aH (∀n:Nat,n<8->wr.cell? ⟨hb,2+n *15+14,none⟩=some (.bool (bJ f n).ru)):=λn hn=>by
        have:=L.WE (n:=n) hn;rw[(GL (rs:=f) (e:=rn.env) n 8 (by rw[HL1.o.2];omega)).2] at this;exact this
       clear L b12;go_cut [164] (λs wx=>∃bv:Bool,s= .bool bv/\aH ((bv=true/\∃i:Nat,rn.env=i/\i<4/\(bJ f i).ru=true)\/(bv=false/\(rn.env<0\/∃i:Nat,rn.env=i/\i<4/\(bJ f i).ru=false)))/\aD wr wr wx)
       case first=>
        rcases HEN with a1|⟨i,a1,hi4⟩
        .rw[a1] at x0;go_quiet (fail)
         go_wp2_with fail
         go_meet
         exact⟨false,rfl, .inr ⟨rfl, .inl aQ⟩,below_drewN _ _⟩
        .have r14:=HRU.o i aQ;have i0:(0:Int)<=i:=aQ;have i8:(i:Int)<8:=aQ;rw[a1] at x0;cases hru:(bJ f i).ru
         .rw[hru] at r14;have HH:=dE a1 hi4 hru;clear a1 hru;go_quiet (fail)
          go_wp2_with fail
          go_meet
          exact⟨false,rfl, .inr ⟨rfl, .inr ⟨i,HH.o⟩⟩,below_drewN _ _⟩
         .rw[hru] at r14;have HH:=dE a1 hi4 hru;clear a1 hru;go_quiet (fail)
          go_wp2_with fail
          go_meet
          exact⟨true,rfl, .inl ⟨rfl,i,HH.o⟩,below_drewN _ _⟩
       case rest=>
       obtain⟨bv,rfl,HBV,hbw⟩:=hcut;have H9:aH (eC Z wc hb m g c C (iW f rn.env 8) (q1+1+1) (((o1.sS rn S t u).sJ (mN f rn.env 8).1 (mN f rn.env 8).2).sT ⟨T,(kS f rn.env 8).length,cT⟩) DA (kS f rn.env 8)/\Kp Z w7 wc):=⟨(H8T.o.1.below hbw).1,H8T.o.2.trans (H8T.o.1.below hbw).2⟩
       replace x0:=bK hbw x0;replace x2:=bK hbw x2;replace c1':=bK hbw c1';have HKE:aH (KI C (n0+M)):=HD6.o.2.2;have hDl:S.n<=50000:=by rw[HD6.o.1];exact abX (HD6.o.2.1.Zv HKI.o.2.2) HMM.o
       clear hbw H8T HRU;obtain⟨e8,he8⟩:∃e,e=((o1.sS rn S t u).sJ (mN f rn.env 8).1 (mN f rn.env 8).2).sT ⟨T,(kS f rn.env 8).length,cT⟩:=⟨_,rfl⟩
       have HE8:=aP he8;rw[<-he8] at H9;clear he8;go_upto_if 164 with(fail)
       go_cut [] (λwx=>aH (∃(st x y z:Int) (k4:Kv) (K:List Rm),eC Z wx hb m g c k4 K (q1+1+1) (e8.sB st x y z) DA (kS f rn.env 8)/\Kp Z w7 wx/\KI k4 (n0+M+40)/\((∃i:Nat,rn.env=i/\i<4/\(bJ f i).ru=true/\lZ i C k4/\wI (iW f rn.env 8) K i)\/((rn.env<0\/∃i:Nat,rn.env=i/\i<4/\(bJ f i).ru=false)/\k4=C/\K=iW f rn.env 8))))
       case first=>
        rcases HBV.o with⟨rfl,i,a1,hi4,hru⟩|⟨rfl,hno⟩
        .have HH:=dE a1 hi4 hru;rw[a1] at x0;obtain⟨G,L,back⟩:=H9.o.1.ho;have HBu:=aP (WG (L.below (Below.refl wc wc).drew).1 HKE.o (by have:=HKI.o.2.1;omega) hi4 (c - (S.n:Int)) aQ);have HBk:=aP (λk' rs' w' h k=>back k' rs' w' h k);have HKd:aH (Kp G wc wc.drew):=(L.below (Below.refl wc wc).drew).2;have hwr:IntKind.i64.wrap (c - (S.n:Int))=c - (S.n:Int):=by rw[IntKind.wrap_i64];omega
         have i0:(0:Int)<=i:=aQ;have i8:(i:Int)<8:=aQ;have hne1:hb≠q1+1+1:=zO L.bk H9.o.1.bk cH;have hne2:Q≠q1+1+1:=by have:=HK7.o.2;omega
         have HCh:aH (∀(W:aA) (k4:Kv) (K:List Rm),eC Z W hb m g c k4 K (q1+1+1) e8 DA (kS f rn.env 8)->W.cell? (hb,1)=some (.int .i64 c)):=λW k4 K hW=>by
          obtain⟨G,h,_⟩:=hW.ho;exact h.c1
         clear L back a1 hru hi4;go_upto_region 40 with(fail)
         go_region_held3 (λW=>W.cell? (hb,1)=some (.int .i64 c)/\W.cell? (Q,0)=some (.int .i64 i)/\W.cell? (Q,2)=some (.slice S.A S.n S.c)) (first|exact⟨c1',x0,x2⟩|exact⟨e1',z0,z2⟩|exact⟨by simp only[dP hne1];exact e1',by simp only[dP hne2];exact z0,by simp only[dP hne2];exact z2⟩|fail) ((go_at_call 47;(refine aR HBu ?_);rintro r w5 ⟨st,x,y,z,k4,K,rfl,hbu,hki,hcp,h5,k5⟩;(have N:=aP (HBk.o k4 K w5 h5 (HKd.o.trans k5)));(have HP5:=dE hbu hki hcp);(have y9:=N.o.1.bk.cell 9 e8.st rfl);(have y10:=N.o.1.bk.cell 10 e8.x rfl);(have y11:=N.o.1.bk.cell 11 e8.y rfl);(have y12:=N.o.1.bk.cell 12 (.int .u64 e8.z) rfl);(have f9:=N.o.1.bk.frozen 9);(have f10:=N.o.1.bk.frozen 10);(have f11:=N.o.1.bk.frozen 11);(have f12:=N.o.1.bk.frozen 12);(have e1':=HCh.o w5 k4 K N.o.1);(have z0:=N.o.2.cell x0 J.o.2.2);(have z2:=N.o.2.cell x2 J.o.2.2);clear h5 k5 hbu hki hcp))
         go_wp2_with fail
         go_meet
         have hp:=N.o.1.put (e8.sB st x y z) rfl rfl ((((N.o.1.bk.cB 9 st).cB 10 (.int .i64 x)).cB 11 y).cB 12 (.int .u64 z)) (bC (bC (bC (bC (bL _ _) 9 _) 10 _) 11 _) 12 _);exact⟨st,x,y,z,k4,K,hp.1,(H9.o.2.trans N.o.2).trans hp.2,HP5.o.2.1, .inl ⟨i,HH.o.1,HH.o.2.1,HH.o.2.2,HP5.o.1,HP5.o.2.2⟩⟩
        .have vD:=aP hno;clear hno;go_wp2_with fail
         go_meet
         refine⟨e8.st,e8.x,e8.y,e8.z,C,_,H9.o.1,H9.o.2,HKE.o.mono aQ, .inr ⟨vD.o,rfl,rfl⟩⟩
       case rest=>
       obtain⟨st,x,y,z,k4,K,hF,kF,kiF,hcs⟩:=hcut.o;have HF:=dE hF kF (And.intro kiF hcs);have hAA:aH (e8.A=⟨A,qs.length,cA⟩/\e8.rn=rn/\e8.S=S/\(e8.tk,e8.nu)=mN f rn.env 8/\e8.T.n=(kS f rn.env 8).length):=by rw[HE8.o,HO1.o];exact⟨rfl,rfl,rfl,rfl,rfl⟩
       obtain⟨o9,ho9⟩:∃o,o=e8.sB st x y z:=⟨_,rfl⟩
       have H9o:aH (o9.A=⟨A,qs.length,cA⟩/\o9.rn=rn/\o9.S=S/\(o9.tk,o9.nu)=mN f rn.env 8/\o9.T.n=(kS f rn.env 8).length):=by rw[ho9];exact hAA.o
       rw[<-ho9] at HF hF;have HRg:=aP hF.bk.range;have HOi:=aP (Mx o9);have zb:=kF.aY (HK7.o.1.aY HX3.o.2 (.inr (.inr rfl))) (J.o.1 _ (.inr (.inr rfl)));have HTh:=aP (zb.there (n:=(jV o9).toArray.size) (agA rfl));have HZb:=aP (zb.laid (M:=jV o9) rfl);have HZr:=aP HZb.o.range;have HZ0:=aP zb;have HGz:=aP (fN (q1+1) (jV o9) 0 wc wc (bL wc (q1+1)));have HOn:=aP (Uh o9);clear hF kF kiF hcs hcut ho9 zb H9 HBV x0 x2 c1' hAA HE8;go_wp2_with(first|(refine wpList_load_mid rfl 79 _ rfl (q1+1+1) 0 rfl (jV o9) _ HRg.o underlying79 rfl HOi.o ?_)|(refine wpList_store_mid rfl 79 _ _ rfl (q1+1) 0 (jV o9).toArray rfl rfl HTh.o (by simpa using HOi.o) HOn.o ?_))
       have k1:Kp F w wc:=HK3.o.trans ((HKF.o _ _ HK7.o.1).trans (HF.o.2.1.mono λb hb=>J.o.1 b (.inl hb)));have oS:=HS7.o.kp HF.o.2.1 J.o.2.1;have oA:=HF.o.1.D8;have nS:=CV oS HZ0.o cH;have nA:=CV oA HZ0.o cH;have e1:=H9o.o.1;have hAe:o9.A.A=A:=by rw[e1]
       have hSe:=H9o.o.2.2.1;have k2':Kp F wc (wc.setCells (q1+1) 0 (jV o9)):=Kp.grown HGz.o λb hb=>⟨HF.o.1.ob.fl b (J.o.1 b (.inl hb)),λe=>HN1.o.2 (by injection e with e;exact e ▸ hb)⟩
       have oS':=oS.kept HGz.o (.inr nS);have oA':=oA.kept HGz.o (.inr nA);have L:=dV.gr (bY.cM hb m g c k4 K) (H:=cN (cN F o9.S.A) o9.A.A) HF.o.1.o HGz.o (λq hq=>by injection hq with hq;exact .inl (hq ▸ J.o.1 _ (.inr (.inr rfl)))) (λb hb=>by
        refine abR ?_ HGz.o.size;rcases hb with(hb|hb)|hb
        .exact HF.o.1.ob.fl b (J.o.1 b (.inl hb))
        .rw[hSe] at hb;exact(oS.lt b hb).2
        .exact(oA.lt b hb).2) (λb _ hb=>by
        rcases hb with(hb|hb)|hb
        .exact .inl (J.o.1 b (.inl hb))
        .rw[hSe] at hb;exact .inl (J.o.2.1 b hb)
        .exact .inr hb)
       refine bodyPost_ret (results_cell_tmp rfl _ _ (q1+1) (jV o9) _ rfl HZr.o underlying79 rfl HOi.o) rfl ⟨o9,D,DA,k4,K,rfl,⟨HDA.o,?_,?_,?_⟩,HF.o.2.2.1,?_,HF.o.1.a,?_,oA',?_,L,k1.trans k2'⟩
       .refine⟨C,?_,?_⟩
        .rw[H9o.o.2.1,<-HRS.o,<-HkN.o];exact HD6.o.2.1
        .rw[H9o.o.2.1,<-HRS.o];exact HF.o.2.2.2
       .rw[H9o.o.2.2.2.1,H9o.o.2.1,HRS.o]
       .rw[H9o.o.2.2.2.2,H9o.o.2.1,HRS.o]
       .rw[hSe];exact HD6.o.1
       .rw[hSe,HQ1.o];exact oS'
       .rw[hAe,HQ1.o];exact HNA.o
end
variable{s:Sd}{k k':Kv}
section
def TJ:Tk:=⟨1,20,20, [],0⟩
def IQ:Lb:=mY [TJ] 0
def Md:Lb:=(oM IQ 0 1).2
theorem Ur:pE [TJ]=true:=cH
def CC(x:Lb)(gl:Nat)(sv:aC):List Rm:=sN.set 2 (JQ x gl sv 0)
theorem Eu(gl:Nat)(sv:aC):J9 sN 2 [TJ] 0 gl sv=CC IQ gl sv:=aV
theorem Aw:zU sN 2 [TJ] 0=0:=cH
theorem MU(gl:Nat)(sv:aC):gX (CC IQ gl sv) [(2,0,1)]=CC Md gl sv:=aV
theorem Xh(gl:Nat)(sv:aC):mN (CC Md gl sv) 2 8=(0,1):=aV
theorem Xf(gl:Nat)(sv:aC):(kS (CC Md gl sv) 2 8).length=1:=aV
def Rz(s:Sd):Prop:=∃a b d,s.P= [⟨none,a⟩,⟨none,b⟩,⟨some (wQ 2 9),true⟩,⟨none,d⟩]/\s.nw=0
theorem Rz.FI{s:Sd}(h:Rz s)(e:Int):Rz (jX s e true):=by
 obtain⟨a,b,d,h1,c⟩:=h;unfold jX;split
 .rename_i hi;have hi:=adD hi;rw[h1] at hi;simp only[acR,ac6] at hi;obtain⟨n,rfl⟩:=abW hi.1;have:n=0\/n=1\/n=2\/n=3:=aQ;have key:∀i,(s.P.modify i λp=>{p with rd:=true})=([⟨none,a⟩,⟨none,b⟩,⟨some (wQ 2 9),true⟩,⟨none,d⟩]:List Pv).modify i λp=>{p with rd:=true}:=λi=>by rw[h1]
  rcases this with rfl|rfl|rfl|rfl
  .exact⟨true,b,d,(key 0).trans rfl,c⟩
  .exact⟨a,true,d,(key 1).trans rfl,c⟩
  .exact⟨a,b,d,(key 2).trans rfl,c⟩
  .exact⟨a,b,true,(key 3).trans rfl,c⟩
 .exact⟨a,b,d,h1,c⟩
theorem Rz.tick(h:Rz s):(gJ s).1.env=2/\(gJ s).1.ch=true:=by
 obtain⟨a,b,d,h1,c⟩:=h;have e:(eG s).P= [⟨none,a⟩,⟨none,b⟩,⟨some (kC (wQ 2 9) 0 true),true⟩,⟨none,d⟩]:=by
  show s.P.map (rY s.nw)=_;rw[h1,c];rfl
 have f:iO (eG s).P s.P.length=some (2,9):=by
  rw[e,h1];rfl
 unfold gJ;rw[f];exact⟨rfl,rfl⟩
theorem Rz.mQ(l:List Int):∀{k:Kv},Rz k.s->Rz (dX k l).s:=by
 induction l with
 |nil=>intro k h;exact h
 |cons e l a=>
  intro k h;refine a ?_;unfold dQ;split
  .exact h.FI e
  .exact h
theorem Rz.before(h:Rz k.s)(hb:k.b= [])(r:kJ k k'):Rz k'.s:=by
 obtain⟨l1,c,T,d,a,ho,rfl⟩:=r;rw[hb] at a;have:T= []:=by
  have:=a.length_eq;simpa[lM] using this
 subst this;cases ho;exact Rz.mQ c (Rz.mQ l1 h)
def OA:Sd:=qQ (tU 4) 2 2 9
theorem Wm:zJ (tU 4) 2 2 9=0:=cH
theorem Sf(gl:Nat)(sv:aC):Rz (jY OA (CC Md gl sv) 8):=⟨true,true,true,aV,aV⟩
end
theorem Oy:gS (BF 4):=by
 refine⟨cH,λp hp v a=>?_,⟨λx v h=>(by cases h),λp hp=>(by cases hp),cH,cH⟩,cH,cH,cH,cH,λi p hp=>?_,λi hi=>rfl⟩
 .have:p=⟨none,false⟩:=ac4 (n:=4) hp;rw[this] at a;cases a
 .have:p=⟨none,false⟩:=ac4 (n:=4) (adI hp);rw[this];rfl
theorem u7Q:∀n,gS (tU n)/\(tU n).P.length=4
 |0=>⟨Oy,rfl⟩
 |n+1=>wG (u7Q n).1 (u7Q n).2 _ _
theorem Lx(p:Nat×Nat):KI (oX p) 9:=by
 exact⟨(u7Q 4).1,(u7Q 4).2,(show 0<=(wN 2).n/\(wN 2).n<=((9:Nat):Int) by decide),ab0 _,List.Pairwise.nil,λx a=>(by cases a),List.Pairwise.nil,rfl,ab0 _⟩
theorem kiW(p0):KI {oX p0 with s:=OA} 9:=(Lx p0).DZ (F8 (u7Q 4).1 (u7Q 4).2 2 2 9).1 (F8 (u7Q 4).1 (u7Q 4).2 2 2 9).2
theorem Zs(gl sv):oH (CC IQ gl sv) 0 0:=λi x a=>by
 by_cases hi:i=2
 .subst hi;have:(bJ (CC IQ gl sv) 2).l=some IQ:=rfl;rw[this] at a;injection a with a;subst a;exact⟨TW 0 Ur,adO _⟩
 .exfalso
  unfold CC at a;rw[vZ (aeF hi)] at a;unfold bJ at a;rw[ab1] at a;unfold sN at a;rw[aeX] at a;split at a <;> cases a
def Xp:Prop:=∀(F:Nat->Prop) (w:aA) (hb m g q:Nat) p0 gl sv,bY F w hb m g 3 {oX p0 with s:=OA} (CC IQ gl sv)->Sl mC 3 w q [(2,0,1)]->(∀b,mM q 1=some b->F b)->
 aG prog 16 #[.pointer hb, .agg #[bG,bG,bG, .slice q 1 1]] w (Kj F hb m g 3 {oX p0 with s:=OA} (CC IQ gl sv) 9 0 [] [] [(2,0,1)] w)
theorem Az(I:Xp)(w:aA):aG prog 7 #[] w λr w'=>r= .returned (.bool true)/\aD w w w':=by
 have J:=aP (KH w 3 aQ);go_enter func7,ntmps7
 go_wp2_with fail
 refine aR J ?_;rintro r Z ⟨hb,m,g,p0,rfl,K,f⟩;have q:=SJ K (u7Q 4).1 2 2 9;have F:JH (oX p0) 2 2 9=0:=Wm;have L:MD (oX p0) 2 2 9={oX p0 with s:=OA}:=rfl;rw[F,L] at q;have q:=aP q;have d:=aP f;have jA:=f.size;clear K f J F L;go_wp2_with fail
 refine aR q ?_;rintro r k ⟨rfl,M,l⟩;have h:aH (aD w w k):=⟨l.os.trans d.o.os,l.tape.trans d.o.tape,l.output.trans d.o.output,abX jA l.size,λi hi=>(l.block i hi).trans (d.o.block i hi)⟩
 have N:=aP M;clear M l q d jA;go_wp2_with fail
 have t:=aX k (aI #[.int .i64 1, .int .i64 20, .int .i64 20,bG,aU] 125);have O:sR (k.alloc (aI #[.int .i64 1, .int .i64 20, .int .i64 20,bG,aU] 125)) (some ⟨k.heap.size,0,none⟩) [⟨TJ,none,0⟩]:=⟨Sl.new lK k ⟨TJ,none,0⟩ _ rfl _,λx u=>by rw[ab3.1 u];exact Sl.nil _ _,λx u=>by rw[ab3.1 u];exact abQ _⟩
 have e:=OX (N.o.below t).1 2 1 O cH (λx u=>by rw[ab3.1 u];exact ab0 _) 0;simp only[List.map_cons,List.map_nil,Eu,Aw,acR,ac6,acT] at e;have e:=aP e;have a:aH (aD w w (k.alloc (aI #[.int .i64 1, .int .i64 20, .int .i64 20,bG,aU] 125))):=h.o.alloc h.o.size _;clear t O N h;refine aR e ?_;rintro r w5 ⟨gl,sv,rfl,P,n⟩;have j:aH (aD w w w5):=⟨n.os.trans a.o.os,n.tape.trans a.o.tape,n.output.trans a.o.output,abX a.o.size n.size,λi hi=>(n.block i hi).trans (a.o.block i hi)⟩
 have G:=aP P;clear P n e a;go_wp2_with fail
 have Q:=(bY.cM hb m g 3 {oX p0 with s:=OA} (CC IQ gl sv)).box G.o G.o.fl (aI #[.int .i64 2,aU, .int .i64 1] 126);have kR:=I _ _ _ _ _ _ _ _ _ Q (Sl.new uV w5 (2,0,1) _ rfl _) (MS (λb hb=> .inr (by injection hb with hb;exact hb.symm)) 1);simp only[acR,ac6,acT] at kR;have kR:=aP kR;have c:aH (aD w w (w5.alloc (aI #[.int .i64 2,aU, .int .i64 1] 126))):=j.o.alloc j.o.size _;clear Q G j I;refine aR kR ?_;rintro r U ⟨o,D,AS,k',V,rfl,X,H, -, -, -, -, -, -,p⟩;obtain⟨F,⟨k2,⟨Y,v,B, -⟩, -⟩,hj,hn⟩:=X;have T:Rz Y.s:=Rz.before (by show Rz (jY OA (gX (CC IQ gl sv) [(2,0,1)]) 8);rw[MU];exact Sf gl sv) rfl v;obtain⟨C,z2⟩:=T.tick;rw[<-B] at C z2;rw[MU,C,Xh] at hj;rw[MU,C,Xf] at hn;obtain⟨⟨env,ch⟩,S,R,W,A,tk,nu,⟨TA,Tn,Tc⟩,st,x,y,z⟩:=o;simp only at C z2 hj hn;obtain⟨rfl,rfl⟩:=af7 hj;subst C z2 hn;have E:aH (aD w w U):=⟨p.os.trans c.o.os,p.tape.trans c.o.tape,p.output.trans c.o.output,abX c.o.size p.size,λi hi=>(p.block i (.inl hi)).trans (c.o.block i hi)⟩
 clear p v B T H hj F kR c;simp only[jV];go_wp2_with fail
 go_ret
 exact⟨rfl,E.o.alloc E.o.size _⟩
inductive uX (k:Kv) (rs:List Rm) (a:Ac):Int->Kv->List Rm->Prop
 |res (h:a.kd=1):uX k rs a (JH k a.env a.bu a.pe) (MD k a.env a.bu a.pe) rs
 |Sj (h:a.kd=2):uX k rs a (MP k a.env) (P1 k a.env) rs
 |Sr (h:a.kd=3) (gl:Nat) (sv:aC):uX k rs a (zU rs a.env (a.ts.map Tm.t) (a.od%2)) k (J9 rs a.env (a.ts.map Tm.t) (a.od%2) gl sv)
 |Vo (h:a.kd=4):uX k rs a (UE k rs a.env) (Bj k rs a.env) (Cr rs a.env)
 |Sn (h:a.kd=5) (B:Option aJ) (d:Nat):uX k rs a (FC k rs a.env a.cs) (PT k rs a.env a.cs) (RI rs a.env a.cs B d)
 |go (h:a.kd≠1/\a.kd≠2/\a.kd≠3/\a.kd≠4/\a.kd≠5):uX k rs a (UO k rs a.env) (YN k rs a.env) (Ar rs a.env)
def Yi(a:Ac):aC:= .agg #[a.kd,a.env, .int .u8 a.n,a.bu,a.pe,(a.TA,a.ts.length,a.Tc), .int .u8 a.od,(a.CA,a.cs.length,a.Cc),(a.RA,a.rs.length,a.Rc),(a.WA,a.ws.length,a.Wc),(a.XA,a.xs.length,a.Xc),(a.QA,a.qs.length,a.Qc)]
def AH(F:Nat->Prop)(hb m g:Nat)(c:Int)(k:Kv)(rs:List Rm)(a:Ac)(w:aA)(e:aM)(w':aA):Prop:=∃(E:Int) (k':Kv) (rs':List Rm),e= .returned (.int .i64 E)/\uX k rs a E k' rs'/\bY F w' hb m g c k' rs'/\Kp F w w'
variable{E:Int}{oa:List Rm}
section
variable{F:Nat->Prop}{w w':aA}{hb m g:Nat}{c:Int}{k:Kv}{rs:List Rm}
theorem zB.act{a:Ac}{o:Obj}{e:aM}(h:bY F w hb m g c k rs)(r:zB (Fb F w) hb m g c k' oa (.int .i64 E) (w.alloc o) e w')(ha:uX k rs a E k' oa):e= .returned (.int .i64 E)/\aH (AH F hb m g c k rs a w (.returned (.int .i64 E)) w'):=by
 obtain⟨h1,d,f⟩:=r;exact⟨h1,E,k',oa,rfl,ha,d.less λb hb=> .inl hb,(h.below (aX w o)).2.trans f.unbox⟩
theorem Jf(h:bY F w hb m g c k rs)(A:KI k n0)(a:Ac)(I:sI (λb=>b<w.heap.size) w a)(C:xK a):aG prog 12 #[.pointer hb,Yi a] w (AH F hb m g c k rs a w):=by
 have p:=λo=>aX w o
 have l:=λo=>(bY.cM hb m g c k rs).box h h.fl o
 have f:=λo=>I.kp (Kp.cD (p o) λb hb=>hb)
 obtain⟨kd,env,n,bu,pe,TA,Tc,ts,od,CA,Cc,cs,RA,Rc,i,WA,Wc,ws,XA,Xc,xs,QA,Qc,qs⟩:=a;have z:=aP h;simp only[Yi];by_cases q:kd=1
 .subst q;have G:aH (∀o,aG prog 32 #[.pointer hb,env, .agg #[bu,pe]] (w.alloc o) λr w'=>r= .returned (.int .i64 (JH k env bu pe))/\aH (AH F hb m g c k rs ⟨1,env,n,bu,pe,TA,Tc,ts,od,CA,Cc,cs,RA,Rc,i,WA,Wc,ws,XA,Xc,xs,QA,Qc,qs⟩ w (.returned (.int .i64 (JH k env bu pe))) w')):=λo=>(SJ (l o) A.sd env bu pe).mono λe w' r=>r.act z.o (.res rfl)
  clear h l A I C f p z;go_enter func12,ntmps12
  go_wp2_with(go_at_call 32;(refine aS (G.o _) ?_);rintro r R ⟨rfl,j⟩)
  go_ret
  exact j.o
 by_cases s:kd=2
 .subst s;have G:aH (∀o,aG prog 35 #[.pointer hb,env] (w.alloc o) λr w'=>r= .returned (.int .i64 (MP k env))/\aH (AH F hb m g c k rs ⟨2,env,n,bu,pe,TA,Tc,ts,od,CA,Cc,cs,RA,Rc,i,WA,Wc,ws,XA,Xc,xs,QA,Qc,qs⟩ w (.returned (.int .i64 (MP k env))) w')):=λo=>(Gj (l o) A.sd env).mono λe w' r=>r.act z.o (.Sj rfl)
  clear h l A I C f p z;go_enter func12,ntmps12
  go_wp2_with(go_at_call 35;(refine aS (G.o _) ?_);rintro r R ⟨rfl,j⟩)
  go_ret
  exact j.o
 have T:(kd==1)=false:=by simpa using q
 have U:(kd==2)=false:=by simpa using s
 by_cases u:kd=4
 .subst u;have G:aH (∀o,aG prog 36 #[.pointer hb,env] (w.alloc o) λr w'=>r= .returned (.int .i64 (UE k rs env))/\aH (AH F hb m g c k rs ⟨4,env,n,bu,pe,TA,Tc,ts,od,CA,Cc,cs,RA,Rc,i,WA,Wc,ws,XA,Xc,xs,QA,Qc,qs⟩ w (.returned (.int .i64 (UE k rs env))) w')):=λo=>(Al (l o) A.Tz env).mono λe w' r=>r.act z.o (.Vo rfl)
  clear h l A I C f p z q s T U;go_enter func12,ntmps12
  go_wp2_with(go_at_call 36;(refine aS (G.o _) ?_);rintro r R ⟨rfl,j⟩)
  go_ret
  exact j.o
 have e4:(kd==4)=false:=by simpa using u
 by_cases D:kd=5
 .subst D;have G:aH (∀o,aG prog 37 #[.pointer hb,env,(CA,cs.length,Cc)] (w.alloc o) λr w'=>r= .returned (.int .i64 (FC k rs env cs))/\aH (AH F hb m g c k rs ⟨5,env,n,bu,pe,TA,Tc,ts,od,CA,Cc,cs,RA,Rc,i,WA,Wc,ws,XA,Xc,xs,QA,Qc,qs⟩ w (.returned (.int .i64 (FC k rs env cs))) w')):=λo=>(Bi (l o) A.Tz env Cc (f o).c (abX C.c cH) (f o).cr).mono λe w' ⟨B,d,r⟩=>r.act z.o (.Sn rfl B d)
  clear h l A I C f p z q s T U u e4;go_enter func12,ntmps12
  go_wp2_with(go_at_call 37;(refine aS (G.o _) ?_);rintro r R ⟨rfl,j⟩)
  go_ret
  exact j.o
 have e5:(kd==5)=false:=by simpa using D
 by_cases H:kd=3
 .subst H;clear T U e4 e5 q s u D;have ho:Int.tmod od 2=od%2:=Int.tmod_eq_emod_of_nonneg I.od.1;have o0:0<=od%2:=aQ;have o1:od%2<2:=aQ;have N:aH (∀o W,aD (w.alloc o).heap.size (w.alloc o) W->aG prog 25 #[(TA,ts.length,Tc)] W λr w'=>∃(A':Option aJ) (J:Nat) (L:List Tm),r= .returned (.slice A' ts.length J)/\aH (sR w' A' L/\L.map Tm.t=ts.map Tm.t/\aD (w.alloc o).heap.size (w.alloc o) w')):=λo W K=>by
   refine(WJ Tc W ((f o).t.keep K) (λx l=>((f o).se x l).1.keep K) (abX C.t cH) (λx l=>by have:=C.se x l;omega)).mono ?_;rintro r w' ⟨A',J,L,rfl,h1,V,h3⟩;exact⟨A',J,L,rfl,h1,V,K.trans (h3.mono K.size)⟩
  have O:aH (∀o P W A' J L,aH (sR P A' L/\L.map Tm.t=ts.map Tm.t/\aD (w.alloc o).heap.size (w.alloc o) P)->aD P.heap.size P W->aG prog 33 #[.pointer hb,env, .slice A' ts.length J, .int .i64 (od%2)] W λr w'=>r= .returned (.int .i64 (zU rs env (ts.map Tm.t) (od%2)))/\aH (AH F hb m g c k rs ⟨3,env,n,bu,pe,TA,Tc,ts,od,CA,Cc,cs,RA,Rc,i,WA,Wc,ws,XA,Xc,xs,QA,Qc,qs⟩ w (.returned (.int .i64 (zU rs env (ts.map Tm.t) (od%2)))) w'/\Kp (Fb F w) (w.alloc o) w')):=λo P W A' J L M hV=>by
   have K:aD (w.alloc o).heap.size (w.alloc o) W:=M.o.2.2.trans (hV.mono M.o.2.2.size);have h1:=(l o).below K;have hl:L.length=ts.length:=by have:=congrArg List.length M.o.2.1;simpa using this
   have X:∀x∈L,x.t.se.length<=1000000:=λx Y=>by
    have V:x.t∈ts.map Tm.t:=by rw[<-M.o.2.1];exact aeC.2 ⟨x,Y,rfl⟩
    obtain⟨y,hy,e⟩:=aeC.1 V;have:=C.se y hy;rw[<-e];omega
   have hc:=OX h1.1 env J (M.o.1.keep hV) (by rw[hl];exact abX C.t cH) X (od%2);rw[hl,M.o.2.1] at hc;refine hc.mono ?_;rintro r w' ⟨gl,sv,r1,r2,r3⟩;have k2:=h1.2.trans r3;exact⟨r1,⟨_,_,_,rfl, .Sr rfl gl sv,r2.less λb hb=> .inl hb,(z.o.below (aX w o)).2.trans k2.unbox⟩,k2⟩
  have Z:aH (∀o,¬Fb F w (w.alloc o).heap.size/\Fb F w w.heap.size):=λo=>⟨λh=>by
   have:=(l o).fl _ h;omega, .inr rfl⟩
  clear h l A I C f p z;generalize od%2=o2 at *;go_enter func12,ntmps12
  go_upto_region 7 with(fail)
  have S:=aP (bF.new w 44 #[.int .i64 3,env, .int .u8 n,bu,pe,(TA,ts.length,Tc), .int .u8 od,(CA,cs.length,Cc),(RA,i.length,Rc),(WA,ws.length,Wc),(XA,xs.length,Xc),(QA,qs.length,Qc)]);have d1:=S.o.cell 1 env rfl;have d5:=S.o.cell 5 (.slice TA ts.length Tc) rfl;have d6:=S.o.cell 6 (.int .u8 od) rfl;have a1:=aP (N.o (aI #[.int .i64 3,env, .int .u8 n,bu,pe,(TA,ts.length,Tc), .int .u8 od,(CA,cs.length,Cc),(RA,i.length,Rc),(WA,ws.length,Wc),(XA,xs.length,Xc),(QA,qs.length,Qc)] 44));have Q:=aP (O.o (aI #[.int .i64 3,env, .int .u8 n,bu,pe,(TA,ts.length,Tc), .int .u8 od,(CA,cs.length,Cc),(RA,i.length,Rc),(WA,ws.length,Wc),(XA,xs.length,Xc),(QA,qs.length,Qc)] 44));have v:aH (Fb F w w.heap.size):= .inr rfl;clear N O Z S;generalize w.alloc (aI #[.int .i64 3,env, .int .u8 n,bu,pe,(TA,ts.length,Tc), .int .u8 od,(CA,cs.length,Cc),(RA,i.length,Rc),(WA,ws.length,Wc),(XA,xs.length,Xc),(QA,qs.length,Qc)] 44)=w1 at *;generalize w.heap.size=q1 at *;have ow:IntKind.i64.wrap o2=o2:=by rw[IntKind.wrap_i64];omega
  go_region_held3 (λW=>W.cell? (q1,1)=some (.int .i64 env)/\W.cell? (q1,5)=some (.slice TA ts.length Tc)/\W.cell? (q1,6)=some (.int .u8 od)) (first|exact⟨d1,d5,d6⟩|exact⟨‹_›,‹_›,‹_›⟩|fail) ((first|(go_at_call 25;(with_reducible refine(a1.o _ (Below.refl _ _).drew).mono ?_);rintro r w3 ⟨A',J,L,rfl,E⟩;(have x1:=bK E.o.2.2 d1);(have x5:=bK E.o.2.2 d5);(have x6:=bK E.o.2.2 d6))|(go_at_call 33;(with_reducible refine(Q.o _ _ _ _ _ E (Below.refl _ _)).mono ?_);rintro r w4 ⟨rfl,j⟩;(have y1:=j.o.2.cell d1 v.o);(have y5:=j.o.2.cell d5 v.o);(have y6:=j.o.2.cell d6 v.o))|(go_at_call 33;(with_reducible refine(Q.o _ _ _ _ _ E (Below.refl _ _).drew).mono ?_);rintro r w4 ⟨rfl,j⟩;(have y1:=j.o.2.cell d1 v.o);(have y5:=j.o.2.cell d5 v.o);(have y6:=j.o.2.cell d6 v.o))))
  all_goals
   go_wp2_with fail
   go_ret
   exact j.o.1
 have e3:(kd==3)=false:=by simpa using H
 have G:aH (∀o,aG prog 38 #[.pointer hb,env] (w.alloc o) λr w'=>r= .returned (.int .i64 (UO k rs env))/\aH (AH F hb m g c k rs ⟨kd,env,n,bu,pe,TA,Tc,ts,od,CA,Cc,cs,RA,Rc,i,WA,Wc,ws,XA,Xc,xs,QA,Qc,qs⟩ w (.returned (.int .i64 (UO k rs env))) w')):=λo=>(Pc (l o) A.Tz env).mono λe w' r=>r.act z.o (.go ⟨q,s,H,u,D⟩)
 clear h l A I C f p z q s H u D;go_enter func12,ntmps12
 go_wp2_with(go_at_call 38;(refine aS (G.o _) ?_);rintro r R ⟨rfl,j⟩)
 go_ret
 exact j.o
end
end
section
open Go.RowKit Go.Lib
namespace Fr
theorem Iz(w:aA)(b off c:Nat)(L:List Int)(h:Sl eB 1 w (some ⟨b,off,none⟩) L)(n:Nat)(f:L.length=n):
 (convert 51 9 (.slice (some ⟨b,off,none⟩) n c)).run prog w= .ok (.string (strOfNums L)) w:=by
 refine run_convert_bytes_arg w 51 5 underlying51 underlying5 b off n c L f (λi hi=>?_) _ underlying9;have a:i<L.length:=aQ;obtain⟨j,e,d,hc⟩:=h aQ;injection d with d;injection d with h1 g;subst h1 g;have:=hc i L[i] 0 (.int .u8 L[i]) (abO a) rfl;rw[adT,acD] at this;rw[this,List.getD,abO a];rfl
end Fr
end
section
open Go.RowKit Go.Lib Go.Shelf dL Fr Up Nt
variable{i hb m g:Nat}{cs:Array aC}{S:ByteArray}{v:aC}{w w':aA}{F:Nat->Prop}{k:Kv}{rs:List Rm}
section
structure jI(F:Nat->Prop)(w:aA)(hb m g:Nat)(c:Int)(k:Kv)(rs:List Rm)(l:List Pt):Prop where
 ob:Ob (OC hb m g c k rs::l) F w
section
variable{F G:Nat->Prop}{w w':aA}{hb m g q:Nat}{c:Int}{k:Kv}{rs:List Rm}{l:List Pt}
theorem jI.fl(h:jI F w hb m g c k rs l):Ol F w:=h.ob.fl
theorem jI.less(h:jI F w hb m g c k rs l)(a:∀b,G b->F b):jI G w hb m g c k rs l:=⟨h.ob.Kz a⟩
theorem jI.below(h:jI F w hb m g c k rs l)(b:aD w w w'):jI F w' hb m g c k rs l/\Kp F w w':=⟨⟨h.ob.below b⟩,h.ob.NZ b⟩
theorem jI.grow(h:jI F w hb m g c k rs l)(hw:aD w w w'):jI (Nw F w w') w' hb m g c k rs l:=⟨dV.grow (Ob.cM _) h.ob h.ob.fl hw⟩
theorem jI.box(h:jI F w hb m g c k rs l)(x:Obj):jI (Fb F w) (w.alloc x) hb m g c k rs l:=⟨(Ob.cM _).box h.ob h.ob.fl x⟩
theorem jI.of(h:bY F w hb m g c k rs):jI F w hb m g c k rs []:=⟨Ob.single (p:=OC hb m g c k rs) h h.fl⟩
theorem jI.Ux(h:jI F w hb m g c k rs l):∃G,bY G w hb m g c k rs:=by
 obtain⟨G,a,_⟩:=h.ob.use 0 _ rfl;exact⟨G,a⟩
theorem jI.ho(h:jI F w hb m g c k rs l):∃G,(∀b,F b->G b)/\bY G w hb m g c k rs/\∀(k':Kv) (a:List Rm) (w':aA) (X:Nat->Prop),(∀b,X b->w.heap.size<=b)->bY (λb=>G b\/X b) w' hb m g c k' a->Kp G w w'->jI (λb=>F b\/X b) w' hb m g c k' a l/\Kp F w w':=by
 obtain⟨G,hs,e,back⟩:=h.ob.VI 0 _ rfl;refine⟨G,hs,e,λk' a w' X f d i=>?_⟩;obtain⟨b1,b2⟩:=back (OC hb m g c k' a) w' X f d (bY.fl d) i;exact⟨⟨b1⟩,b2⟩
theorem jI.aY(h:jI F w hb m g c k rs l){t:aN}(hp:l[i]?=some (PB q t cs)):bF w q t cs:=by
 obtain⟨G,a,_⟩:=h.ob.use (i+1) (PB q t cs) hp;exact(show mV q t cs G w from a).b
theorem jI.put(h:jI F w hb m g c k rs l){i:Nat}{t:aN}{cs:Array aC}(hp:l[i]?=some (PB q t cs))(j:Nat)(v:aC){cs':Array aC}(hc:cs'=cs.setIfInBounds j v):jI F (w.setCell (q,j) v) hb m g c k rs (l.set i (PB q t cs'))/\Kp F w (w.setCell (q,j) v):=by
 obtain⟨G,a,back⟩:=h.ob.use (i+1) (PB q t cs) hp;obtain⟨s1,s2⟩:=mV.set (cs':=cs') (show mV q t cs G w from a) j v hc;obtain⟨b1,b2⟩:=back (PB q t cs') _ s1 s2;exact⟨⟨b1⟩,b2⟩
theorem jI.new(h:jI F w hb m g c k rs l)(t:aN)(cs:Array aC):jI F (w.alloc (aI cs t)) hb m g c k rs (l++ [PB w t cs])/\Kp F w (w.alloc (aI cs t)):=
 ⟨⟨h.ob.add (p:=PB w t cs) (PB.mk (bF.new w t cs) (λb hb=>abR hb (aX w _).size) (adL _)) (aX w _)⟩,h.ob.NZ (aX w _)⟩
end
def fS(s:dK)(f:Nat):ByteArray:=strOfNums (pJ s f)
def oE(S:ByteArray)(v:aC)(w:aA):Prop:=∀w',bP w w'->(convert 51 9 v).run prog w'= .ok (.string S) w'
theorem oE.keep(h:oE S v w)(a:bP w w'):oE S v w':=λb d=>h b (fI a (abQ _) d)
theorem Hn(s:dK)(g f:Nat)(w:aA)(h:Fm w g s)(hf:f<s.n):aG prog 13 #[.pointer g,f] w λe w'=>∃v,e= .returned v/\bP w w'/\oE (fS s f) v w':=by
 unfold fS;refine(ZW s g f w h hf).mono ?_;rintro e w' ⟨O,d,rfl,hs,hb⟩;have hlen:=JF h.b (show f<32 by have:=h.n0;omega);refine⟨_,rfl,hb,λa i=>?_⟩;obtain⟨b,off,j,_⟩:=hs aQ;subst j;exact Iz a b off d _ (hs.keep i) _ rfl
structure LkC(w:aA)(g gf gc:Nat)(k:Kv):Prop where
 p0:w.cell? (g,0)=some (.pointer gf)
 p2:w.cell? (g,2)=some (.pointer gc)
 DV:∀f:Nat,f<k.f.n->∀W,bP w W->aG prog 13 #[.pointer gf,f] W λe w'=>∃v,e= .returned v/\bP W w'/\oE (fS k.f f) v w'
 tk:∀(f:Int) (n:CW (bP w)),aG prog 14 #[.pointer gf,f] n.w λe w'=>e= .returned (.bool (dA k.f f))/\bP n.w w'
 fd:∀(e f:Int) (n:CW (bP w)),aG prog 15 #[.pointer gc,e, .int .i64 1,f] n.w λr w'=>r= .returned (.int .i64 (kP k.c e 1 f))/\bP n.w w'
theorem bY.lk{c:Int}(h:bY F w hb m g c k rs):∃gf gc,LkC w g gf gc k:=by
 obtain⟨G,a,hk,_,_⟩:=h.kn;have p0:=hk.pf;have p2:=hk.pc;unfold pA at p0 p2;refine⟨a.gf,a.gc,p0,p2,λf hf W i=>?_,λf n=>?_,λe f n=>?_⟩
 .obtain⟨d,b,_⟩:=(hk.below i).1.fr;exact Hn k.f a.gf f W b.m hf
 .obtain⟨d,b,_⟩:=(hk.below n.ok).1.fr;exact P7 (BJ k.f a.gf f n.w b.m)
 .obtain⟨d,b,_⟩:=(hk.below n.ok).1.cp;exact RH b e 1 f
end
variable{k':Kv}{e N E p tk nu:Int}{L:List En}{ws qs:List (Int×Int×Int)}{rn:Rn}{n nT:Nat}{oa:List Rm}{AS:List Int}
section
theorem Mv.mono{A B:Int->Int->Int->Prop}(m:Mv A k k')(f:∀w d o,A w d o->B w d o):Mv B k k':=by
 cases m with
 |fZ h r=>exact .fZ (h.elim (λ⟨i,h1,c,g⟩=> .inl ⟨i,h1,f _ _ _ c,g⟩) .inr) r
 |nJ ho ha self j=>exact .nJ ho (f _ _ _ ha) self j
 |alloc h c=>exact .alloc h c
 |pass ho ha l h1 e s=>exact .pass ho (f _ _ _ ha) l h1 e s
 |write ho ha hk c a v=>exact .write ho (f _ _ _ ha) hk c a v
 |load ho hk he hf c=>exact .load ho hk he hf c
 |tl h=>exact .tl h
 |xR b v s n=>exact .xR b v s n
theorem sX.mono{A B:Int->Int->Int->Prop}(m:sX A k k')(a:∀w d o,A w d o->B w d o):sX B k k':=by
 induction m with
 |nil _=>exact .nil _
 |cons m _ b=>exact .cons (m.mono a) b
def gN(A:Int->Int->Int->Prop)(k k':Kv):Prop:=KJ k->sX A k k'/\(HD k->HD k')
section
variable{A B:Int->Int->Int->Prop}{k k1 k':Kv}
theorem gN.refl(k:Kv):gN A k k:=λ_=>⟨.nil _,λd=>d⟩
theorem gN.trans(h:gN A k k1)(e:gN A k1 k'):gN A k k':=λhk=>by
 obtain⟨a,b⟩:=h hk;obtain⟨c,d⟩:=e (hk.BR a);exact⟨a.trans c,λx=>d (b x)⟩
theorem gN.mono(h:gN A k k')(a:∀w d o,A w d o->B w d o):gN B k k':=λhk=>⟨(h hk).1.mono a,(h hk).2⟩
theorem gN.xR(k:Kv)(b:List Nt)(v:List Vc)(s:Sd)(n:Nat):gN A k {k with b:=b,v:=v,s:=s,n:=n}:=λ_=>⟨.one (.xR b v s n),λd=>d.same rfl rfl⟩
theorem gN.tell(k:Kv)(e:Int):gN A k (dQ k e):=by
 unfold dQ;split
 .exact gN.xR k k.b k.v _ k.n
 .exact gN.refl _
theorem gN.mQ(l:List Int):∀k:Kv,gN A k (dX k l):=by
 induction l with
 |nil=>intro k;exact gN.refl _
 |cons e l a=>intro k;exact(gN.tell k e).trans (a _)
end
theorem iN.zS{c x:Int}(he:0<=e/\e<8)(r:iN c e i x k N E k'):gN (JR e) k k':=λhk=>by
 unfold iN at r;split at r
 .rw[r.2.2];exact⟨.nil _,λd=>d⟩
 .split at r
  .rcases r with r|r
   .have a:0<=aW x:=by unfold aW;omega
    exact⟨r.BR hk he a,λd=>r.hd hk d he a⟩
   .rw[r.2.2];exact⟨.nil _,λd=>d⟩
  .rw[r.2.2];exact⟨.nil _,λd=>d⟩
theorem uR.zS{c:Int}{ws:List Int}{D:List (Int×Int)}(he:0<=e/\e<8)(r:uR c e k ws D k'):gN (JR e) k k':=by
 induction r with
 |nil=>exact gN.refl _
 |snoc _ x h a=>exact a.trans (h.zS he)
theorem Y7{a f:Int}{b:Bool}(h:Pa.Cp.nN L a p=some (f,b)):∃x∈L,x.env=a/\x.cZ=p/\x.frame=f/\x.write=b:=by
 unfold Pa.Cp.nN at h;cases hf:L.find? (mK a p) with
 |none=>rw[hf] at h;cases h
 |some x=>
  rw[hf] at h;injection h with h;obtain⟨h1,c⟩:=af7 h;obtain⟨d,e⟩:=kK.1 (List.find?_some hf);exact⟨x,afM hf,d,e,h1,c⟩
theorem ZD{x:En}:∀{L:List En},qH L->x∈L->Pa.Cp.nN L x.env x.cZ=some (x.frame,x.write)
 | [],_,h=>by cases h
 |y::L,u,h=>by
  unfold qH at u;rw[ae2] at u;unfold Pa.Cp.nN;by_cases a:mK x.env x.cZ y=true
  .rw[List.find?_cons_of_pos a];rcases ad3.1 h with rfl|h
   .rfl
   .exact absurd (kK.1 a) (u.1 x h)
  .rw[List.find?_cons_of_neg a];rcases ad3.1 h with rfl|h
   .exact absurd (kK.2 ⟨rfl,rfl⟩) a
   .exact ZD u.2 h
theorem Qo{s:dK}(h:AA (Pa.Cp.nN k.t e) k.f s):gN (JR e) k {k with f:=s}:=λhk=>by
 induction h with
 |refl=>exact⟨.nil _,λd=>d⟩
 | @put s1 r p f a v hp b=>
  obtain⟨x,g,j,q,l,m⟩:=Y7 hp;obtain⟨i,n,i1,i2,i3,i4⟩:=hk.tb x g;have m2:Mv (JR e) {k with f:=s1} {k with f:=iV s1 (bI k.c i).ob a v}:=Mv.write (k:={k with f:=s1}) n (by show _=e;rw[<-j,i1]) i2 (i4 m) a v;rw[i3,l] at m2;refine⟨b.1.trans (.one m2),λd o ho=>?_⟩;obtain⟨n1,t1,_,_⟩:=sO s1 f a v;exact b.2 d o (by rw[<-BO n1 t1 o];exact ho)
theorem lZ.zS(he:0<=e/\e<8)(r:lZ e k k'):gN (JR e) k k':=by
 induction r with
 |refl=>exact gN.refl _
 | @run k1 r L s hL hs g=>
  refine g.trans ((Qo hs).trans λhk=>⟨.one (Mv.tl (k:={k1 with f:=s}) λx p=>?_),λd=>d.same rfl rfl⟩);have h1:=ZD hL.1 p;rw[hL.2.2] at h1;obtain⟨y,q,i,j,m,o⟩:=Y7 h1;obtain⟨a,b,c,d⟩:=x;obtain⟨a',t,u,z⟩:=y;simp only at i j m o;subst i j m o;exact q
 |Cu r l x N E h g=>exact g.trans (h.zS he)
 | @FI k1 r b g=>exact g.trans (gN.xR k1 k1.b k1.v _ k1.n)
 |tell r g=>exact g.trans (gN.tell _ e)
theorem jZ.zS{l:List Nt}(r:jZ l k k'):gN (λw d o=>∃x∈l,R9 x.dU x.fD w d o) k k':=by
 induction r with
 |nil _=>exact gN.refl _
 | @cons x l k k1 k' r1 r ih=>
  have h1:gN (R9 x.dU x.fD) k k1:=λhk=>r1.BR hk
  exact(h1.mono λw d o h=>⟨x,aT,h⟩).trans ((gN.tell k1 x.dU).trans (ih.mono λw d o ⟨y,a,h⟩=>⟨y,by simp[a],h⟩))
theorem BS{x:Nt}:∀{l:List Nt} {n:Nat},x∈lM n l->∃y∈l,y.dU=x.dU/\y.fD=x.fD/\y.dI=x.dI
 | [],_,h=>by cases h
 |y::l,n,h=>by
  unfold lM at h;rcases ad3.1 h with rfl|h
  .exact⟨y,aT,rfl,rfl,rfl⟩
  .obtain⟨z,a,h⟩:=BS h;exact⟨z,by simp[a],h⟩
def Yh(b:List Nt)(nw:Int):Int->Int->Int->Prop:=λw d o=>∃x∈b,x.dI<=nw/\R9 x.dU x.fD w d o
theorem kJ.zS(r:kJ k k'):gN (Yh k.b k.s.nw) k k':=by
 obtain⟨l1,c,T,e,f,h,rfl⟩:=r;refine(gN.mQ l1 k).trans (gN.trans (gN.xR (dX k l1) (k.b.filter λx=>decide (k.s.nw<x.dI)) (T.foldl mT k.v) (dX k l1).s (dX k l1).n) (gN.trans (h.zS.mono λw d o ⟨x,g,h⟩=>?_) (gN.mQ c e)));obtain⟨y,a,i,j,l⟩:=BS (f.mem_iff.1 g);rw[adB,aeE] at a;exact⟨y,a.1,a.2,by rw[i,j];exact h⟩
theorem Db{A:Int->Int->Int->Prop}(k:Kv)(e o gr:Int):gN A k (iB k e o gr).2:=by
 unfold iB;split
 .exact gN.refl _
 .split
  .exact gN.refl _
  .split
   .exact gN.refl _
   .exact(gN.xR k _ k.v k.s k.n).trans (gN.tell _ e)
theorem WK{A:Int->Int->Int->Prop}(ws:List (Int×Int×Int)):∀k:Kv,gN A k (kD k ws):=by
 induction ws with
 |nil=>intro k;exact gN.refl _
 |cons a l b=>intro k;exact(Db k a.1 a.2.1 a.2.2).trans (b _)
theorem MW(k:Kv)(e:Int):(dQ k e).b=k.b:=by unfold dQ;split <;> rfl
theorem M8(k:Kv)(e:Int):(dQ k e).v=k.v:=by unfold dQ;split <;> rfl
theorem MQ(k:Kv)(e:Int):(dQ k e).c=k.c:=by unfold dQ;split <;> rfl
theorem LJ(l:List Int):∀k:Kv,(dX k l).b=k.b/\(dX k l).v=k.v/\(dX k l).c=k.c:=by
 induction l with
 |nil=>intro k;exact⟨rfl,rfl,rfl⟩
 |cons e l a=>
  intro k;obtain⟨h1,d,f⟩:=a (dQ k e);exact⟨h1.trans (MW k e),d.trans (M8 k e),f.trans (MQ k e)⟩
theorem Nk(k:Kv)(e o gr:Int):(∀x∈k.b,x∈(iB k e o gr).2.b)/\(∀x∈(iB k e o gr).2.b,x∈k.b\/k.s.nw<x.dI)/\(iB k e o gr).2.v=k.v/\(iB k e o gr).2.c=k.c:=by
 unfold iB;split
 .exact⟨λx a=>a,λx a=> .inl a,rfl,rfl⟩
 .split
  .exact⟨λx a=>a,λx a=> .inl a,rfl,rfl⟩
  .split
   .exact⟨λx a=>a,λx a=> .inl a,rfl,rfl⟩
   .rename_i h1 f g;simp only[MW,M8,MQ];refine⟨λx a=>?_,λx a=>?_,trivial,trivial⟩
    .unfold gV;split
     .split
      .exact a
      .exact aeU _ a
     .exact a
    .unfold gV at a;split at a
     .rename_i d;split at a
      .exact .inl a
      .rcases ab9.1 a with a|a
       .exact .inl a
       .rw[ab3.1 a];have:1<=gr:=by unfold xD at d;omega
        exact .inr (by show _<k.s.nw+gr;omega)
     .exact .inl a
theorem QG(ws:List (Int×Int×Int)):∀k:Kv,(∀x∈k.b,x∈(kD k ws).b)/\(∀x∈(kD k ws).b,x∈k.b\/k.s.nw<x.dI)/\(kD k ws).v=k.v/\(kD k ws).c=k.c:=by
 induction ws with
 |nil=>intro k;exact⟨λx d=>d,λx d=> .inl d,rfl,rfl⟩
 |cons a l e=>
  intro k;obtain⟨h1,f,g,i⟩:=e (iB k a.1 a.2.1 a.2.2).2;obtain⟨g1,g2,g3,g4⟩:=Nk k a.1 a.2.1 a.2.2;have j:=RR k a.1 a.2.1 a.2.2;refine⟨λx d=>h1 x (g1 x d),λx d=>?_,g.trans g3,i.trans g4⟩;rcases f x d with h|h
  .exact g2 x h
  .exact .inr (by rw[<-j];exact h)
def ZO(b:List Nt)(nw env:Int):Int->Int->Int->Prop:=λw d o=>w=env\/Yh b nw w d o
theorem tC.zS{c:Int}{xs:List Wd}{D:List (Int×Int)}(h:tC k c ws xs rn D k')(m:KI k n):gN (ZO k.b k.s.nw rn.env) k k':=by
 have p:=h.XE m;obtain⟨a,hb,r,h⟩:=h;have h1:gN (ZO k.b k.s.nw rn.env) k a:=(WK ws k).trans (hb.zS.mono λw d o ⟨x,q,e,h⟩=>by
  rw[AZ] at e;rcases(QG ws k).2.1 x q with g|g
  .exact .inr ⟨x,g,e,h⟩
  .omega)
 have l:gN (ZO k.b k.s.nw rn.env) a {a with s:=(gJ a.s).2}:=gN.xR a a.b a.v _ a.n;rcases h with⟨i,z,he,t,ha⟩|⟨he,_,rfl⟩
 .have f:0<=rn.env/\rn.env<8:=by
   rcases p with h|⟨j,h,u⟩ <;> omega
  exact h1.trans (l.trans ((ha.zS f).mono λw d o h=> .inl h))
 .exact h1.trans l
theorem kR.zS{c:Int}{xs:List Wd}{D:List (Int×Int)}(h:kR c k rs ws xs qs rn D AS tk nu nT k' oa)(a:KI k n):gN (ZO k.b k.s.nw rn.env) k k':=by
 obtain⟨g,h1,j⟩:=h.t;obtain⟨l,z2,z3⟩:=wD a.sd a.p4 (gX rs qs) 8;have m:=h1.zS (a.DZ l z2);have f:gN (ZO k.b k.s.nw rn.env) k g:=(gN.xR k k.b k.v (jY k.s (gX rs qs) 8) k.n).trans (m.mono λw d o h=>by
  rcases h with h|⟨x,p,e,h⟩
  .exact .inl h
  .exact .inr ⟨x,p,by have:x.dI<=(jY k.s (gX rs qs) 8).nw:=e;omega,h⟩)
 rcases j with⟨i,he,hi,_,q,_⟩|⟨_,rfl,_⟩
 .refine f.trans ((q.zS aQ).mono λw d o h=> .inl ?_);rw[he];exact h
 .exact f
end
variable{C:Cf}{ob rt op D:Int}
section
def O4(k:Kv):Prop:=∀i,Oc k.c i->i<64
theorem O4.sub(h:O4 k)(s:nI k'.c k.c):O4 k':=λi hi=>h i (s.s i hi).1
theorem O4.same(h:O4 k)(hc:k'.c=k.c):O4 k':=λi hi=>h i (by rw[<-hc];exact hi)
structure Ax(k k':Kv):Prop where
 b:k'.b.Sublist k.b
 v:k'.v=k.v
 o:O4 k->O4 k'
section
variable{k k1 k':Kv}
theorem Ax.refl(k:Kv):Ax k k:=⟨adK _,rfl,λh=>h⟩
theorem Ax.trans(h:Ax k k1)(a:Ax k1 k'):Ax k k':=⟨a.b.trans h.b,a.v.trans h.v,λx=>a.o (h.o x)⟩
theorem Ax.of(hb:k'.b=k.b)(a:k'.v=k.v)(hc:k'.c=k.c):Ax k k':=⟨by rw[hb];exact adK _,a,λh=>h.same hc⟩
theorem Ax.tell(k:Kv)(e:Int):Ax k (dQ k e):=Ax.of (MW k e) (M8 k e) (MQ k e)
theorem Hc{o:Int}(r:kB k o k'):nI k'.c k.c:=by
 obtain⟨L,_,rfl⟩:=r;exact qK k.c _
theorem Ax.fZ{o:Int}(r:kB k o k'):Ax k k':=⟨r.sm.b,r.sm.v,λh=>h.sub (Hc r)⟩
theorem Ax.nJ(k:Kv)(num:Int)(self:Bool)(L:List cP):Ax k (iA k num self L):=⟨adK _,rfl,λh=>h.sub (qK k.c _)⟩
theorem Ax.Wj{l:List cP}(r:gD l k k'):Ax k k':=by
 induction r with
 |nil k=>exact Ax.refl k
 |skip _ _ a=>exact a
 |fZ _ r1 _ a=>exact(Ax.fZ r1).trans a
theorem Ax.Lr{l:List Int}(r:iZ e l k k'):Ax k k':=by
 induction r with
 |nil k=>exact Ax.refl k
 |no _ _ a=>exact a
 |drop _ L _ _ a=>exact(Ax.nJ _ _ _ L).trans a
theorem Ax.take{o:Int}(r:nP e o k k'):Ax k k':=by
 cases r with
 |no _ h=>rw[h];exact Ax.refl k
 |keep _ r _=>exact Ax.Lr r
 |fZ _ r _ a=>exact(Ax.Lr r).trans (Ax.fZ a)
theorem Ax.Xk{l:List Nt}(r:jZ l k k'):Ax k k':=by
 induction r with
 |nil k=>exact Ax.refl k
 |cons r1 _ a=>exact(Ax.take r1).trans ((Ax.tell _ _).trans a)
theorem MM{s kd pf:Int}(h:∀i,Oc C i->i<64)(he:e<4):∀i,Oc (dC C e s kd ob rt pf).2 i->i<64:=by
 unfold dC;split
 .exact h
 .split
  .exact h
  .rename_i k hk;split
   .exact h
   .intro i hi;by_cases c:i=k
    .obtain⟨_,a,b,ha,hb,_,d,rfl⟩:=uY hk;omega
    .refine h i ⟨hi.1,?_⟩;have:=hi.2;unfold bI at this⊢;rw[ab1,ad4 (λe=>c e.symm)] at this;rw[ab1];exact this
theorem PZ{env f o t r m:Int}(h:∀i,Oc C i->i<64)(ho:o<4):∀i,Oc (gW C env f o t r m).2 i->i<64:=by
 rcases xB (C:=C) (env:=env) (from_:=f) (other:=o) (to_:=t) (rights:=r) (more:=m) with a|⟨i,c,a,d,e,b⟩
 .rw[a];exact h
 .rw[b];exact MM h ho
theorem lG.ax{A B C:Int}(he:e<4)(r:lG k e op A B C D N E k'):Ax k k':=by
 cases r with
 |alloc _=>
  unfold lI;split
  .exact Ax.refl k
  .split
   .exact Ax.refl k
   .split
    .exact Ax.of rfl rfl rfl
    .split <;> exact⟨adK _,rfl,λh=>MM h he⟩
 |free _ r=>
  unfold rO at r;split at r
  .rw[r.2];exact Ax.refl k
  .exact Ax.fZ r.2
 |read _=>exact Ax.refl k
 |write _=>
  unfold oJ;split
  .exact Ax.refl k
  .split
   .exact Ax.refl k
   .exact Ax.of rfl rfl rfl
 |load _=>
  unfold mR;split
  .exact Ax.refl k
  .split
   .exact Ax.refl k
   .exact Ax.of rfl rfl rfl
 |zI _=>exact Ax.of rfl rfl rfl
 |hand _ r=>
  unfold gU at r;split at r
  .rw[(af7 r).2];exact⟨adK _,rfl,λh=>PZ h he⟩
  .split at r
   .split at r
    .rename_i b;have a:B<4:=by unfold oI at b;exact(adD b).2
     rw[(af7 r).2];exact⟨adK _,rfl,λh=>PZ h a⟩
    .rw[r.2];exact Ax.refl k
   .split at r
    .unfold p5 at r;split at r
     .rw[r.2];exact Ax.refl k
     .obtain⟨_,L,_,rfl⟩:=r;exact Ax.nJ _ _ _ L
    .unfold wV at r;split at r
     .rw[r.2];exact Ax.refl k
     .obtain⟨_,L,_,r⟩:=r;exact(Ax.nJ _ _ _ L).trans (Ax.Wj r)
 |line _=>exact Ax.refl k
 |qC _ _=>exact Ax.of rfl rfl rfl
 |time _ r=>
  unfold mU at r;split at r
  .rw[r.2];exact Ax.of rfl rfl rfl
  .split at r
   .rw[r.2];exact Ax.of rfl rfl rfl
   .rcases r with r|r
    .rw[r];exact Ax.refl k
    .rw[r];exact Ax.of rfl rfl rfl
 |send _ r=>
  rcases r with r|⟨o,r⟩
  .rw[r];exact Ax.refl k
  .rw[r];exact Ax.tell k o
 |next _ _=>exact Ax.refl k
 |null _=>exact Ax.refl k
theorem iN.ax{c x:Int}(he:e<4)(r:iN c e i x k N E k'):Ax k k':=by
 unfold iN at r;split at r
 .rw[r.2.2];exact Ax.refl k
 .split at r
  .rcases r with r|r
   .exact r.ax he
   .rw[r.2.2];exact Ax.refl k
  .rw[r.2.2];exact Ax.refl k
theorem uR.ax{c:Int}{ws:List Int}{D:List (Int×Int)}(he:e<4)(r:uR c e k ws D k'):Ax k k':=by
 induction r with
 |nil=>exact Ax.refl k
 |snoc _ x h a=>exact a.trans (h.ax he)
theorem lZ.ax(he:e<4)(r:lZ e k k'):Ax k k':=by
 induction r with
 |refl=>exact Ax.refl k
 |run r L s c hs a=>exact a.trans (Ax.of rfl rfl rfl)
 |Cu r l x N E h a=>exact a.trans (h.ax he)
 |FI r b a=>exact a.trans (Ax.of rfl rfl rfl)
 |tell r a=>exact a.trans (Ax.tell _ e)
theorem kR.ax{c:Int}{xs:List Wd}{D:List (Int×Int)}(h:kR c k rs ws xs qs rn D AS tk nu nT k' oa)(f:KI k n):(O4 k->O4 k')/\∃(b:List Nt) (T:List Nt),(∀x∈k.b,x∈b)/\(ws= []->b=k.b)/\(∀x∈b,(0<=x.dU/\x.dU<4)/\0<=x.fD/\x.fD<6)/\(b.Pairwise λx y=>¬(x.dU=y.dU/\x.fD=y.fD))/\T.Perm (lM 0 (b.filter λx=>decide (x.dI<=k.s.nw)))/\k'.v=T.foldl mT k.v/\k'.b.Sublist (b.filter λx=>decide (k.s.nw<x.dI)):=by
 obtain⟨m,h1,r⟩:=h.t;obtain⟨u,z2,z3⟩:=wD f.sd f.p4 (gX rs qs) 8;have a:=f.DZ u z2;have A:=h1.XE a;have g:rn.env<4:=by rcases A with h|⟨i,h,hi⟩ <;> omega
 have B:Ax m k':=by
  rcases r with⟨i,he,hi,_,C,_⟩|⟨_,rfl,_⟩
  .exact C.ax aQ
  .exact Ax.refl _
 obtain⟨e,hb,N,E⟩:=h1;have F:Ax e m:=by
  rcases E with⟨i,z,he,O,ha⟩|⟨_,_,rfl⟩
  .exact(Ax.of rfl rfl rfl:Ax e {e with s:=(gJ e.s).2}).trans (ha.ax g)
  .exact Ax.of rfl rfl rfl
 have j:=F.trans B;have d:=AY ws a;have wn:=AZ ws {k with s:=jY k.s (gX rs qs) 8};obtain⟨G,_,H,I⟩:=QG ws {k with s:=jY k.s (gX rs qs) 8};have J:ws= []->(kD {k with s:=jY k.s (gX rs qs) 8} ws).b=k.b:=λh=>by rw[h];rfl
 rw[show({k with s:=jY k.s (gX rs qs) 8}:Kv).s.nw=k.s.nw from z3] at wn;generalize kD {k with s:=jY k.s (gX rs qs) 8} ws=kw at *;obtain⟨l1,K,T,L,p,M,rfl⟩:=hb;have t1:=LJ l1 kw;have t2:=LJ K L;have l:=Ax.Xk M;rw[wn] at p;refine⟨λh=>?_,kw.b,T,G,J,d.bb,d.bu,p,?_,?_⟩
 .have o1:O4 (dX kw l1):=h.same (t1.2.2.trans I);exact j.o ((l.o (o1.same rfl)).same t2.2.2)
 .rw[j.v,t2.2.1,l.v,H]
 .have q:=j.b.trans (by rw[t2.1];exact l.b);rw[wn] at q;exact q
end
end
section
theorem Lv(a b:Nat):(a ||| b) &&& a=a/\(a ||| b) &&& b=b:=by
 constructor <;> (apply Nat.eq_of_testBit_eq;intro i;simp only[Nat.testBit_and,Nat.testBit_or];cases a.testBit i <;> cases b.testBit i <;> rfl)
theorem Wt(F a b:Nat)(h1:F &&& a=a)(d:F &&& b=b):F &&& (a ||| b)=a ||| b:=by rw[Nat.and_or_distrib_left,h1,d]
theorem Ys{a b:Int}(ha:0<=a/\a<=15)(hb:0<=b/\b<=15):(0<=bits .or .i64 a b/\bits .or .i64 a b<=15)/\dM (bits .or .i64 a b) a=a/\dM (bits .or .i64 a b) b=b/\∀F:Int,0<=F/\F<=15->dM F a=a->dM F b=b->dM F (bits .or .i64 a b)=bits .or .i64 a b:=by
 have d:=(iS ha hb).2;have h1:a.toNat ||| b.toNat<2 ^ 4:=Nat.or_lt_two_pow aQ aQ;have e:0<=bits .or .i64 a b/\bits .or .i64 a b<=15:=by rw[d];omega
 refine⟨e,?_,?_,λF hF f1 f2=>?_⟩
 .rw[(iS e ha).1,d,abZ,(Lv _ _).1];omega
 .rw[(iS e hb).1,d,abZ,(Lv _ _).2];omega
 .rw[(iS hF ha).1] at f1;rw[(iS hF hb).1] at f2;rw[(iS hF e).1,d,abZ,Wt _ _ _ aQ aQ]
theorem EK(kd ob:Int):∀(L:List cP) (r:Int),(0<=r/\r<=15)->(∀p∈L,0<=p.h.rt/\p.h.rt<=15)->
 (0<=L.foldl (λr p=>if p.h.kd=kd/\p.h.ob=ob then bits .or .i64 r p.h.rt else r) r/\L.foldl (λr p=>if p.h.kd=kd/\p.h.ob=ob then bits .or .i64 r p.h.rt else r) r<=15)/\
 dM (L.foldl (λr p=>if p.h.kd=kd/\p.h.ob=ob then bits .or .i64 r p.h.rt else r) r) r=r/\
 (∀p∈L,p.h.kd=kd->p.h.ob=ob->dM (L.foldl (λr p=>if p.h.kd=kd/\p.h.ob=ob then bits .or .i64 r p.h.rt else r) r) p.h.rt=p.h.rt)/\
 ∀F:Int,0<=F/\F<=15->dM F r=r->(∀p∈L,p.h.kd=kd->p.h.ob=ob->dM F p.h.rt=p.h.rt)->dM F (L.foldl (λr p=>if p.h.kd=kd/\p.h.ob=ob then bits .or .i64 r p.h.rt else r) r)=L.foldl (λr p=>if p.h.kd=kd/\p.h.ob=ob then bits .or .i64 r p.h.rt else r) r
 | [],r,b,_=>⟨b,by rw[List.foldl_nil,(iS b b).1,Nat.and_self];omega,λp hp=>(by cases hp),λF _ h _=>h⟩
 |q::L,r,b,hL=>by
  rw[aeB];have hq:=hL q aT;obtain⟨o1,o2,o3,d⟩:=Ys b hq;by_cases hc:q.h.kd=kd/\q.h.ob=ob
  .rw[abS hc];obtain⟨f1,f2,f3,f4⟩:=EK kd ob L _ o1 λp hp=>hL p (by simp[hp])
   refine⟨f1,xG f1 o1 b f2 o2,λp hp h1 a=>?_,λF hF h1 a=>f4 F hF (d F hF h1 (a q aT hc.1 hc.2)) λp hp=>a p (by simp[hp])⟩;rcases ad3.1 hp with rfl|hp
   .exact xG f1 o1 hq f2 o3
   .exact f3 p hp h1 a
  .rw[abT hc];obtain⟨f1,f2,f3,f4⟩:=EK kd ob L r b λp hp=>hL p (by simp[hp])
   refine⟨f1,f2,λp hp h1 a=>?_,λF hF h1 a=>f4 F hF h1 λp hp=>a p (by simp[hp])⟩;rcases ad3.1 hp with rfl|hp
   .exact absurd ⟨h1,a⟩ hc
   .exact f3 p hp h1 a
theorem Gi(h:CI C)(e ob:Int):(0<=kP C e 1 ob/\kP C e 1 ob<=15)/\(∀i,Oc C i->((i /16:Nat):Int)=e->(bI C i).kd=1->(bI C i).ob=ob->dM (kP C e 1 ob) (bI C i).rt=(bI C i).rt)/\
 ∀F:Int,0<=F/\F<=15->(∀i,Oc C i->((i /16:Nat):Int)=e->(bI C i).kd=1->(bI C i).ob=ob->dM F (bI C i).rt=(bI C i).rt)->dM F (kP C e 1 ob)=kP C e 1 ob:=by
 obtain⟨f1,_,f3,f4⟩:=EK 1 ob (rW C e) 0 aQ λp hp=>by
  obtain⟨i,a,_,_,b,_⟩:=FT hp;rw[b];exact h.rt i a
 refine⟨f1,λi a hi h1 d=>?_,λF hF h1=>f4 F hF ?_ λp hp f g=>?_⟩
 .have:=f3 _ (by rw[<-hi];exact OK a) h1 d;exact this
 .rw[(iS hF aQ).1];simp
 .obtain⟨i,a,d,_,b,_⟩:=FT hp;rw[b] at f g⊢;exact h1 i a d.symm f g
theorem Z9(h:CI C){m:Int}(hm:0<=m/\m<=15)(b:dM (kP C e 1 ob) m=0):TL C e ob m:=λi a h1 d f=>by
 obtain⟨f1,f2,_⟩:=Gi h e ob;exact RF f1 (h.rt i a) hm (f2 i a h1 d f) b
theorem Hx{o m:Int}(he:e<0):TL C e o m:=λi _ h1=>by omega
structure KQ(k:Kv):Prop where
 j:KJ k
 d:HD k
 o:O4 k
section
variable{c:Int}{k k':Kv}{rs rs':List Rm}{ws:List (Int×Int×Int)}{xs:List Wd}{qs:List (Int×Int×Int)}{rn:Rn}{D:List (Int×Int)}{AS:List Int}{tk nu:Int}{nT n:Nat}
theorem kR.kq(h:kR c k rs ws xs qs rn D AS tk nu nT k' rs')(a:KI k n)(q:KQ k):KQ k':=by
 obtain⟨m,d⟩:=h.zS a q.j;exact⟨q.j.BR m,d q.d,(h.ax a).1 q.o⟩
theorem kR.writes(h:kR c k rs [] xs qs rn D AS tk nu nT k' rs')(g:KI k n)(q:KQ k)(hb:k.b= []):k'.b= []/\∀o:Int,dA k.f o=true->(rn.env<0\/dM (kP k.c rn.env 1 o) 10=0)->pJ k'.f o.toNat=pJ k.f o.toNat:=by
 have hs:=h.zS g q.j;obtain⟨_,b,T,_,hw,_,_,_,_,a⟩:=h.ax g;rw[hw rfl,hb] at a;refine⟨List.sublist_nil.1 a,λo ho e=>?_⟩;have hm:sX (λw _ _=>w=rn.env) k k':=hs.1.mono λw d o h=>by
  rcases h with h|⟨x,i,_⟩
  .exact h
  .rw[hb] at i;cases i
 have p:PW rn.env o (pJ k.f o.toNat) k:=⟨ho,rfl,by
  rcases e with e|e
  .exact Hx e
  .exact Z9 q.j.ci aQ e,q.j.ro o ho (q.d o ho)⟩
 exact(p.BR q.j hm).DV
end
end
section
theorem kB.s_{o:Int}(h:kB k o k'):k'.s=k.s:=by
 obtain⟨L,_,rfl⟩:=h;rfl
theorem gD.s_{l:List cP}(h:gD l k k'):k'.s=k.s:=by
 induction h with
 |nil=>rfl
 |skip _ _ a=>exact a
 |fZ _ r1 _ a=>rw[a,r1.s_]
theorem gU.s_{A B C:Int}(h:gU k e op A B C D E k'):k'.s=k.s:=by
 unfold gU at h;split at h
 .injection h with _ h;rw[h]
 .split at h
  .split at h
   .injection h with _ h;rw[h]
   .rw[h.2]
  .split at h
   .unfold p5 at h;split at h
    .rw[h.2]
    .obtain⟨_,L,_,h⟩:=h;rw[h];rfl
   .unfold wV at h;split at h
    .rw[h.2]
    .obtain⟨_,L,_,h⟩:=h;rw[h.s_];rfl
theorem rO.s_{s:Int}(h:rO k e s E k'):k'.s=k.s:=by
 unfold rO at h;split at h
 .rw[h.2]
 .exact h.2.s_
theorem Ew(k:Kv)(e s:Int):(lI k e s).2.2.s=k.s:=by
 unfold lI;split
 .rfl
 .split
  .rfl
  .split
   .rfl
   .split <;> rfl
theorem Ff(k:Kv)(e s a v:Int):(oJ k e s a v).2.s=k.s:=by
 unfold oJ;split
 .rfl
 .split <;> rfl
theorem Ni(k:Kv)(e s p w:Int):(mR k e s p w).2.s=k.s:=by
 unfold mR;split
 .rfl
 .split <;> rfl
theorem UL(s:Sd)(e bu pe:Int):(qQ s e bu pe).nw=s.nw:=by
 unfold qQ;split
 .unfold FA;split <;> rfl
 .rfl
theorem TS(s:Sd)(e:Int):(sH s e).nw=s.nw:=by
 unfold sH;split <;> rfl
theorem lG.nw{A B C:Int}(r:lG k e op A B C D N E k'):k'.s.nw=k.s.nw:=by
 cases r with
 |alloc h=>rw[Ew]
 |free h r=>rw[r.s_]
 |read h=>rfl
 |write h=>rw[Ff]
 |load h=>rw[Ni]
 |zI h=>rfl
 |hand h r=>rw[r.s_]
 |line h=>rfl
 |qC h hm=>rfl
 |time h r=>
  unfold mU at r;split at r
  .rw[r.2];exact UL _ _ _ _
  .split at r
   .rw[r.2];exact TS _ _
   .rcases r with rfl|rfl
    .rfl
    .exact yM _ _ _
 |send h r=>
  rcases r with rfl|⟨o,rfl⟩
  .rfl
  .exact zE _ _
 |next h a=>rfl
 |null h=>rfl
theorem uR.nw{c:Int}{ws:List Int}{D:List (Int×Int)}(h:uR c e k ws D k'):k'.s.nw=k.s.nw:=by
 induction h with
 |nil=>rfl
 |snoc r x a b=>
  rw[<-b];unfold iN at a;split at a
  .rw[a.2.2]
  .split at a
   .rcases a with a|a
    .exact a.nw
    .rw[a.2.2]
   .rw[a.2.2]
end
variable{rs':List Rm}{nl n':Nat}{T od:Int}{ts:List Tk}
section
structure HQ(t nl n:Nat)(k:Kv)(rs:List Rm):Prop where
 ki:KI k n
 kq:KQ k
 n0:0<=k.s.nw
 nw:k.s.nw<=t
 lb:oH rs nl k.s.nw
 l8:rs.length=8
structure vO(C:Cf):Prop where
 ci:CI C
 z:∀i,Oc C i->(bI C i).pf=0/\(bI C i).kd≠1
 o:∀i,Oc C i->i<64
theorem vO.put{C:Cf}(h:vO C)(e s kd ob rt:Int)(he:e<4)(hk:kd≠1):vO (dC C e s kd ob rt 0).2:=by
 refine⟨h.ci.put e s kd ob rt 0 (.inl rfl),?_,MM h.o he⟩;rcases mW h.ci.len e s kd ob rt 0 with⟨h1,_⟩|⟨i,_,hi,_,_,d,f,hl,g,a,hold⟩
 .rw[h1];exact h.z
 .intro j b;by_cases e:j=i
  .subst e;rw[a];exact⟨rfl,hk⟩
  .rw[hold j e];exact h.z j ⟨b.1,by rw[<-hold j e];exact b.2⟩
theorem vO.c00:vO EL:=by
 have a:∀i,¬Oc EL i:=λi h=>h.2 (by
  unfold bI EL;rw[ab1,aeX];split <;> rfl)
 exact⟨⟨rfl,adO _,λi h=>absurd h (a i),λi _ h=>absurd h (a i),λi h=>absurd h (a i),λi h=>absurd h (a i),λi _ h=>absurd h (a i)⟩,λi h=>absurd h (a i),λi h=>absurd h (a i)⟩
theorem vO.env:∀n,n<=4->vO (pM n)
 |0,_=>vO.c00
 |i+1,h=>by
  have a:=vO.env i aQ;unfold pM;split
  .exact a.put _ _ _ _ _ aQ aQ
  .exact(a.put _ _ _ _ _ aQ aQ).put _ _ _ _ _ aQ aQ
theorem vO.Xw:∀n,vO (wN n)
 |0=>vO.env 4 (abQ _)
 |i+1=>(vO.Xw i).put _ _ _ _ _ aQ aQ
theorem RU(n:Nat)(o:Int):¬dA (vY n) o=true:=λh=>by
 obtain⟨i,_,_,a⟩:=mS.1 h;have:(List.replicate 32 false)[i]?=some true:=a;rw[aeX] at this;split at this
 .cases this
 .cases this
theorem KQ.start(p:Nat×Nat):KQ (oX p):=by
 have h:=vO.Xw 2;exact⟨⟨h.ci,rfl,rfl,λi a=>⟨by have:=(h.z i a).1;have:=h.ci.nu i a;show(bI (wN 2) i).pf<(bI (wN 2) i).nu;omega,λhp=>absurd (h.z i a).1 hp⟩,λi j a e b=>absurd b (h.z i a).2,λi a b=>absurd b (h.z i a).2,λo ho _=>absurd ho (RU 6 o),λx d=>by cases d⟩,λo ho=>absurd ho (RU 6 o),h.o⟩
theorem Qe(i:Nat):bJ sN i=RB:=by
 unfold bJ sN;rw[ab1,aeX];split <;> rfl
theorem RJ:∀n,(tU n).nw=0
 |0=>rfl
 |n+1=>(yM _ _ _).trans (RJ n)
theorem HQ.start(p:Nat×Nat):HQ 0 0 9 (oX p) sN:=by
 have b:(oX p).s.nw=0:=RJ 4;exact⟨Lx p,KQ.start p,aQ,aQ,(λi x a=>by rw[Qe] at a;cases a),rfl⟩
theorem uX.same{a:Ac}(h:uX k rs a E k' rs'):∃s,k'={k with s:=s}/\s.nw=k.s.nw/\(gS k.s->k.s.P.length=4->gS s/\s.P.length=4):=by
 have b:∀e,∃s,W7 k e={k with s:=s}/\s.nw=k.s.nw/\(gS k.s->k.s.P.length=4->gS s/\s.P.length=4):=λe=>⟨_,rfl,yM _ _ _,λh hp=>wG h hp e true⟩
 have nn:∃s,k={k with s:=s}/\s.nw=k.s.nw/\(gS k.s->k.s.P.length=4->gS s/\s.P.length=4):=⟨k.s,rfl,rfl,λh hp=>⟨h,hp⟩⟩
 cases h with
 |res h=>
  unfold MD;split
  .exact⟨_,rfl,UL _ _ _ _,λh hp=>F8 h hp _ _ _⟩
  .exact nn
 |Sj h=>
  unfold P1;split
  .exact⟨_,rfl,TS _ _,λh hp=>U2 h hp _⟩
  .exact nn
 |Sr h gl sv=>exact nn
 |Vo h=>
  unfold Bj;split
  .split
   .exact nn
   .exact b _
  .exact nn
 |Sn h B d=>
  unfold PT;split
  .exact b _
  .exact nn
 |go h=>
  unfold YN;split
  .split
   .exact nn
   .exact b _
  .exact nn
theorem oH.set(h:oH rs nl T)(d:rs.length=8){e:Nat}(he:e<8){r:Rm}(b:∀x,r.l=some x->kX x nl/\x.nw<=T):oH (rs.set e r) nl T:=λi x a=>by
 by_cases hi:e=i
 .subst hi;rw[mA aQ] at a;exact b x a
 .rw[vZ hi] at a;exact h i x a
theorem Px(h:wU rs e ts od=true):(0<=e/\e<4)/\pE ts=true:=by
 unfold wU at h;simp only[acM,aeE] at h;exact⟨h.1,h.2.2.2.1⟩
theorem uX.XX{a:Ac}(h:uX k rs a E k' rs')(hl:oH rs nl T)(b:rs.length=8)(f:0<=T):oH rs' nl T/\rs'.length=8:=by
 have nn:oH rs nl T/\rs.length=8:=⟨hl,b⟩
 cases h with
 |res h=>exact nn
 |Sj h=>exact nn
 |Sr h gl sv=>
  unfold J9;split
  .rename_i ho;obtain⟨he,g⟩:=Px ho;exact⟨hl.set b aQ λx e=>by
    injection e with e;rw[<-e];exact⟨(TW _ g).up (ab0 _),f⟩,by simp[b]⟩
  .exact nn
 |Vo h=>
  unfold Cr;split
  .split
   .exact nn
   .exact⟨hl.set b aQ (λx e=>by cases e),by simp[b]⟩
  .exact nn
 |Sn h B d=>
  unfold RI;split
  .rename_i ho;have he:0<=a.env/\a.env<4:=by
    unfold zN at ho;simp only[acM,aeE] at ho;exact ho.1.1
   exact⟨hl.set b aQ (λx e=>by cases e),by simp[b]⟩
  .exact nn
 |go h=>
  unfold Ar;split
  .rename_i he;split
   .exact nn
   .exact⟨hl.set b aQ λx e=>hl _ x e,by simp[b]⟩
  .exact nn
theorem KQ.same(q:KQ k)(s:Sd):KQ {k with s:=s}:=⟨q.j.same rfl rfl λx a=>a,q.d,q.o⟩
theorem uX.hq{a:Ac}(h:uX k rs a E k' rs'){t:Nat}(q:HQ t nl n k rs):HQ t nl n k' rs':=by
 obtain⟨s,rfl,b,hs⟩:=h.same;obtain⟨s1,s2⟩:=hs q.ki.sd q.ki.p4;obtain⟨l1,d⟩:=h.XX q.lb q.l8 q.n0;exact⟨q.ki.DZ s1 s2,q.kq.same s,by show 0<=s.nw;rw[b];exact q.n0,by show s.nw<=_;rw[b];exact q.nw,by show oH rs' nl s.nw;rw[b];exact l1,d⟩
theorem N7(s:Sd):(gJ s).2.nw=s.nw+1:=by
 unfold gJ;split
 .rfl
 .split <;> rfl
theorem iN.nw{c x:Int}(r:iN c e i x k N E k'):k'.s.nw=k.s.nw:=by
 unfold iN at r;split at r
 .rw[r.2.2]
 .split at r
  .rcases r with r|r
   .exact r.nw
   .rw[r.2.2]
  .rw[r.2.2]
theorem lZ.nw(r:lZ e k k'):k'.s.nw=k.s.nw:=by
 induction r with
 |refl=>rfl
 |run r L s d hs a=>exact a
 |Cu r l x N E h a=>exact h.nw.trans a
 |FI r b a=>exact(yM _ _ _).trans a
 |tell r a=>exact(zE _ _).trans a
section
variable{c:Int}{k k':Kv}{rs rs':List Rm}{ws:List (Int×Int×Int)}{xs:List Wd}{qs:List (Int×Int×Int)}{rn:Rn}{D:List (Int×Int)}{AS:List Int}{tk nu:Int}{nT n:Nat}
theorem kR.nw(h:kR c k rs ws xs qs rn D AS tk nu nT k' rs')(b:KI k n):k'.s.nw=k.s.nw+1:=by
 obtain⟨e,h1,f⟩:=h.t;obtain⟨m,z2,z3⟩:=wD b.sd b.p4 (gX rs qs) 8;have g:k'.s.nw=e.s.nw:=by
  rcases f with⟨i,_,_,_,j,_⟩|⟨_,rfl,_⟩
  .exact j.nw
  .rfl
 rw[g];obtain⟨a,hb,_,l⟩:=h1;have d:a.s.nw=k.s.nw:=by
  rw[hb.nw,AZ];exact z3
 rcases l with⟨i,z,_,_,ha⟩|⟨_,_,rfl⟩
 .rw[ha.nw];show(gJ a.s).2.nw=_;rw[N7,d]
 .show(gJ a.s).2.nw=_;rw[N7,d]
theorem Ej(x:Lb)(i:Nat):(BL x i).nw=x.nw:=by unfold BL;simp only;split <;> rfl
theorem OH(x:Lb):∀m,(eT x m).nw=x.nw
 |0=>rfl
 |m+1=>(Ej _ m).trans (OH x m)
theorem Ot(x:Lb)(i:Nat):(EI x i).nw=x.nw:=by unfold EI;split <;> rfl
theorem Q3(x:Lb):∀m,(eL x m).nw=x.nw
 |0=>rfl
 |m+1=>(Ot _ m).trans (Q3 x m)
theorem Nh(x:Lb)(i:Nat):(qM x i).nw=x.nw:=by
 unfold qM;simp only;repeat' split
 all_goals rfl
theorem Is(x:Lb)(gv:Bool):(jG x gv).nw=x.nw+1:=by
 unfold jG;rw[Q3,OH];unfold rJ;split
 .rfl
 .rw[Nh]
theorem kR.hq(h:kR c k rs ws xs qs rn D AS tk nu nT k' rs'){t:Nat}(q:HQ t nl n k rs)(g:KI k' n')(hq:qs.length<=20)(m:nl<=2600)(u:t<1048576)(b:rs'.length=8):HQ (t+1) (nl+22) n' k' rs':=by
 have v:=h.nw q.ki;have h1:=q.n0;have z:=q.nw;refine⟨g,h.kq q.ki q.kq,aQ,aQ,?_,b⟩;have f:=q.lb.asks qs q.l8;have A:(gX rs qs).length=8:=(P5 qs rs).trans q.l8;have key:∀i x,(bJ (iW (gX rs qs) rn.env 8) i).l=some x->kX x (nl+22)/\x.nw<=k'.s.nw:=λi x a=>by
  obtain⟨o,_⟩:=GL (rs:=gX rs qs) (e:=rn.env) i 8 aQ;rw[o] at a;split at a
  .cases hl:(bJ (gX rs qs) i).l with
   |none=>rw[hl] at a;cases a
   |some y=>
    rw[hl] at a;injection a with a;obtain⟨d,p⟩:=f i y hl;rw[<-a];exact⟨(d.tick aQ aQ _).up aQ,by rw[Is];omega⟩
  .obtain⟨d,p⟩:=f i x a;exact⟨d.up aQ,aQ⟩
 obtain⟨B,_,r⟩:=h.t;rcases r with⟨i,_,_,_,_,hC⟩|⟨_,_,rfl⟩
 .intro j x a;rw[hC.l j] at a;exact key j x a
 .exact key
end
end
theorem Mm:Xp:=λF w hb m g q p0 gl sv h hq hF=>by
 have H:=NY h (n0:=9) (M:=0) (nl:=0) (kiW p0) aQ aQ (show OA.nw<1048576 by decide) (cR:=0) (cW:=0) (cX:=0) (cQ:=1) (ls:= []) (ws:= []) (xs:= []) (qs:= [(2,0,1)]) (AR:=none) (AW:=none) (AX:=none) (AQ:=some ⟨q,0,none⟩) ⟨Sl.nil _ _,JK,Sl.nil _ _,JK,Sl.nil _ _,JK,λz a=>(by cases a)⟩ hq hF cH (λz a=>(by cases a)) (Zs gl sv) cH;simpa only[acR,ac6,acT] using H
variable{j d:Nat}{SS:ByteArray}{A:Option aJ}
section
def uW(s:dK)(j:Nat):List aC:=(List.range 6).map λf=>Value.string (if f<j then fS s f else⟨#[]⟩)
def vA(s:dK)(j:Nat):List aC:=(List.range 6).map λf=>Value.bool (decide (f<j)&&dA s (f:Nat))
def TY(C:Cf)(j e n:Nat):Int:=if n%6<j\/(n%6=j/\n /6<e) then kP C ((n /6:Nat):Int) 1 ((n%6:Nat):Int) else 0
def qI(C:Cf)(j e:Nat):List aC:=(List.range 24).map λn=>Value.int .i64 (TY C j e n)
theorem FJ{α:Type}(f:Nat->α)(v:α)(hi:i<n):((List.range n).map f).set i v=(List.range n).map λm=>if m=i then v else f m:=by
 refine adJ aT λm h1 a=>?_
 rw[acS];simp only[af3,List.getElem_range];by_cases h:i=m
 .subst h;simp
 .rw[abT h,abT λe=>h e.symm]
theorem Qg(s:dK)(b:j<6):(uW s j).set j (.string (fS s j))=uW s (j+1):=by
 unfold uW;rw[FJ _ _ b];refine ae9 λm hm=>?_
 by_cases h:m=j
 .subst h;rw[abS rfl,abS aQ]
 .rw[abT h];by_cases a:m<j
  .rw[abS a,abS aQ]
  .rw[abT a,abT aQ]
theorem Nl(s:dK)(b:j<6):(vA s j).set j (.bool (dA s (j:Nat)))=vA s (j+1):=by
 unfold vA;rw[FJ _ _ b];refine ae9 λm hm=>?_
 by_cases h:m=j
 .subst h;rw[abS rfl];simp
 .rw[abT h];by_cases a:m<j
  .rw[acF a,acF (show m<j+1 by omega)]
  .rw[ab8 a,ab8 (show ¬m<j+1 by omega)]
theorem Qr(C:Cf){e:Nat}(b:j<6)(he:e<4):(qI C j e).set (e *6+j) (.int .i64 (kP C (e:Nat) 1 (j:Nat)))=qI C j (e+1):=by
 unfold qI;rw[FJ _ _ aQ];refine ae9 λm hm=>?_
 have hm:=ac8.1 hm;unfold TY;by_cases h:m=e *6+j
 .subst h;rw[abS rfl,abS aQ,show(e *6+j) /6=e by omega,show(e *6+j)%6=j by omega]
 .rw[abT h];by_cases a:m%6<j\/(m%6=j/\m /6<e)
  .rw[abS a,abS aQ]
  .rw[abT a,abT aQ]
theorem Hj(C:Cf)(j:Nat):qI C j 4=qI C (j+1) 0:=by
 unfold qI;refine ae9 λm hm=>?_
 have hm:=ac8.1 hm;unfold TY;by_cases a:m%6<j\/(m%6=j/\m /6<4)
 .rw[abS a,abS aQ]
 .rw[abT a,abT aQ]
theorem Mi(s:dK):(uW s 0).toArray=#[.string ⟨#[]⟩, .string ⟨#[]⟩, .string ⟨#[]⟩, .string ⟨#[]⟩, .string ⟨#[]⟩, .string ⟨#[]⟩]:=by simp[uW,ad6]
theorem Le(s:dK):(vA s 0).toArray=(#[false,false,false,false,false,false]:Array aC):=by simp[vA,ad6]
theorem Ks(C:Cf):(qI C 0 0).toArray=(#[aU,aU,aU,aU,aU,aU,aU,aU,aU,aU,aU,aU,aU,aU,aU,aU,aU,aU,aU,aU,aU,aU,aU,aU]:Array aC):=by
 have h:qI C 0 0=List.replicate 24 (.int .i64 0):=by
  unfold qI;refine adJ aT λn h1 a=>?_
  rw[afD];simp[TY]
 rw[h];rfl
theorem Rg(s:dK)(a:j<6):(uW s 6).toArray[j]?=some (.string (fS s j)):=by
 rw[ab4];simp[uW,a]
theorem Uf(s:dK)(a:j<6):(vA s 6).toArray[j]?=some (.bool (dA s (j:Nat))):=by
 rw[ab4];simp[vA,a]
theorem Vu(C:Cf){e:Nat}(a:j<6)(he:e<4):(qI C 6 0).toArray[e *6+j]?=some (.int .i64 (kP C (e:Nat) 1 (j:Nat))):=by
 rw[ab4];unfold qI;rw[ad1,List.getElem?_range aQ];simp only[acP,TY];rw[abS aQ,show(e *6+j) /6=e by omega,show(e *6+j)%6=j by omega]
def RT(SS:ByteArray)(d:Nat)(v:aC)(w:aA):Prop:=if d=72 then oE SS v w else v= .string SS
theorem Ko:RT SS 72 v w↔oE SS v w:=Iff.rfl
theorem Mf:RT SS 73 v w↔v= .string SS:=Iff.rfl
theorem RT.keep(h:RT SS d v w)(a:bP w w'):RT SS d v w':=by
 unfold RT at *;split
 .rename_i hd;rw[abS hd] at h;exact h.keep a
 .rename_i hd;rw[abT hd] at h;exact h
structure Yo(w0:aA)(vs us:List (Int×Int×Int))(w':aA)(W2 Q2:uQ):Prop where
 b:aD w0 w0 w'
 w:bH mC 3 w' w0.heap.size 172 W2.A W2.c vs
 q:bH mC 3 w' w0.heap.size 126 Q2.A Q2.c us
 nw:W2.n=vs.length
 nq:Q2.n=us.length
theorem TD(cl:Int)(hcl:0<=cl/\cl<=255){l:List Ac}(cap:Nat)(w:aA)(h:Sl NG 12 w A l/\∀b,mM A l.length=some b->b<w.heap.size)(hA:∀a∈l,sI (λb=>b<w.heap.size) w a):
 aG prog 3 #[.int .u8 cl,(A,l.length,cap)] w λr w'=>r= .returned (.bool true)/\aD w w w':=by
 have HAw:=aP (Az Mm);have HS:=bO h hA;have h8:Int.tmod cl 8=cl%8:=Int.tmod_eq_emod_of_nonneg hcl.1;have d0:0<=cl%8:=aQ;have d1:cl%8<8:=aQ;have HBg:aH (∀W,aG prog 8 #[.int .i64 (1+cl%8)] W λe w'=>∃hb m g p0,e= .returned (.pointer (some ⟨hb,0,none⟩))/\bY (λb=>b<W.heap.size) w' hb m g (1+cl%8) (oX p0) sN/\aD W.heap.size W w'):=λW=>KH W _ aQ
 clear h hA hcl;generalize cl%8=d at *;go_enter func3,ntmps3
 go_upto_region 3 with(go_at_call 7;(refine aS (HAw.o _) ?_);rintro r Q ⟨rfl,hb2⟩)
 go_upto_region 4 with(go_at_call 8;(refine aS (HBg.o _) ?_);rintro r w3 ⟨hb,m,g,p0,rfl,hH,hb3⟩)
 have Z:aH (aD w w w3):=hb2.trans (hb3.mono hb2.size);have U:aH (Sl NG 12 w3 A l/\∀a∈l,sI (λb=>b<w3.heap.size) w3 a):=⟨HS.o.1.1.keep Z.o,λa ha=>((HS.o.2 a ha).kp (Kp.cD Z.o λb hb=>hb)).up λb hb=>abR hb Z.o.size⟩
 have HLi:=aP (XI cap w3 U.o.1 U.o.2);have HHo:=aP hH;have HZ2:aH (w.heap.size<=Q.heap.size):=hb2.size;clear hH hb2 hb3;go_upto_if 31 with(go_at_call 9;(refine aR HLi ?_);rintro r w4 ⟨lb,rfl,hlb,hb4⟩)
 have HLb:=aP hlb;have HB4:=aP hb4;clear hlb hb4;generalize hnb:(!lb)=nb at *;cases nb with
 |true=>
  go_wp2_with(go_at_call 7;(refine aS (HAw.o _) ?_);rintro r w5 ⟨rfl,B⟩)
  go_ret
  exact⟨rfl,Z.o.trans ((HB4.o.mono Z.o.size).trans (B.mono (abX Z.o.size HB4.o.size)))⟩
 |false=>
  have hlb:lb=true:=by simpa using hnb
  subst hlb;clear hnb;have HHo4:=aP (HHo.o.Sz HB4.o);have c0:=HHo4.o.c0;unfold pA at c0;obtain⟨G0,a0,_,k0,_⟩:=HHo4.o.kn;go_upto_region 7 with(first|(go_at_call 10;(refine aS (A7 c0) ?_);rintro x w3' ⟨rfl,rfl⟩)|(go_at_call 11;(refine aS (lR k0) ?_);rintro x w3' ⟨rfl,rfl⟩))
  have HB5:aH (aD w w w4):=Z.o.trans (HB4.o.mono Z.o.size);have HA5:aH (Sl NG 12 w4 A l/\(∀b,mM A l.length=some b->b<Q.heap.size)/\∀a∈l,sI (λb=>b<Q.heap.size) w4 a):=⟨HS.o.1.1.keep HB5.o,λb hb=>abR (HS.o.1.2 b hb) HZ2.o,λa ha=>((HS.o.2 a ha).kp (Kp.cD HB5.o λb hb=>hb)).up λb hb=>abR hb HZ2.o⟩
  have HLL:aH (l.length<=60/\∀a∈l,xK a):=HLb.o (by trivial);clear c0 k0 HLi HBg HS U HLb HHo;go_wp2_with fail
  go_loopw [7] (λv7 wr=>∃(i:Nat) (k:Kv) (rs:List Rm),v7= .int .i64 i/\i<=l.length/\aH (bY (λb=>b<Q.heap.size) wr hb m g (1+d) k rs/\HQ i (22 *i) (9+110 *i) k rs/\k.b= []/\Kp (λb=>b<Q.heap.size) w4 wr)) (λv7 _=>l.length - (aL v7).toNat)
  case atStart=>exact⟨0,oX p0,sN,rfl,ab0 _,HHo4.o,HQ.start p0,rfl,Kp.refl _ _⟩
  case round=>
   obtain⟨i,k,rs,rfl,hi,HR⟩:=hrel;by_cases hin:i<l.length
   .have hSl:=HA5.o.1.C0 HR.o.2.2.2 HA5.o.2.1;obtain⟨b,off,rfl,hc⟩:=hSl.cells hin;have hok:=(HA5.o.2.2 l[i] (abY hin)).kp HR.o.2.2.2;have hLt:=HLL.o.2 l[i] (abY hin);generalize l[i]=a at *;obtain⟨kd,env,n,bu,pe,TA,Tc,ts,od,CA,Cc,cs,RA,Rc,u,WA,Wc,ws,XA,Xc,xs,QA,Qc,qs⟩:=a;have a0:wr.cell? ⟨b,off+i *12,none⟩=some (.int .i64 kd):=hc 0 _ rfl;have a1:wr.cell? ⟨b,off+i *12+1,none⟩=some (.int .i64 env):=hc 1 _ rfl;have a2:wr.cell? ⟨b,off+i *12+2,none⟩=some (.int .u8 n):=hc 2 _ rfl;have a3:wr.cell? ⟨b,off+i *12+3,none⟩=some (.int .i64 bu):=hc 3 _ rfl;have a4:wr.cell? ⟨b,off+i *12+4,none⟩=some (.int .i64 pe):=hc 4 _ rfl;have a5:wr.cell? ⟨b,off+i *12+5,none⟩=some (.slice TA ts.length Tc):=hc 5 _ rfl;have a6:wr.cell? ⟨b,off+i *12+6,none⟩=some (.int .u8 od):=hc 6 _ rfl;have a7:wr.cell? ⟨b,off+i *12+7,none⟩=some (.slice CA cs.length Cc):=hc 7 _ rfl;have a8:wr.cell? ⟨b,off+i *12+8,none⟩=some (.slice RA u.length Rc):=hc 8 _ rfl;have a9:wr.cell? ⟨b,off+i *12+9,none⟩=some (.slice WA ws.length Wc):=hc 9 _ rfl;have a10:wr.cell? ⟨b,off+i *12+10,none⟩=some (.slice XA xs.length Xc):=hc 10 _ rfl;have a11:wr.cell? ⟨b,off+i *12+11,none⟩=some (.slice QA qs.length Qc):=hc 11 _ rfl;have OB:=bO hok hLt;have j0:(0:Int)<=i:=aQ;have j1:(i:Int)<(l.length:Int):=aQ;have jb:(l.length:Int)<=60:=by have:=HLL.o.1;omega
    clear hc hSl hok hLt;go_upto_region 11 with(fail)
    have I:=aP (bF.new wr 44 #[kd,env, .int .u8 n,bu,pe,(TA,ts.length,Tc), .int .u8 od,(CA,cs.length,Cc),(RA,u.length,Rc),(WA,ws.length,Wc),(XA,xs.length,Xc),(QA,qs.length,Qc)]);have H6:aH (jI (Fb (λb=>b<Q.heap.size) wr.heap.size) (wr.alloc (aI #[kd,env, .int .u8 n,bu,pe,(TA,ts.length,Tc), .int .u8 od,(CA,cs.length,Cc),(RA,u.length,Rc),(WA,ws.length,Wc),(XA,xs.length,Xc),(QA,qs.length,Qc)] 44)) hb m g (1+d) k rs []/\Kp (λb=>b<Q.heap.size) wr (wr.alloc (aI #[kd,env, .int .u8 n,bu,pe,(TA,ts.length,Tc), .int .u8 od,(CA,cs.length,Cc),(RA,u.length,Rc),(WA,ws.length,Wc),(XA,xs.length,Xc),(QA,qs.length,Qc)] 44))):=⟨(jI.of HR.o.1).box _,(HR.o.1.below (aX wr _)).2⟩
    have HQ6:aH (HQ i (22 *i) (9+110 *i) k rs/\k.b= []):=⟨HR.o.2.1,HR.o.2.2.1⟩
    have U:aH (sI (λb=>b<Q.heap.size) (wr.alloc (aI #[kd,env, .int .u8 n,bu,pe,(TA,ts.length,Tc), .int .u8 od,(CA,cs.length,Cc),(RA,u.length,Rc),(WA,ws.length,Wc),(XA,xs.length,Xc),(QA,qs.length,Qc)] 44)) ⟨kd,env,n,bu,pe,TA,Tc,ts,od,CA,Cc,cs,RA,Rc,u,WA,Wc,ws,XA,Xc,xs,QA,Qc,qs⟩/\xK ⟨kd,env,n,bu,pe,TA,Tc,ts,od,CA,Cc,cs,RA,Rc,u,WA,Wc,ws,XA,Xc,xs,QA,Qc,qs⟩):=⟨OB.o.1.kp H6.o.2,OB.o.2⟩
    have HK6:aH (Kp (λb=>b<Q.heap.size) w4 (wr.alloc (aI #[kd,env, .int .u8 n,bu,pe,(TA,ts.length,Tc), .int .u8 od,(CA,cs.length,Cc),(RA,u.length,Rc),(WA,ws.length,Wc),(XA,xs.length,Xc),(QA,qs.length,Qc)] 44))):=HR.o.2.2.2.trans H6.o.2;have HO6:=aP H6.o.1;clear a0 a1 a2 a3 a4 a5 a6 a7 a8 a9 a10 a11 HR H6 OB;generalize wr.alloc (aI #[kd,env, .int .u8 n,bu,pe,(TA,ts.length,Tc), .int .u8 od,(CA,cs.length,Cc),(RA,u.length,Rc),(WA,ws.length,Wc),(XA,xs.length,Xc),(QA,qs.length,Qc)] 44)=w6 at *;generalize wr.heap.size=qa at *;have c0:=I.o.cell 0 kd rfl;by_cases hkk:1<=kd/\kd<=6
    .have hk1:=hkk.1;have hk6:=hkk.2;have c1:=I.o.cell 1 env rfl;have c2:=I.o.cell 2 (.int .u8 n) rfl;have c3:=I.o.cell 3 bu rfl;have c4:=I.o.cell 4 pe rfl;have c5:=I.o.cell 5 (.slice TA ts.length Tc) rfl;have c6:=I.o.cell 6 (.int .u8 od) rfl;have c7:=I.o.cell 7 (.slice CA cs.length Cc) rfl;have c8:=I.o.cell 8 (.slice RA u.length Rc) rfl;have c9:=I.o.cell 9 (.slice WA ws.length Wc) rfl;have yB:=I.o.cell 10 (.slice XA xs.length Xc) rfl;have c11:=I.o.cell 11 (.slice QA qs.length Qc) rfl;have HCa:aH (aG prog 12 #[.pointer (some ⟨hb,0,none⟩), .agg #[kd,env, .int .u8 n,bu,pe,(TA,ts.length,Tc), .int .u8 od,(CA,cs.length,Cc),(RA,u.length,Rc),(WA,ws.length,Wc),(XA,xs.length,Xc),(QA,qs.length,Qc)]] w6 λr w'=>∃E:Int,r= .returned (.int .i64 E)/\aH (∃k' H,bY (λb=>b<Q.heap.size) w' hb m g (1+d) k' H/\HQ i (22 *i) (9+110 *i) k' H/\k'.b= []/\Kp (λb=>b<Q.heap.size) w4 w')):=by
      obtain⟨G,sG,hh,_⟩:=HO6.o.ho;have h1:=hh.less λb hb=>sG b (.inl hb)
      refine(Jf h1 HQ6.o.1.ki ⟨kd,env,n,bu,pe,TA,Tc,ts,od,CA,Cc,cs,RA,Rc,u,WA,Wc,ws,XA,Xc,xs,QA,Qc,qs⟩ (U.o.1.up λb hb=>HO6.o.fl b (.inl hb)) U.o.2).mono ?_;rintro r w' ⟨E,k',H,rfl,ha,h2,kk⟩;obtain⟨s,hs,_⟩:=ha.same;exact⟨E,rfl,k',H,h2,ha.hq HQ6.o.1,by rw[hs];exact HQ6.o.2,HK6.o.trans kk⟩
     clear hkk;go_wp2_with(go_at_call 12;(refine aR HCa ?_);rintro r w7 ⟨E,rfl,HE⟩)
     obtain⟨k',H,e1,e2,e3,e4⟩:=HE.o;exact⟨⟨i+1,k',H,rfl,aQ,e1,⟨e2.ki.mono aQ,e2.kq,e2.n0,by have:=e2.nw;omega,e2.lb.up aQ (adO _),e2.l8⟩,e3,e4⟩,by simp only[aL];omega⟩
    .go_cut [57] (λs57 wx=>s57= .bool false/\wx=w6)
     case first=>
      by_cases hk1:1<=kd
      .have hk6:¬kd<=6:=λh=>hkk ⟨hk1,h⟩
       go_wp2_with fail
       go_meet
       exact⟨rfl,rfl⟩
      .go_wp2_with fail
       go_meet
       exact⟨rfl,rfl⟩
     case rest=>
     obtain⟨rfl,rfl⟩:=hcut;clear hkk c0;go_upto_region 16 with(fail)
     have HN:aH (∀c1 c2 c3,jI (Fb (λb=>b<Q.heap.size) qa) (((wc.alloc (aI c1 47)).alloc (aI c2 48)).alloc (aI c3 50)) hb m g (1+d) k rs [PB wc.heap.size 47 c1,PB (wc.heap.size+1) 48 c2,PB (wc.heap.size+1+1) 50 c3]/\Kp (Fb (λb=>b<Q.heap.size) qa) wc (((wc.alloc (aI c1 47)).alloc (aI c2 48)).alloc (aI c3 50))):=λc1 c2 c3=>by
      obtain⟨h1,k1⟩:=HO6.o.new 47 c1;obtain⟨h2,P⟩:=h1.new 48 c2;obtain⟨h3,k3⟩:=h2.new 50 c3;have s1:(wc.alloc (aI c1 47)).heap.size=wc.heap.size+1:=aT;have s2:((wc.alloc (aI c1 47)).alloc (aI c2 48)).heap.size=wc.heap.size+1+1:=aT;rw[s1,s2] at h3;exact⟨h3,k1.trans (P.trans k3)⟩
     have H9:=aP (HN.o (uW k.f 0).toArray (vA k.f 0).toArray (qI k.c 0 0).toArray);rw[Mi,Le,Ks] at H9;have HZ9:aH (∀j,(uW k.f 0).toArray=#[.string ⟨#[]⟩, .string ⟨#[]⟩, .string ⟨#[]⟩, .string ⟨#[]⟩, .string ⟨#[]⟩, .string ⟨#[]⟩]/\(vA k.f 0).toArray=(#[false,false,false,false,false,false]:Array aC)/\(qI k.c 0 0).toArray=(#[aU,aU,aU,aU,aU,aU,aU,aU,aU,aU,aU,aU,aU,aU,aU,aU,aU,aU,aU,aU,aU,aU,aU,aU]:Array aC)/\j=j):=λ(j:Nat)=>⟨Mi _,Le _,Ks _,rfl⟩
     have hne2:wc.heap.size+1≠wc.heap.size:=aQ;clear HN HO6;generalize ((wc.alloc (aI #[.string ⟨#[]⟩, .string ⟨#[]⟩, .string ⟨#[]⟩, .string ⟨#[]⟩, .string ⟨#[]⟩, .string ⟨#[]⟩] 47)).alloc (aI #[false,false,false,false,false,false] 48)).alloc (aI #[aU,aU,aU,aU,aU,aU,aU,aU,aU,aU,aU,aU,aU,aU,aU,aU,aU,aU,aU,aU,aU,aU,aU,aU] 50)=w9 at *;generalize wc.heap.size+1+1=qR at *;generalize wc.heap.size+1=qT at *;generalize wc.heap.size=qW at *;obtain⟨Y,hF6⟩:∃X,X=Fb (λb=>b<Q.heap.size) qa:=⟨_,rfl⟩
     have N:aH ((∀b,b<Q.heap.size->Y b)/\Y qa):=by rw[hF6];exact⟨λb hb=> .inl hb, .inr rfl⟩
     rw[<-hF6] at H9;clear hF6;go_wp2_with fail
     go_loopw [12] (λv12 wr=>∃j:Nat,v12= .int .i64 j/\j<=6/\aH (jI Y wr hb m g (1+d) k rs [PB qW 47 (uW k.f j).toArray,PB qT 48 (vA k.f j).toArray,PB qR 50 (qI k.c j 0).toArray]/\Kp Y wc wr)) (λv12 _=>6 - (aL v12).toNat)
     case atStart=>
      refine⟨0,rfl,aQ,?_,H9.o.2⟩;rw[(HZ9.o 0).1,(HZ9.o 0).2.1,(HZ9.o 0).2.2.1];exact H9.o.1
     case round=>
      clear H9 HZ9;obtain⟨j,rfl,hj,HJ⟩:=hrel;have j0':(0:Int)<=j:=aQ;by_cases hj6:j<6
      .have j1':(j:Int)<6:=aQ;obtain⟨G,aa⟩:=HJ.o.1.Ux;obtain⟨gf,gc,J⟩:=aa.lk;have p0:=J.p0;have HBy:aH (∀W,bP wr W->aG prog 13 #[.pointer gf,j] W λe w'=>∃v,e= .returned v/\bP W w'/\oE (fS k.f j) v w'):=J.DV j (by have:=HQ6.o.1.ki.f6;omega);have ab:aH (∀n:CW (bP wr),aG prog 14 #[.pointer gf,j] n.w λe w'=>e= .returned (.bool (dA k.f (j:Int)))/\bP n.w w'):=J.tk (j:Int);obtain⟨SS,hSS⟩:∃X,X=fS k.f j:=⟨_,rfl⟩
       obtain⟨tb,htb⟩:∃X,X=dA k.f (j:Int):=⟨_,rfl⟩
       rw[<-hSS] at HBy;rw[<-htb] at ab;have HE2:=bO hSS htb;clear aa J hSS htb;go_upto_region 19 with(fail)
       have p:=bE p0;refine bN (bP _) (λ_=>bP) [72,73] (RT SS) [16,18] [[16,14,12]] 153 (bZ _) (λ_ _ _ h hz=>bV h hz) (λ_ d hd _ v w w' _ h hz=>h.keep hz) aV aV aZ ?_;repeat (first|(refine C1 aZ ?_;(try refine cI ?_))|(refine yS aZ aZ aZ aZ aZ (λK hK=>?_);go_big_quiet_op;refine hK _ ?_;clear hK K)|(refine MJ aZ aZ aZ aZ aZ aZ (λK hK=>?_);go_big_quiet_op;refine hK _ ?_;clear hK K)|(refine GH aZ aZ aZ ?_;(try refine cI ?_))|(refine yO aZ aZ aZ aZ aZ (λK hK=>?_);go_simp;(try simp only[uL,adG]);first|(apply Exists.intro;refine⟨λn=>?_,hK _ ?_⟩;(with_reducible exact ab.o _);clear hK K;(try refine cI ?_))|(apply Exists.intro;refine⟨λn=>rfl,hK _ ?_⟩;clear hK K;(try refine cI ?_)))|(refine sF 72 [] aZ aZ aZ aZ (λγ w hC O=>?_) ?_;(simp only[cE];go_simp;exact Ww ((HBy.o w hC).mono λe w9 ⟨v,h1,h2,h3⟩=>⟨v,h1,h2,Ko.2 h3⟩));(try refine cI ?_))|(refine sF 73 [72] aZ aZ aZ aZ (λγ w hC O=>?_) ?_;((have hc:=(Ko.1 (O 72 aT)) w (Below.refl _ _));simp only[cE,Act.put,abP,abV,abU] at *;go_simp;exact pG (Below.refl _ _) (Mf.2 rfl));(try refine cI ?_)))
       refine dG ?_;intro γ w5 B O;clear p;simp only[cE,Act.put,abP,abV,abU];refine dS ?_;have H5:aH (jI Y w5 hb m g (1+d) k rs [PB qW 47 (uW k.f j).toArray,PB qT 48 (vA k.f j).toArray,PB qR 50 (qI k.c j 0).toArray]/\Kp Y wc w5):=⟨(HJ.o.1.below B).1,HJ.o.2.trans (HJ.o.1.below B).2⟩
       have bW:=H5.o.1.aY (i:=0) rfl;have bT:=H5.o.1.aY (i:=1) rfl;have x0:=bW.cell j (.string ((if j<j then fS k.f j else⟨#[]⟩))) (by rw[ab4];simp[uW,hj6]);have x1:=bT.cell j (.bool (decide (j<j)&&dA k.f (j:Nat))) (by rw[ab4];simp[vA,hj6]);have f0:=bW.frozen j;have f1:=bT.frozen j;have HP:aH (jI Y ((w5.setCell ⟨qW,j,none⟩ (.string SS)).setCell ⟨qT,j,none⟩ (.bool tb)) hb m g (1+d) k rs [PB qW 47 (uW k.f (j+1)).toArray,PB qT 48 (vA k.f (j+1)).toArray,PB qR 50 (qI k.c j 0).toArray]/\Kp Y wc ((w5.setCell ⟨qW,j,none⟩ (.string SS)).setCell ⟨qT,j,none⟩ (.bool tb))):=by
        obtain⟨h1,k1⟩:=H5.o.1.put (i:=0) rfl j (.string SS) (cs':=(uW k.f (j+1)).toArray) (by rw[abP,HE2.o.1,Qg k.f hj6]);obtain⟨h2,P⟩:=h1.put (i:=1) rfl j (.bool tb) (cs':=(vA k.f (j+1)).toArray) (by rw[abP,HE2.o.2,Nl k.f hj6]);exact⟨h2,H5.o.2.trans (k1.trans P)⟩
       have hv:=Mf.1 (O 73 aT);rw[hv];clear bW bT HJ B O HBy ab p0 hv;go_wp2_with fail
       simp only[nU];generalize (w5.setCell ⟨qW,j,none⟩ (.string SS)).setCell ⟨qT,j,none⟩ (.bool tb)=w7 at *;clear H5 HE2 x0 x1 f0 f1;go_wp2_with fail
       go_loopw [13] (λv13 wr=>∃e:Nat,v13= .int .i64 e/\e<=4/\aH (jI Y wr hb m g (1+d) k rs [PB qW 47 (uW k.f (j+1)).toArray,PB qT 48 (vA k.f (j+1)).toArray,PB qR 50 (qI k.c j e).toArray]/\Kp Y wc wr)) (λv13 _=>4 - (aL v13).toNat)
       case atStart=>exact⟨0,rfl,aQ,HP.o⟩
       case round=>
        clear HP;obtain⟨e,rfl,he,HE⟩:=hrel;have e0':(0:Int)<=e:=aQ;by_cases he4:e<4
        .have e1':(e:Int)<4:=aQ;obtain⟨G,aa⟩:=HE.o.1.Ux;obtain⟨gf,gc,J⟩:=aa.lk;have p2:=J.p2;have HFi:aH (∀n:CW (bP wr),aG prog 15 #[.pointer gc,e, .int .i64 1,j] n.w λr w'=>r= .returned (.int .i64 (kP k.c (e:Int) 1 (j:Int)))/\bP n.w w'):=J.fd (e:Int) (j:Int);obtain⟨fv,hfv⟩:∃X,X=kP k.c (e:Int) 1 (j:Int):=⟨_,rfl⟩
         rw[<-hfv] at HFi;have HFv:=aP hfv;clear aa J hfv;go_upto_region 23 with(fail)
         have aft_p2:=bE p2;refine bN (bP _) (λ_=>bP) [] (λ_ _ _=>True) [11] [] 153 (bZ _) (λ_ _ _ h hz=>bV h hz) (λ_ d hd _ v w w' _ h hz=>by cases hd) aV aV aZ ?_;repeat (first|(refine C1 aZ ?_;(try refine cI ?_))|(refine yS aZ aZ aZ aZ aZ (λK hK=>?_);go_big_quiet_op;refine hK _ ?_;clear hK K)|(refine MJ aZ aZ aZ aZ aZ aZ (λK hK=>?_);go_big_quiet_op;refine hK _ ?_;clear hK K)|(refine GH aZ aZ aZ ?_;(try refine cI ?_))|(refine yO aZ aZ aZ aZ aZ (λK hK=>?_);go_simp;(try simp only[uL,adG]);first|(apply Exists.intro;refine⟨λn=>?_,hK _ ?_⟩;(with_reducible exact HFi.o _);clear hK K;(try refine cI ?_))|(apply Exists.intro;refine⟨λn=>rfl,hK _ ?_⟩;clear hK K;(try refine cI ?_))))
         refine dG ?_;intro γ w5 B O;clear aft_p2;simp only[cE,Act.put,abP,abV,abU];refine dS ?_;have H5:aH (jI Y w5 hb m g (1+d) k rs [PB qW 47 (uW k.f (j+1)).toArray,PB qT 48 (vA k.f (j+1)).toArray,PB qR 50 (qI k.c j e).toArray]/\Kp Y wc w5):=⟨(HE.o.1.below B).1,HE.o.2.trans (HE.o.1.below B).2⟩
         have bR:=H5.o.1.aY (i:=2) rfl;have x0:=bR.cell (e *6+j) (.int .i64 (TY k.c j e (e *6+j))) (by rw[ab4];unfold qI;rw[ad1,List.getElem?_range aQ];rfl);have f0:=bR.frozen (e *6+j);have HP:aH (jI Y (w5.setCell ⟨qR,e *6+j,none⟩ fv) hb m g (1+d) k rs [PB qW 47 (uW k.f (j+1)).toArray,PB qT 48 (vA k.f (j+1)).toArray,PB qR 50 (qI k.c j (e+1)).toArray]/\Kp Y wc (w5.setCell ⟨qR,e *6+j,none⟩ fv)):=by
          obtain⟨h1,k1⟩:=H5.o.1.put (i:=2) rfl (e *6+j) (.int .i64 fv) (cs':=(qI k.c j (e+1)).toArray) (by rw[abP,HFv.o,Qr k.c hj6 he4]);exact⟨h1,H5.o.2.trans k1⟩
         clear bR HE B O HFi p2;go_wp2_with fail
         simp only[nU];generalize w5.setCell ⟨qR,e *6+j,none⟩ fv=w7 at *;clear H5 HFv x0 f0;go_wp2_with fail
         exact⟨⟨e+1,rfl,aQ,HP.o⟩,by simp only[aL];omega⟩
        .obtain rfl:e=4:=aQ;have e1':¬((4:Nat):Int)<4:=aQ;have HP:=HE.o;rw[Hj] at HP;have HP:=aP HP;clear HE;go_wp2_with fail
         exact⟨⟨j+1,rfl,aQ,HP.o⟩,by simp only[aL];omega⟩
      .obtain rfl:j=6:=aQ;have j1':¬((6:Nat):Int)<6:=aQ;have HB8:aH (bF wr qa 44 #[kd,env, .int .u8 n,bu,pe,(TA,ts.length,Tc), .int .u8 od,(CA,cs.length,Cc),(RA,u.length,Rc),(WA,ws.length,Wc),(XA,xs.length,Xc),(QA,qs.length,Qc)]):=HJ.o.2.aY I.o N.o.2;have z8:=HB8.o.cell 8 (.slice RA u.length Rc) rfl;have z9:=HB8.o.cell 9 (.slice WA ws.length Wc) rfl;have z10:=HB8.o.cell 10 (.slice XA xs.length Xc) rfl;have z11:=HB8.o.cell 11 (.slice QA qs.length Qc) rfl;have HKw:aH (Kp (λb=>b<Q.heap.size) w4 wr):=HK6.o.trans (HJ.o.2.mono N.o.1);have HA8:aH (sI (λb=>b<Q.heap.size) wr ⟨kd,env,n,bu,pe,TA,Tc,ts,od,CA,Cc,cs,RA,Rc,u,WA,Wc,ws,XA,Xc,xs,QA,Qc,qs⟩/\xK ⟨kd,env,n,bu,pe,TA,Tc,ts,od,CA,Cc,cs,RA,Rc,u,WA,Wc,ws,XA,Xc,xs,QA,Qc,qs⟩):=⟨U.o.1.kp (HJ.o.2.mono N.o.1),U.o.2⟩
       have HJ6:=aP HJ.o.1;have HBa:aH (aG prog 18 #[.agg #[(RA,u.length,Rc),(WA,ws.length,Wc),(XA,xs.length,Xc),(QA,qs.length,Qc)]] wr λr w'=>r= .returned (.agg #[(RA,u.length,Rc),bG,(XA,xs.length,Xc),(QA,qs.length,Qc)])/\aH (aD wr wr w')):=ZJ ⟨RA,u.length,Rc⟩ ⟨WA,ws.length,Wc⟩ ⟨XA,xs.length,Xc⟩ ⟨QA,qs.length,Qc⟩ wr;have HTo:aH (∀V,aH (aD wr wr V)->aG prog 17 #[.agg #[(RA,u.length,Rc),bG,(XA,xs.length,Xc),(QA,qs.length,Qc)]] V λr w'=>∃W2 Q2:uQ,r= .returned (.agg #[(RA,u.length,Rc),(W2.A,W2.n,W2.c),(XA,xs.length,Xc),(Q2.A,Q2.n,Q2.c)])/\aH (Yo wr [] qs w' W2 Q2)):=λV hV=>by
        refine(Oo 0 Qc V (AW:=none) (ws:= []) (Sl.nil _ _) (HA8.o.1.q.keep hV.o) aT (abX HA8.o.2.q cH)).mono ?_;rintro r w' ⟨W2,Q2,rfl,o1,o2,n1,n2,bl⟩;exact⟨W2,Q2,rfl,hV.o.trans (bl.mono hV.o.size),o1.from_ hV.o.size,o2.from_ hV.o.size,n1,n2⟩
       have HTc:aH (∀(V:aA) (W2 Q2:uQ),aH (Yo wr [] qs V W2 Q2)->aG prog 16 #[.pointer (some ⟨hb,0,none⟩), .agg #[(RA,u.length,Rc),(W2.A,W2.n,W2.c),(XA,xs.length,Xc),(Q2.A,Q2.n,Q2.c)]] V λr w'=>∃(o:Ou) (P:Kv) (H:List Rm),r= .returned (.tuple #[.agg #[o.rn.env,o.rn.ch,(o.S.A,o.S.n,o.S.c),(o.R.A,o.R.n,o.R.c),(o.W.A,o.W.n,o.W.c),(o.A.A,o.A.n,o.A.c),o.tk,o.nu,(o.T.A,o.T.n,o.T.c),o.st,o.x,o.y, .int .u64 o.z],aU])/\aH (HQ (i+1) (22 *(i+1)) (9+110 *(i+1)) P H/\P.b= []/\(o.rn.env= -1\/∃n:Nat,o.rn.env=n/\n<4)/\∀f:Nat,dA k.f (f:Int)=true->(o.rn.env<0\/dM (kP k.c o.rn.env 1 (f:Int)) 10=0)->fS P.f f=fS k.f f)/\aH (jI Y w' hb m g (1+d) P H [PB qW 47 (uW k.f 6).toArray,PB qT 48 (vA k.f 6).toArray,PB qR 50 (qI k.c 6 0).toArray]/\Kp Y wr w')):=λV W2 Q2 HX=>by
        have hW:aD wr wr V:=HX.o.b;have hg:=HJ6.o.grow hW;obtain⟨G,sG,hh,back⟩:=hg.ho;have kb:=(HJ6.o.below hW).2;have hi:=HA8.o.1.i.kp (Kp.cD hW λb hb=>HJ6.o.fl b (N.o.1 b hb));have oW:=HX.o.w;have oQ:=HX.o.q;have hi2:CU G V RA u W2.A [] XA xs:=⟨hi.r,λb hb=>sG b (.inl (N.o.1 b (hi.rF b hb))),oW.sl uV,MS (λb hb=>sG b (.inr (oW.lt b hb))) _,hi.x,λb hb=>sG b (.inl (N.o.1 b (hi.xF b hb))),λz hz=>⟨(hi.y z hz).1,λb hb=>sG b (.inl (N.o.1 b ((hi.y z hz).2.1 b hb))),(hi.y z hz).2.2⟩⟩
        have q0:=HQ6.o.1;have hli:=HA8.o.2;have h1:=NY hh (n0:=9+110 *i) (M:=60) (nl:=22 *i) q0.ki aQ aQ (by have:=q0.nw;omega) (cR:=Rc) (cW:=W2.c) (cX:=Xc) (cQ:=Q2.c) hi2 (oQ.sl uV) (MS (λb hb=>sG b (.inr (oQ.lt b hb))) _) (by have h1:=hli.r;have h2:=hli.x;simp only at h1 h2;simp;omega) hli.xs q0.lb (by have h1:=hli.q;simp only at h1;omega);rw[HX.o.nw,HX.o.nq];refine h1.mono ?_;rintro r w' ⟨o,D,AS,P,H,rfl,ht,ki2,hS,hA,oS,oA,hAb,h2,k2'⟩;obtain⟨b1,b2⟩:=back P H w' (λb=>aY o.S.A=some b\/aY o.A.A=some b) (λb hb=>hb.elim (λh=>(oS.lt b h).1) (hAb b)) (h2.less λb hb=>hb.elim (λh=> .inl (.inl h)) λh=>h.elim (λh=> .inl (.inr h)) .inr) k2';obtain⟨wr1,wr2⟩:=ht.writes q0.ki q0.kq HQ6.o.2;refine⟨o,P,H,rfl,⟨?_,wr1,?_,λf hf hr=>?_⟩,b1.less λb hb=> .inl (.inl hb),kb.trans (b2.mono λb hb=> .inl hb)⟩
        .have h3:=ht.hq (t:=i) (nl:=22 *i) q0 ki2 (by have h1:=hli.q;simp only at h1;omega) aQ aQ h2.l8;exact⟨h3.ki.mono aQ,h3.kq,h3.n0,h3.nw,h3.lb.up aQ (adO _),h3.l8⟩
        .obtain⟨k3,h4,_⟩:=ht.t;obtain⟨z1,z2,z3⟩:=wD q0.ki.sd q0.ki.p4 (gX rs qs) 8;exact h4.XE (q0.ki.DZ z1 z2)
        .unfold fS;have h5:=wr2 (f:Int) hf hr;rw[abZ] at h5;rw[h5]
       clear HJ I HK6 U HB8;go_upto_region 25 with(first|(go_at_call 18;(refine aR HBa ?_);rintro r w5 ⟨rfl,HV5⟩)|(go_at_call 17;(refine aS (HTo.o _ HV5) ?_);rintro r w5' ⟨W2,Q2,rfl,HT5⟩)|(go_at_call 16;(refine aS (HTc.o _ _ _ HT5) ?_);rintro r w7 ⟨o,P,H,rfl,HD7,HM7⟩))
       have HB9:=aP (bF.new w7 79 #[o.rn.env,o.rn.ch,(o.S.A,o.S.n,o.S.c),(o.R.A,o.R.n,o.R.c),(o.W.A,o.W.n,o.W.c),(o.A.A,o.A.n,o.A.c),o.tk,o.nu,(o.T.A,o.T.n,o.T.c),o.st,o.x,o.y, .int .u64 o.z]);have H9:aH (jI Y (w7.alloc (aI #[o.rn.env,o.rn.ch,(o.S.A,o.S.n,o.S.c),(o.R.A,o.R.n,o.R.c),(o.W.A,o.W.n,o.W.c),(o.A.A,o.A.n,o.A.c),o.tk,o.nu,(o.T.A,o.T.n,o.T.c),o.st,o.x,o.y, .int .u64 o.z] 79)) hb m g (1+d) P H [PB qW 47 (uW k.f 6).toArray,PB qT 48 (vA k.f 6).toArray,PB qR 50 (qI k.c 6 0).toArray]/\Kp Y wr (w7.alloc (aI #[o.rn.env,o.rn.ch,(o.S.A,o.S.n,o.S.c),(o.R.A,o.R.n,o.R.c),(o.W.A,o.W.n,o.W.c),(o.A.A,o.A.n,o.A.c),o.tk,o.nu,(o.T.A,o.T.n,o.T.c),o.st,o.x,o.y, .int .u64 o.z] 79))):=by
        have h1:=HM7.o.1.below (aX w7 (aI #[o.rn.env,o.rn.ch,(o.S.A,o.S.n,o.S.c),(o.R.A,o.R.n,o.R.c),(o.W.A,o.W.n,o.W.c),(o.A.A,o.A.n,o.A.c),o.tk,o.nu,(o.T.A,o.T.n,o.T.c),o.st,o.x,o.y, .int .u64 o.z] 79));exact⟨h1.1,HM7.o.2.trans h1.2⟩
       clear HTo HTc HBa HM7 HT5 HV5 z8 z9 z10 z11;generalize w7.alloc (aI #[o.rn.env,o.rn.ch,(o.S.A,o.S.n,o.S.c),(o.R.A,o.R.n,o.R.c),(o.W.A,o.W.n,o.W.c),(o.A.A,o.A.n,o.A.c),o.tk,o.nu,(o.T.A,o.T.n,o.T.c),o.st,o.x,o.y, .int .u64 o.z] 79)=w9 at *;generalize w7.heap.size=qd at *;have x0:=HB9.o.cell 0 o.rn.env rfl;go_upto_region 26 with(fail)
       obtain⟨ev,hev⟩:∃X,X=o.rn.env:=⟨_,rfl⟩
       have HEv:=aP hev;rw[<-hev];clear hev;go_wp2_with fail
       go_loopw [17] (λv17 wr=>∃f:Nat,v17= .int .i64 f/\f<=6/\aH (aD w9 w9 wr)) (λv17 _=>6 - (aL v17).toNat)
       case atStart=>exact⟨0,rfl,aQ,Below.refl _ _⟩
       case round=>
        clear x0;obtain⟨f,rfl,hf,HF⟩:=hrel;have f0':(0:Int)<=f:=aQ;by_cases hf6:f<6
        .have f1':(f:Int)<6:=aQ;have H10:=aP (H9.o.1.below HF.o).1;have yW:=(H10.o.aY (i:=0) rfl).cell f _ (Rg k.f hf6);have yT:=(H10.o.aY (i:=1) rfl).cell f _ (Uf k.f hf6);obtain⟨G,aa⟩:=H10.o.Ux;obtain⟨gf,gc,J⟩:=aa.lk;have p0:=J.p0;have HBy:aH (∀W,bP wr W->aG prog 13 #[.pointer gf,f] W λe w'=>∃v,e= .returned v/\bP W w'/\oE (fS P.f f) v w'):=J.DV f (by have:=HD7.o.1.ki.f6;omega);have ab:aH (∀n:K7 bP wr,aG prog 14 #[.pointer gf,f] n.w λe w'=>e= .returned (.bool (dA P.f (f:Int)))/\bP n.w w'):=λn=>J.tk (f:Int) ⟨n.w,n.ok⟩
         have HIn:aH (∀n:K7 bP wr,aG prog 19 #[ev] n.w λe w'=>e= .returned (.bool (decide (0<=ev/\ev<4)))/\bP n.w w'):=λn=>P7 (Nv ev n.w)
         have HY:aH (dA k.f (f:Int)=true->fS P.f f≠fS k.f f->decide (0<=ev/\ev<4)=true/\∃e:Nat,ev=e/\e<4/\(bits .and .i64 (kP k.c (e:Int) 1 (f:Int)) 10==0)=false):=λh1 h2=>by
          obtain⟨_,_,d3,d4⟩:=HD7.o;rw[<-HEv.o] at d3 d4;have h3:¬(ev<0\/dM (kP k.c ev 1 (f:Int)) 10=0):=λh=>h2 (d4 f h1 h)
          rcases d3 with d3|⟨e,d3,d5⟩
          .exact absurd (.inl aQ) h3
          .refine⟨acF aQ,e,d3,d5,?_⟩;rw[<-d3];exact afA.2 λh=>h3 (.inr h)
         generalize fS k.f f=S1 at *;generalize fS P.f f=S2 at *;generalize dA k.f (f:Int)=tb at *;generalize dA P.f (f:Int)=tb2 at *;clear aa J;cases tb with
         |false=>
          go_upto_region 29 with(fail)
          have C:=lX yW;have F:=lX yT;have p:=lX p0;refine rT bP AI [] (λ_ v w=>oE S1 v w) (λ_ _ _ _ _ h hr=>h.keep hr) 153 aV aV aZ ?_;repeat (first|(refine VQ aZ aZ aZ aZ (λK hK=>?_);go_big_quiet_op;refine hK _ ?_;clear hK K)|(refine GB aZ aZ ?_;(try refine cI ?_))|(refine GI aZ aZ aZ aZ (λK hK=>?_);go_simp;(try simp only[uL,adG]);first|(apply Exists.intro;refine⟨λn=>?_,hK _ ?_⟩;(with_reducible exact ab.o _);clear hK K;(try refine cI ?_))|(apply Exists.intro;refine⟨λn=>?_,hK _ ?_⟩;(with_reducible exact HIn.o _);clear hK K;(try refine cI ?_))|(apply Exists.intro;refine⟨λn=>rfl,hK _ ?_⟩;clear hK K;(try refine cI ?_))))
          refine LH ?_;intro γ w5 B O;clear C F p;simp only[cE,Act.put,abP,abV,abU];have L:aH (aD w9 w9 w5):=HF.o.trans (B.mono HF.o.size);clear B O yW yT p0;go_wp2_with fail
          first|exact⟨⟨f+1,rfl,aQ,L.o⟩,by simp only[aL];omega⟩|exact⟨⟨⟨f+1,rfl,aQ⟩,L.o⟩,by simp only[aL];omega⟩
         |true=>
          cases tb2 with
          |false=>
           go_upto_region 29 with(fail)
           have C:=lX yW;have F:=lX yT;have p:=lX p0;refine rT bP AI [] (λ_ v w=>oE S1 v w) (λ_ _ _ _ _ h hr=>h.keep hr) 153 aV aV aZ ?_;repeat (first|(refine VQ aZ aZ aZ aZ (λK hK=>?_);go_big_quiet_op;refine hK _ ?_;clear hK K)|(refine GB aZ aZ ?_;(try refine cI ?_))|(refine GI aZ aZ aZ aZ (λK hK=>?_);go_simp;(try simp only[uL,adG]);first|(apply Exists.intro;refine⟨λn=>?_,hK _ ?_⟩;(with_reducible exact ab.o _);clear hK K;(try refine cI ?_))|(apply Exists.intro;refine⟨λn=>?_,hK _ ?_⟩;(with_reducible exact HIn.o _);clear hK K;(try refine cI ?_))|(apply Exists.intro;refine⟨λn=>rfl,hK _ ?_⟩;clear hK K;(try refine cI ?_))))
           refine LH ?_;intro γ w5 B O;clear C F p;simp only[cE,Act.put,abP,abV,abU];have L:aH (aD w9 w9 w5):=HF.o.trans (B.mono HF.o.size);clear B O yW yT p0;go_wp2_with fail
           first|exact⟨⟨f+1,rfl,aQ,L.o⟩,by simp only[aL];omega⟩|exact⟨⟨⟨f+1,rfl,aQ⟩,L.o⟩,by simp only[aL];omega⟩
          |true=>
           by_cases hs:S2.toList=S1.toList
           .have hs1:(S2.toList==S1.toList)=true:=beq_iff_eq.2 hs;clear hs HY;go_upto_region 29 with(fail)
            have C:=lX yW;have F:=lX yT;have p:=lX p0;refine rT bP AI [131] (λ_ v w=>oE S2 v w) (λ_ _ _ _ _ h hr=>h.keep hr) 153 aV aV aZ ?_;repeat (first|(refine VQ aZ aZ aZ aZ (λK hK=>?_);go_big_quiet_op;refine hK _ ?_;clear hK K)|(refine GB aZ aZ ?_;(try refine cI ?_))|(refine GI aZ aZ aZ aZ (λK hK=>?_);go_simp;(try simp only[uL,adG]);first|(apply Exists.intro;refine⟨λn=>?_,hK _ ?_⟩;(with_reducible exact ab.o _);clear hK K;(try refine cI ?_))|(apply Exists.intro;refine⟨λn=>?_,hK _ ?_⟩;(with_reducible exact HIn.o _);clear hK K;(try refine cI ?_))|(apply Exists.intro;refine⟨λn=>rfl,hK _ ?_⟩;clear hK K;(try refine cI ?_)))|(refine Vh 131 [] aZ aZ aZ (λγ w hR O=>?_) ?_;(go_simp;exact Lk (Below.refl _ _) (HBy.o _ hR));(try refine cI ?_))|(refine Us (.string S2) [131] aZ aZ aT aZ (λγ w hR O=>?_) ?_;((have hc:=O 131 aT w (Below.refl _ _));simp only[cE,Act.put,abP,abV,abU] at *;go_simp;exact Lh (Below.refl _ _) rfl);(try refine cI ?_)))
            refine LH ?_;intro γ w5 B O;clear C F p;simp only[cE,Act.put,abP,abV,abU];have L:aH (aD w9 w9 w5):=HF.o.trans (B.mono HF.o.size);clear B O yW yT p0;go_wp2_with fail
            first|exact⟨⟨f+1,rfl,aQ,L.o⟩,by simp only[aL];omega⟩|exact⟨⟨⟨f+1,rfl,aQ⟩,L.o⟩,by simp only[aL];omega⟩
           .obtain⟨hi1,e,he,he4,hr⟩:=HY.o rfl λh=>hs (congrArg ByteArray.toList h)
            rw[hi1] at HIn;have yR:=(H10.o.aY (i:=2) rfl).cell (e *6+f) _ (Vu k.c hf6 he4);generalize kP k.c (e:Int) 1 (f:Int)=fv at *;have hs1:(S2.toList==S1.toList)=false:=afA.2 hs;have e0':(0:Int)<=e:=aQ;have e1':(e:Int)<4:=aQ;have HHs:=bO hs hi1;clear hs hi1 HY;subst he;go_upto_region 29 with(fail)
            have C:=lX yW;have F:=lX yT;have p:=lX p0;have aft_yR:=lX yR;refine rT bP AI [131] (λ_ v w=>oE S2 v w) (λ_ _ _ _ _ h hr=>h.keep hr) 153 aV aV aZ ?_;repeat (first|(refine VQ aZ aZ aZ aZ (λK hK=>?_);go_big_quiet_op;refine hK _ ?_;clear hK K)|(refine GB aZ aZ ?_;(try refine cI ?_))|(refine GI aZ aZ aZ aZ (λK hK=>?_);go_simp;(try simp only[uL,adG]);first|(apply Exists.intro;refine⟨λn=>?_,hK _ ?_⟩;(with_reducible exact ab.o _);clear hK K;(try refine cI ?_))|(apply Exists.intro;refine⟨λn=>?_,hK _ ?_⟩;(with_reducible exact HIn.o _);clear hK K;(try refine cI ?_))|(apply Exists.intro;refine⟨λn=>rfl,hK _ ?_⟩;clear hK K;(try refine cI ?_)))|(refine Vh 131 [] aZ aZ aZ (λγ w hR O=>?_) ?_;(go_simp;exact Lk (Below.refl _ _) (HBy.o _ hR));(try refine cI ?_))|(refine Us (.string S2) [131] aZ aZ aT aZ (λγ w hR O=>?_) ?_;((have hc:=O 131 aT w (Below.refl _ _));simp only[cE,Act.put,abP,abV,abU] at *;go_simp;exact Lh (Below.refl _ _) rfl);(try refine cI ?_)))
            refine LH ?_;intro γ w5 B O;clear C F p aft_yR;simp only[cE,Act.put,abP,abV,abU];have L:aH (aD w9 w9 w5):=HF.o.trans (B.mono HF.o.size);clear B O yW yT p0;go_wp2_with fail
            first|exact⟨⟨f+1,rfl,aQ,L.o⟩,by simp only[aL];omega⟩|exact⟨⟨⟨f+1,rfl,aQ⟩,L.o⟩,by simp only[aL];omega⟩
        .obtain rfl:f=6:=aQ;have f1':¬((6:Nat):Int)<6:=aQ;have HE9:aH (bY (λb=>b<Q.heap.size) wr hb m g (1+d) P H/\Kp (λb=>b<Q.heap.size) w4 wr):=by
          obtain⟨h1,k1⟩:=H9.o.1.below HF.o;obtain⟨G,sG,hh,_⟩:=h1.ho;exact⟨hh.less λb hb=>sG b (N.o.1 b hb),HKw.o.trans ((H9.o.2.mono N.o.1).trans (k1.mono N.o.1))⟩
         go_wp2_with fail
         exact⟨⟨i+1,P,H,rfl,aQ,HE9.o.1,HD7.o.1,HD7.o.2.1,HE9.o.2⟩,by simp only[aL];omega⟩
   .have hil:i=l.length:=aQ;have j1:¬(i:Int)<(l.length:Int):=aQ;clear hil;go_wp2_with(go_at_call 7;(refine aS (HAw.o _) ?_);rintro r w5' ⟨rfl,hb5'⟩)
    go_ret
    have hBr:aD w w wr:=HB5.o.trans (HR.o.2.2.2.low λb hb=>abR hb HZ2.o);exact⟨rfl,hBr.trans (hb5'.mono hBr.size)⟩
end
end
section
open Go.ChangeShapes Go.WideShapes Go.ChangeAt Go.RowKit Go.Joins Go.Lib Go.Shelf Go.Deep dL Fr Up Nt
theorem V3{a b:Bool}(h:a=true)(k:b=true):(a&&b)=true:=by rw[h,k];rfl
theorem topWrites_contract(H:Type)(enc:aN×aC->H)(W:aA)(base:Nat)(args:Array aC)(m gs:List (DataW H))(before:List MemPlace)
 (a:∀(j:Nat) t v,f3.params[j]?=some t->args[j]?=some v->Value.okWide prog W .any base t v)
 (h:DataW.Whole enc prog f3.params.toList Rows.topWritesSpec.vars false W args.toList m gs before):
 aG prog 3 args W λe n=>∃v,e= .returned v/\Rows.topWritesSpec.post enc prog f3 false true false false W args v n:=by
 have i:=h;have x:=h.lt;obtain⟨p,q,d,y,rfl,z,B⟩:=h;have o:DataW.TrodAll enc prog W 0 (λ_=>true) true f3.params.toList args.toList m p:=d;rw[params3] at o a;obtain⟨v0,v1,d0,d1,p0,p1,rfl,rfl,rfl,C,h1⟩:=trodAll_two o;obtain⟨rfl,rfl⟩:=trodVars_none y;obtain⟨cl,rfl,rfl,rfl,f⟩:=open_int underlying5 (a 0 5 v0 rfl rfl) C;have r:=wf_u8 f;obtain⟨A,l,c,rfl,s,u,g,k⟩:=Y5 (enc:=NG) (sI (λb=>b<W.heap.size) W) underlying22 (show prog.cellsOf 44=12 by kernel_rfl) aQ (a 1 22 v1 rfl rfl) h1 Vm;clear d a;refine(TD cl aQ c W ⟨g,g.fE Ta aQ⟩ k).mono λe n ⟨he,hb⟩=>⟨_,he,?_⟩
 exact Ht (tb:=4) rfl rfl underlying4 (by rw[params3];decide+kernel) i rfl hb
theorem JO(os:Os)(started:os.Started)(H:Type)(enc:aN×aC->H):
 ReturnsInHanded {} checked os 3 .any (Rows.topWritesSpec.pre6 enc prog f3 Rows.topWritesRow.domain false) (Rows.topWritesSpec.post enc prog f3 false true false false):=by
 refine returnsInHanded_of_change (C:=checked) own started aV func3
  (ChangeSpec.witness6 (enc:=enc) (C:=checked) false ⟨#[],#[.int .u8 0,bG], []⟩ 8 aV aV aV aV) ?_
 intro W base args b gs before a c _ _;exact topWrites_contract H enc W base args b gs before a c
theorem JP:∀P,P=Tryz.pinned.checked.prog->joinedFacts P 3 f3 Rows.topWritesSpec Rows.topWritesRow=true:=by
 intro P a;unfold joinedFacts;(iterate 31 (refine V3 ?_ (by
  try rw[a]
  as_aux_lemma=>kernel_rfl)))
 try rw[a]
 as_aux_lemma=>kernel_rfl
theorem topWrites_holds:Rows.TopWritesSaid:=
 OpenClaim.holds_of_wide 3 f3 rfl rfl rfl rfl rfl rfl rfl ⟨rfl,rfl,rfl,rfl,rfl⟩ rfl rfl rfl rfl rfl aV func3 (JP _ rfl)
  (adD aV) (by unfold Func.isWrapper;first|(rw[abS (by decide+kernel)];kernel_rfl)|(rw[abT (by decide+kernel)];exact⟨rfl,rfl⟩))
  (λos started H enc _=>JO os started H enc)
#print axioms topWrites_holds
end
end Go.Proofs.YtacgiflhgdaeaaaGreat
