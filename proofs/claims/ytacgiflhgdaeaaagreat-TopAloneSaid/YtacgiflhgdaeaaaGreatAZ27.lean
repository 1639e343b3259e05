/- Texts laid as one. -/
import Derived.Test.YtacgiflhgdaeaaaGreatAZ1
import Derived.Test.YtacgiflhgdaeaaaGreatAZ3
import Derived.Test.YtacgiflhgdaeaaaGreatAZ11
import Derived.Test.YtacgiflhgdaeaaaGreatAZ25
import Derived.Test.YtacgiflhgdaeaaaGreatAZ26
set_option linter.unusedVariables false
set_option linter.unusedSimpArgs false
set_option maxRecDepth 100000
set_option maxHeartbeats 20000000
namespace Go.Proofs.YtacgiflhgdaeaaaGreat
open Go.Proofs.Tryz
open Go renaming World->aA,Value->aC,Addr->aJ,TypeId->aN,Calls->aG
open Go.RowKit renaming Below->aD,Hid->aH,intOf->aL
open Go.Obj renaming cells->aI
section
open Go.ChangeShapes Go.WideShapes Go.ChangeAt Go.RowKit Go.Deep Go.Joins Go.Lib dF Fr Up Nt
variable{P:Program}{w:aA}{fs:Array Field}{n sz:Nat}{A:Option aJ}
section
theorem iU{H:Type}{enc0:aN×aC->H}{e:aN}{cs:List aC}{x:DataW H×List MemPlace}(he:P.underlying e=some (.struct fs))(h:DataW.trod enc0 P w 0 (λ_=>true) true n e cs=some x)(j:Nat)(f:Field)(a:fs[j]?=some f)(o k:Nat)(ho:f.offset=o)(hk:P.cellsOf f.type=k):
 ∃(y:DataW H×List MemPlace) (m:Nat),DataW.trod enc0 P w 0 (λ_=>true) true m f.type ((cs.drop o).take k)=some y:=by
 obtain⟨ys,b,c,i,hlen,d,hf⟩:=DataW.trod_struct he h;have h1:=hf j f a;rw[ho,hk] at h1;have g:j<fs.size:=(adX.1 a).1;rw[Zv (show j<ys.length by omega)] at h1;exact⟨_,b,h1⟩
theorem Sl.fE{α:Type}{enc:α->List aC}{xs:List α}(h:Sl enc sz w A xs)(he:eL enc sz)(d:0<sz):∀q,mK A xs.length=some q->q<w.heap.size:=λq hq=>by
 unfold mK at hq;split at hq
 .cases hq
 .obtain⟨b,off,a,hc⟩:=h aQ;rw[a] at hq;injection hq with hq;subst hq;have hl:=he.len (xs[0]'(by omega));have h1:=hc 0 (xs[0]'(by omega)) 0 ((enc (xs[0]'(by omega)))[0]'(by omega)) (Zv _) (Zv _);have c:=World.block_lt_of_cell? w _ h1;exact c
def PK(a:Sc):Prop:=match a with|⟨x0,x1,x2⟩=>(Lit.int .i64 x0).wf=true/\(Lit.int .i64 x1).wf=true/\(Lit.int .i64 x2).wf=true
theorem Pj{H:Type}{enc0:aN×aC->H}(cs:List aC)(x:DataW H×List MemPlace)(n:Nat)(e:cs.length=3)
 (h:DataW.trod enc0 prog w 0 (λ_=>true) true n 201 cs=some x):∃a:Sc,cs=lP a/\PK a:=by
 obtain⟨_,v0,o,m0,j,t0⟩:=mX underlying201 aV aV h 0 _ rfl;obtain⟨_,v1,p,m1,k,t1⟩:=mX underlying201 aV aV h 1 _ rfl;obtain⟨_,v2,q,m2,l,t2⟩:=mX underlying201 aV aV h 2 _ rfl;obtain⟨a0,b,_,f⟩:=DataW.trod_int underlying3 t0;obtain⟨m,c,_,g⟩:=DataW.trod_int underlying3 t1;obtain⟨a2,d,_,i⟩:=DataW.trod_int underlying3 t2;injection b with b;injection c with c;injection d with d;subst b c d;refine⟨⟨a0,m,a2⟩,?_,⟨f,g,i⟩⟩;match cs,e with
 | [q0,q1,q2],_=>
  simp at j k l;subst j k l;rfl
def P0(a:(Int×Int×Int)):Prop:=match a with|⟨x0,x1,x2⟩=>(Lit.int .i64 x0).wf=true/\(Lit.int .i64 x1).wf=true/\(Lit.int .i64 x2).wf=true
theorem Qr{H:Type}{enc0:aN×aC->H}(cs:List aC)(x:DataW H×List MemPlace)(n:Nat)(e:cs.length=3)
 (h:DataW.trod enc0 prog w 0 (λ_=>true) true n 171 cs=some x):∃a:(Int×Int×Int),cs=mB a/\P0 a:=by
 obtain⟨_,v0,o,m0,j,t0⟩:=mX underlying171 aV aV h 0 _ rfl;obtain⟨_,v1,p,m1,k,t1⟩:=mX underlying171 aV aV h 1 _ rfl;obtain⟨_,v2,q,m2,l,t2⟩:=mX underlying171 aV aV h 2 _ rfl;obtain⟨a0,b,_,f⟩:=DataW.trod_int underlying3 t0;obtain⟨m,c,_,g⟩:=DataW.trod_int underlying3 t1;obtain⟨a2,d,_,i⟩:=DataW.trod_int underlying3 t2;injection b with b;injection c with c;injection d with d;subst b c d;refine⟨⟨a0,m,a2⟩,?_,⟨f,g,i⟩⟩;match cs,e with
 | [q0,q1,q2],_=>
  simp at j k l;subst j k l;rfl
def PF(a:(Int×Int×Int)):Prop:=match a with|⟨x0,x1,x2⟩=>(Lit.int .i64 x0).wf=true/\(Lit.int .i64 x1).wf=true/\(Lit.int .i64 x2).wf=true
theorem Pe{H:Type}{enc0:aN×aC->H}(cs:List aC)(x:DataW H×List MemPlace)(n:Nat)(e:cs.length=3)
 (h:DataW.trod enc0 prog w 0 (λ_=>true) true n 106 cs=some x):∃a:(Int×Int×Int),cs=mB a/\PF a:=by
 obtain⟨_,v0,o,m0,j,t0⟩:=mX underlying106 aV aV h 0 _ rfl;obtain⟨_,v1,p,m1,k,t1⟩:=mX underlying106 aV aV h 1 _ rfl;obtain⟨_,v2,q,m2,l,t2⟩:=mX underlying106 aV aV h 2 _ rfl;obtain⟨a0,b,_,f⟩:=DataW.trod_int underlying3 t0;obtain⟨m,c,_,g⟩:=DataW.trod_int underlying3 t1;obtain⟨a2,d,_,i⟩:=DataW.trod_int underlying3 t2;injection b with b;injection c with c;injection d with d;subst b c d;refine⟨⟨a0,m,a2⟩,?_,⟨f,g,i⟩⟩;match cs,e with
 | [q0,q1,q2],_=>
  simp at j k l;subst j k l;rfl
section
variable{H:Type}{enc0:aN×aC->H}{w:aA}
theorem Ts(cs:List aC)(x:DataW H×List MemPlace)(n:Nat)(b:cs.length=1)(h:DataW.trod enc0 prog w 0 (λ_=>true) true n 34 cs=some x):∃a:Wd,cs=PL a/\Sl eU 1 w a.A a.xs/\∀u∈a.xs,0<=u/\u<18446744073709551616:=by
 match cs,b with
 | [v],_=>
  obtain⟨A,xs,c,rfl,_,_,h1,d⟩:=jF (enc:=eU) (λa=>(Lit.int .u64 a).wf=true) underlying34 (show prog.cellsOf 75=1 by kernel_rfl) aQ h (λcs x n hl h=>LY underlying75 cs x n hl h);exact⟨⟨A,c,xs⟩,rfl,h1,λu hu=>by have:=wf_u64 (d u hu);omega⟩
theorem Sb(cs:List aC)(x:DataW H×List MemPlace)(n:Nat)(b:cs.length=5)(h:DataW.trod enc0 prog w 0 (λ_=>true) true n 131 cs=some x):∃a:Tm,cs=pI a/\Sl lP 3 w a.A a.t.se:=by
 obtain⟨l,m0,t0⟩:=iU underlying131 h 0 _ rfl 0 3 rfl aV;obtain⟨m,m1,t1⟩:=iU underlying131 h 1 _ rfl 3 1 rfl aV;obtain⟨o,m2,t2⟩:=iU underlying131 h 2 _ rfl 4 1 rfl aV;match cs,b with
 | [q0,q1,q2,q3,q4],_=>
  simp only[adY,adI,adH,ad1] at t0 t1 t2;obtain⟨z0,n0,g⟩:=iU underlying122 t0 0 _ rfl 0 1 rfl aV;obtain⟨p,n1,i⟩:=iU underlying122 t0 1 _ rfl 1 1 rfl aV;obtain⟨z2,q,j⟩:=iU underlying122 t0 2 _ rfl 2 1 rfl aV;simp only[adY,adI,adH,ad1] at g i j;obtain⟨a0,d,_,_⟩:=DataW.trod_int underlying3 g;obtain⟨k,h1,_,_⟩:=DataW.trod_int underlying3 i;obtain⟨a2,e,_,_⟩:=DataW.trod_int underlying3 j;obtain⟨a4,f,_,_⟩:=DataW.trod_int underlying3 t2;injection d with d;injection h1 with h1;injection e with e;injection f with f;subst d h1 e f;obtain⟨A,se,c,rfl,_,_,s1,s2⟩:=jF (enc:=lP) PK underlying129 (show prog.cellsOf 201=3 by kernel_rfl) aQ t1 Pj;exact⟨⟨⟨a0,k,a2,se,a4⟩,A,c⟩,rfl,s1⟩
theorem Tf(cs:List aC)(x:DataW H×List MemPlace)(n:Nat)(f:cs.length=12)(h:DataW.trod enc0 prog w 0 (λ_=>true) true n 44 cs=some x):∃a:Ac,cs=MQ a/\pB (λb=>b<w.heap.size) w a:=by
 obtain⟨M,m0,t0⟩:=iU underlying44 h 0 _ rfl 0 1 rfl aV;obtain⟨N,m1,t1⟩:=iU underlying44 h 1 _ rfl 1 1 rfl aV;obtain⟨O,m2,t2⟩:=iU underlying44 h 2 _ rfl 2 1 rfl aV;obtain⟨P,m3,t3⟩:=iU underlying44 h 3 _ rfl 3 2 rfl aV;obtain⟨Q,m4,t4⟩:=iU underlying44 h 4 _ rfl 5 1 rfl aV;obtain⟨R,m5,t5⟩:=iU underlying44 h 5 _ rfl 6 1 rfl aV;obtain⟨S,m6,t6⟩:=iU underlying44 h 6 _ rfl 7 1 rfl aV;obtain⟨T,m7,t7⟩:=iU underlying44 h 7 _ rfl 8 4 rfl aV;match cs,f with
 | [q0,q1,q2,q3,q4,q5,q6,q7,q8,q9,q10,q11],_=>
  simp only[adY,adI,adH,ad1] at t0 t1 t2 t3 t4 t5 t6 t7;obtain⟨z0,n0,o⟩:=iU underlying32 t3 0 _ rfl 0 1 rfl aV;obtain⟨U,n1,p⟩:=iU underlying32 t3 1 _ rfl 1 1 rfl aV;obtain⟨z2,V,e⟩:=iU underlying42 t7 0 _ rfl 0 3 rfl aV;obtain⟨z3,W,q⟩:=iU underlying42 t7 1 _ rfl 3 1 rfl aV;simp only[adY,adI,adH,ad1] at o p e q;obtain⟨z4,X,r⟩:=iU underlying39 e 0 _ rfl 0 1 rfl aV;obtain⟨z5,n5,s⟩:=iU underlying39 e 1 _ rfl 1 1 rfl aV;obtain⟨Y,n6,y⟩:=iU underlying39 e 2 _ rfl 2 1 rfl aV;simp only[adY,adI,adH,ad1] at r s y;obtain⟨a0,g,_,_⟩:=DataW.trod_int underlying3 t0;obtain⟨G,h1,_,_⟩:=DataW.trod_int underlying3 t1;obtain⟨a2,i,_,I⟩:=DataW.trod_int underlying5 t2;obtain⟨a3,j,_,_⟩:=DataW.trod_int underlying3 o;obtain⟨a4,k,_,_⟩:=DataW.trod_int underlying3 p;obtain⟨a5,l,_,w5⟩:=DataW.trod_int underlying5 t5;injection g with g;injection h1 with h1;injection i with i;injection j with j;injection k with k;injection l with l;subst g h1 i j k l;have b2:=wf_u8 I;have Z:=wf_u8 w5;obtain⟨TA,ts,Tc,rfl,_,_,s1,s2⟩:=jF (enc:=pI) (λa=>Sl lP 3 w a.A a.t.se) underlying33 (show prog.cellsOf 131=5 by kernel_rfl) aQ t4 Sb;obtain⟨CA,cs',Cc,rfl,_,_,B,J⟩:=jF (enc:=eU) (λa=>(Lit.int .u64 a).wf=true) underlying34 (show prog.cellsOf 75=1 by kernel_rfl) aQ t6 (λcs x n hl h=>LY underlying75 cs x n hl h);obtain⟨RA,rs,Rc,rfl,_,_,C,s6⟩:=jF (enc:=eI) (λa=>(Lit.int .i64 a).wf=true) underlying35 (show prog.cellsOf 3=1 by kernel_rfl) aQ r (λcs x n hl h=>LY underlying3 cs x n hl h);obtain⟨WA,ws,Wc,rfl,_,_,D,s8⟩:=jF (enc:=mB) P0 underlying36 (show prog.cellsOf 171=3 by kernel_rfl) aQ s Qr;obtain⟨XA,xs,Xc,rfl,_,_,E,c⟩:=jF (enc:=PL) (λa=>Sl eU 1 w a.A a.xs/\∀u∈a.xs,0<=u/\u<18446744073709551616) underlying37 (show prog.cellsOf 34=1 by kernel_rfl) aQ y Ts;obtain⟨QA,qs,Qc,rfl,_,_,d,K⟩:=jF (enc:=mB) PF underlying40 (show prog.cellsOf 106=3 by kernel_rfl) aQ q Pe;refine⟨⟨a0,G,a2,a3,a4,TA,Tc,ts,a5,CA,Cc,cs',RA,Rc,rs,WA,Wc,ws,XA,Xc,xs,QA,Qc,qs⟩,rfl,?_⟩;exact⟨s1,s1.fE lK aQ,λx F=>⟨s2 x F,(s2 x F).fE BR aQ⟩,B,B.fE xS aQ,λv L=>by have:=wf_u64 (J v L);omega,⟨C,C.fE gK aQ,D,D.fE uE aQ,E,E.fE Pf aQ,λz m=>⟨(c z m).1,(c z m).1.fE xS aQ,(c z m).2⟩⟩,d,d.fE uE aQ,(show 0<=a2/\a2<=255 by omega),(show 0<=a5/\a5<=255 by omega)⟩
end
end
end
section
open Go.RowKit Go.Lib Go.Shelf dF Fr Up Nt
variable{r:Option Nat}{A9 A5 A:Option aJ}{c9 n0 g n:Nat}{co pe de po:Int}{ss:List Sc}
section
structure vC(w0 wr:aA)(N:Nat)(A:Option aJ)(c:Nat)(L:List Tm):Prop where
 o:bI pI 5 wr w0.heap.size 125 A c L
 s:∀x∈L,Sl lP 3 wr x.A x.t.se/\x.t.se.length<=x.c/\∀q,aY x.A=some q->q<N/\∃cs,bF wr q 199 cs
 b:aD w0 w0 wr
 n:w0.heap.size<=N/\N<=wr.heap.size
section
variable{w0 wr w9:aA}{N:Nat}{A:Option aJ}{c:Nat}{L:List Tm}
theorem vC.below(h:vC w0 wr N A c L)(hb:aD wr wr w9):vC w0 w9 N A c L:=
 ⟨h.o.keep hb,λx a=>⟨(h.s x a).1.keep hb,(h.s x a).2.1,λq hq=>⟨((h.s x a).2.2 q hq).1,by obtain⟨cs,h1⟩:=((h.s x a).2.2 q hq).2;exact⟨cs,h1.keep hb⟩⟩⟩,h.b.trans (hb.mono (aaC h.n.1 h.n.2)),h.n.1,aaC h.n.2 hb.size⟩
theorem vC.up(h:vC w0 wr N A c L):vC w0 wr wr A c L:=
 ⟨h.o,λx a=>⟨(h.s x a).1,(h.s x a).2.1,λq hq=>⟨by obtain⟨cs,h1⟩:=((h.s x a).2.2 q hq).2;exact h1.lt,((h.s x a).2.2 q hq).2⟩⟩,h.b,aaC h.n.1 h.n.2,Zw _⟩
theorem vC.grown(h:vC w0 wr N A c L)(d:wr.grownBy w9 r)(j:aY A=none\/aY A≠r)(k:∀q,r=some q->w0.heap.size<=q)(hs:∀x∈L,aY x.A=none\/aY x.A≠r):vC w0 w9 N A c L:=
 ⟨h.o.kept d j,λx a=>⟨(h.s x a).1.grown d λg f e=>by
  rcases hs x a with h1|h1
  .rw[h1] at e;cases e
  .exact h1 (e.trans f.symm),(h.s x a).2.1,λq hq=>⟨((h.s x a).2.2 q hq).1,by
  obtain⟨cs,h1⟩:=((h.s x a).2.2 q hq).2;exact⟨cs,h1.grown d λe=>by
   rcases hs x a with i|i
   .rw[i] at hq;cases hq
   .exact i (hq.trans e)⟩⟩⟩,K0 h.b d k,h.n.1,aaC h.n.2 d.size⟩
theorem vC.app(h:vC w0 wr N A c L){x:Tm}(m:Sl lP 3 wr x.A x.t.se/\x.t.se.length<=x.c/\∀q,aY x.A=some q->q<wr.heap.size/\∃cs,bF wr q 199 cs)(d:bI pI 5 w9 w0.heap.size 125 A9 c9 (L++ [x]))(j:wr.grownBy w9 (aY A)):vC w0 w9 w9 A9 c9 (L++ [x]):=by
 have ne:∀y:Tm,(∀q,aY y.A=some q->∃cs,bF wr q 199 cs)->aY y.A=none\/aY y.A≠aY A:=λy a=>by
  cases hq:aY y.A with
  |none=>exact .inl rfl
  |some q=>
   refine .inr λe=>?_
   obtain⟨cs,h1⟩:=a q hq;obtain⟨cs',f⟩:=qM h.o q e.symm;exact QS h1 f cC rfl
 have key:∀y:Tm,(Sl lP 3 wr y.A y.t.se/\y.t.se.length<=y.c/\∀q,aY y.A=some q->q<wr.heap.size/\∃cs,bF wr q 199 cs)->Sl lP 3 w9 y.A y.t.se/\y.t.se.length<=y.c/\∀q,aY y.A=some q->q<w9.heap.size/\∃cs,bF w9 q 199 cs:=λy a=>by
  have n1:=ne y λq hq=>(a.2.2 q hq).2
  refine⟨a.1.grown j λg k e=>?_,a.2.1,λq hq=>?_⟩
  .rcases n1 with h1|h1
   .rw[h1] at e;cases e
   .exact h1 (e.trans k.symm)
  .obtain⟨h1,cs,f⟩:=a.2.2 q hq;have i:=f.grown j λe=>by
    rcases n1 with l|l
    .rw[l] at hq;cases hq
    .exact l (hq.trans e)
   exact⟨i.lt,cs,i⟩
 refine⟨d,λy a=>?_,K0 h.b j (λq hq=>(h.o.lt q hq).1),aaC h.n.1 (aaC h.n.2 j.size),Zw _⟩;rcases aaO.1 a with a|a
 .obtain⟨h1,f,i⟩:=h.s y a;exact key y ⟨h1,f,λq hq=>⟨Zy (i q hq).1 h.n.2,(i q hq).2⟩⟩
 .rw[aaK.1 a];exact key x m
structure MN(w0 wr:aA)(n0 N g:Nat)(B:Option aJ)(d:Nat)(L:List Tm)(co pe de po:Int)(A5:Option aJ)(c5:Nat)(ss:List Sc):Prop where
 t:vC w0 wr n0 B d L
 k:bF wr g 125 #[co,pe,de,(A5,ss.length,c5),po]
 o:bI lP 3 wr N 199 A5 c5 ss
 bB:∀q,aY B=some q->q<n0
 ng:n0<=g/\g<N/\N<=wr.heap.size
theorem MN.below{c5:Nat}(h:MN w0 wr n0 N g A c L co pe de po A5 c5 ss)(hb:aD wr wr w9):MN w0 w9 n0 N g A c L co pe de po A5 c5 ss:=
 ⟨h.t.below hb,h.k.keep hb,h.o.keep hb,h.bB,h.ng.1,h.ng.2.1,aaC h.ng.2.2 hb.size⟩
theorem MN.app{c5:Nat}{s:Sc}(h:MN w0 wr n0 N g A c L co pe de po A5 c5 ss)(b:bI lP 3 w9 N 199 A9 c9 (ss++ [s]))(f:wr.grownBy w9 (aY A5))(l:n=(ss++ [s]).length):(∃v,w9.cell? (g,3)=some v)/\w9.frozen? (g,3)=false/\MN w0 (w9.setCell (g,3) (.slice A9 n c9)) n0 N g A c L co pe de po A9 c9 (ss++ [s]):=by
 have d:∀q,aY A5=some q->N<=q:=λq hq=>(h.o.lt q hq).1
 have m:∀q,aY A9=some q->N<=q:=λq hq=>(b.lt q hq).1
 have ng:=h.ng;have i:bF w9 g 125 _:=h.k.grown f λe=>by have:=d g e.symm;omega
 have t9:vC w0 w9 n0 A c L:=h.t.grown f (by
  cases a:aY A with
  |none=>exact .inl rfl
  |some q=>exact .inr λe=>by have:=h.bB q a;have:=d q e.symm;omega) (λq hq=>by have:=d q hq;have:=h.t.n;omega) (λx j=>by
  cases a:aY x.A with
  |none=>exact .inl rfl
  |some q=>exact .inr λe=>by have:=((h.t.s x j).2.2 q a).1;have:=d q e.symm;omega)
 have gs:w9.grownBy (w9.setCell (g,3) (.slice A9 n c9)) (some g):=aZ (bK _ _) 3 _;refine⟨⟨_,i.cell 3 _ rfl⟩,i.frozen 3,t9.grown gs ?_ (λq hq=>by injection hq with hq;have:=h.t.n;omega) (λx j=>?_),?_,b.kept gs ?_,h.bB,ng.1,ng.2.1,aaC (aaC ng.2.2 f.size) gs.size⟩
 .cases a:aY A with
  |none=>exact .inl rfl
  |some q=>exact .inr λe=>by injection e with e;have:=h.bB q a;omega
 .cases a:aY x.A with
  |none=>exact .inl rfl
  |some q=>exact .inr λe=>by injection e with e;have:=((h.t.s x j).2.2 q a).1;omega
 .have:=i.bX 3 (.slice A9 n c9);rw[l] at this⊢;exact this
 .cases a:aY A9 with
  |none=>exact .inl rfl
  |some q=>exact .inr λe=>by injection e with e;have:=m q a;omega
theorem vC.Ru(h:vC w0 wr N A c L):qK wr A L:=⟨h.o.sl lK,λx a=>(h.s x a).1,λx a=>(h.s x a).2.1⟩
end
def Vf(ts:List Tm)(w:aA)(r:Ending)(w':aA):Prop:=∃(A':Option aJ) (c':Nat) (L:List Tm),r= .returned (.slice A' ts.length c')/\qK w' A' L/\L.map Tm.t=ts.map Tm.t/\aD w w w'
theorem JZ{ts:List Tm}(cT:Nat)(w:aA)(h:Sl pI 5 w A ts)(hs:∀x∈ts,Sl lP 3 w x.A x.t.se)(hl:ts.length<=100)(V:∀x∈ts,x.t.se.length<=100):
 aG prog 25 #[(A,ts.length,cT)] w (Vf ts w):=by
 have HS:=bN h hs;have h0:aH (vC w w w none 0 []):=⟨bI.nil _ _ _,λx hx=>(by cases hx),Below.refl _ _,Zw _,Zw _⟩
 clear h hs;go_enter func25,ntmps25
 go_wp2_with fail
 go_loopw [3,4] (λv3 v4 wr=>∃(i:Nat) (B:Option aJ) (d:Nat),v3= .slice B i d/\v4= .int .i64 i/\i<=ts.length/\aH (∃L,vC w wr wr B d L/\L.map Tm.t=(ts.take i).map Tm.t)) (λ_ v4 _=>ts.length - (aL v4).toNat)
 case atStart=>exact⟨0,none,0,rfl,rfl,aaH _, [],h0.o,rfl⟩
 case round=>
  clear h0;obtain⟨i,B,d,rfl,rfl,hi,F⟩:=hrel;obtain⟨L,e,l⟩:=F.o;have G:L.length=i:=by have:=congrArg List.length l;simp at this;omega
  have H:=dA e l G;have i0:(0:Int)<=i:=aQ;by_cases p:i<ts.length
  .have i1:(i:Int)<(ts.length:Int):=aQ;obtain⟨b,off,rfl,hc⟩:=HS.o.1.cells p;have jN:aH (ts.take (i+1)=ts.take i++ [ts[i]]):=(aa3 p).symm;have M:aH (Sl lP 3 w ts[i].A ts[i].t.se/\ts[i].t.se.length<=100):=⟨HS.o.2 _ (aaF p),V _ (aaF p)⟩
   generalize ts[i]=x at *;obtain⟨⟨co,pe,de,se,po⟩,xA,xc⟩:=x;have HC:aH (w.cell? (b,off+i *5+3)=some (.slice xA se.length xc)):=hc 3 _ rfl;have c0:wr.cell? (b,off+i *5)=some (.int .i64 co):=bG e.b (hc 0 _ rfl);have c1:wr.cell? (b,off+i *5+1)=some (.int .i64 pe):=bG e.b (hc 1 _ rfl);have c2:wr.cell? (b,off+i *5+2)=some (.int .i64 de):=bG e.b (hc 2 _ rfl);have c4:wr.cell? (b,off+i *5+4)=some (.int .i64 po):=bG e.b (hc 4 _ rfl);have hse1:se.length<=100:=M.o.2;clear hc e l G F;go_upto_region 5 with(fail)
   have r:=bD c0;have u:=bD c1;have y:=bD c2;have z:=bD c4;refine bO (bS _) (λ_=>bS) [5] (λ_ v w=>EO (jA c0) 125 #[aU,aU,aU,bH,aU] v w) [12] [] 60 (bY _) (λ_ _ _ h W=>bU h W) (λ_ d hd _ v w w' _ h W=>h.keep W) aV aV bL ?_;repeat (first|(refine eA ?_)|(refine uG 5 [] bL bL bL bL (λγ w hC e=>?_) ?_;(simp only[cO];go_simp;exact p5 (aX w _) ⟨_,rfl,Below.size hC,bF.new w _ _⟩);(try refine dE ?_)))
   refine dC ?_;intro γ w_ hb_ e;clear r u y z;simp only[cO,Act.put,Zx,aaE,aaD];refine dP ?_;obtain⟨g5,e_,O,P⟩:=e 5 aT;simp only[e_];clear e e_;refine iP O hb_ P rfl 125 _ _ rfl #[co,pe,de,bH,po] rfl rfl rfl aV aV ?_;clear O hb_ P;intro w5 Q R;refine cI ?_;simp only[Act.put];have K:aH (MN w w5 wr w5.heap.size g5 B d L co pe de po none 0 []):=by
    obtain⟨h1,h2⟩:=R;exact⟨H.o.1.below Q,h2,bI.nil _ _ _,λq hq=>(H.o.1.o.lt q hq).2,h1,h2.lt,Zw _⟩
   have X:aH (aD w w w5):=K.o.t.b;clear c0 c1 c2 c4 Q R;generalize wr.heap.size=n0 at *;generalize w5.heap.size=N at *;go_wp2_with fail
   go_loopw [6] (λv6 wr=>∃k:Nat,v6= .int .i64 k/\k<=se.length/\aH (∃I c5,MN w wr n0 N g5 B d L co pe de po I c5 (se.take k))) (λv6 _=>se.length - (aL v6).toNat)
   case atStart=>exact⟨0,rfl,aaH _,none,0,K.o⟩
   case round=>
    clear K X;obtain⟨k,rfl,hk,F⟩:=hrel;obtain⟨I,c5,a⟩:=F.o;have K:=aP a;have c3:wr.cell? (b,off+i *5+3)=some (.slice xA se.length xc):=bG a.t.b HC.o;have k0:(0:Int)<=k:=aQ;have C:(se.take k).length=k:=by rw[abJ];omega
    have g3:=a.k.cell 3 (.slice I (se.take k).length c5) rfl;rw[C] at g3;by_cases S:k<se.length
    .have k1:(k:Int)<(se.length:Int):=aQ;obtain⟨b3,f,rfl,D⟩:=(M.o.1.keep a.t.b).cells S;have Y:aH (se.take (k+1)=se.take k++ [se[k]]):=(aa3 S).symm;generalize se[k]=s at *;obtain⟨lk,fr,up⟩:=s;have s0:wr.cell? (b3,f+k *3)=some (.int .i64 lk):=D 0 _ rfl;have s1:wr.cell? (b3,f+k *3+1)=some (.int .i64 fr):=D 1 _ rfl;have s2:wr.cell? (b3,f+k *3+2)=some (.int .i64 up):=D 2 _ rfl;have T:=aP C;clear D a F C;go_upto_region 10 with(fail)
     have Z:=aP (K.o.below (aX wr (aI #[lk,fr,up] 201)));have U:=bF.new wr 201 #[lk,fr,up];have y0:=U.cell 0 lk rfl;have y1:=U.cell 1 fr rfl;have y2:=U.cell 2 up rfl;have g3':=bG (aX wr (aI #[lk,fr,up] 201)) g3;clear g3 c3 s0 s1 s2 U;generalize wr.alloc (aI #[lk,fr,up] 201)=w8 at *;go_wp2_with(refine bP _ rfl (.tmp 44) (.tmp 52) rfl Ti BR (base:=N) (xs:=se.take k) (Z.o.o.alloc _) (n:=k) T.o rfl (m:=1) rfl (ys:= [⟨lk,fr,up⟩]) rfl (Sl.fI BR w8 ⟨lk,fr,up⟩ _ rfl _ aT) dI aQ (aaC Z.o.ng.2.2 aT) _ rfl (k+1) rfl ?_;intro A9 c9 w9 g J at9;(obtain⟨b9,f9,HO9⟩:=(Z.o.below (aX w8 (aI #[lk,fr,up] 199))).app g J (n:=k+1) (by rw[aaM,T.o];rfl));obtain⟨b9v,b9⟩:=b9)
     exact⟨⟨k+1,rfl,aQ,A9,c9,by rw[Y.o];exact HO9⟩,by simp only[aL];omega⟩
    .obtain rfl:k=se.length:=aQ;have k1:¬(se.length:Int)<(se.length:Int):=aQ;rw[ab9] at a;have E:=aP a;have g0:=a.k.cell 0 co rfl;have g1:=a.k.cell 1 pe rfl;have g2:=a.k.cell 2 de rfl;have g4:=a.k.cell 4 po rfl;clear a K F C;go_wp2_with(refine bP _ rfl (.tmp 55) (.tmp 57) rfl Dw lK (base:=w.heap.size) (xs:=L) (E.o.t.o.alloc _) (n:=i) H.o.2.2 rfl (m:=1) rfl (ys:= [⟨⟨co,pe,de,se,po⟩,I,c5⟩]) rfl (Sl.fI lK wr ⟨⟨co,pe,de,se,po⟩,I,c5⟩ _ rfl _ aT) dI aQ (aaC E.o.t.n.1 (aaC E.o.t.n.2 aT)) _ rfl (i+1) rfl ?_;intro A9 c9 w9 g J at9)
     have j:=E.o.below (aX wr (aI #[co,pe,de, .slice I se.length c5,po] 125));exact⟨⟨i+1,A9,c9,rfl,rfl,aQ,L++ [⟨⟨co,pe,de,se,po⟩,I,c5⟩],j.t.up.app ⟨j.o.sl BR,j.o.cap,λq hq=>⟨(j.o.lt q hq).2,qM j.o q hq⟩⟩ g J,by rw[jN.o,adU,adU,H.o.2.1];rfl⟩,by simp only[aL];omega⟩
  .obtain rfl:i=ts.length:=aQ;have i1:¬(ts.length:Int)<(ts.length:Int):=aQ;clear e l G F;go_wp2_with fail
   go_ret
   have h1:=H.o.2.1;rw[ab9] at h1;exact⟨B,d,L,rfl,H.o.1.Ru,h1,H.o.1.b⟩
end
theorem JW(w:aA)(c:Int)(hc:1<=c/\c<=64):aG prog 8 #[c] w λe w'=>∃hb m g p0,e= .returned (.pointer (some ⟨hb,0,none⟩))/\bV (λb=>b<w.heap.size) w' hb m g c (oK p0) sD/\aD w w w':=by
 have h:=aP (Cz w c hc);go_enter func8,ntmps8
 go_wp2_with fail
 refine aR h ?_;rintro r u ⟨hb,m,g,p0,rfl,f,d⟩;have c0:=f.c0;unfold pA at c0;obtain⟨G,a,hk,d0,_⟩:=f.kn;have i:=hk.pf;have j:=hk.pt;have k:=hk.pc;have l:=hk.pi;have n:=hk.pr;have p:=hk.pb;have q:=hk.ps;unfold pA at i j k l n p q;have s:=bN f d;clear f d hk h;go_wp2_with(first|(go_at_call 10;(refine aS (DY c0) ?_);rintro x t ⟨rfl,rfl⟩)|(go_at_call 11;(refine aS (mS d0) ?_);rintro x t ⟨rfl,rfl⟩))
 go_ret
 exact⟨hb,m,g,p0,rfl,s.o⟩
variable{i:Nat}
section
variable{F:Nat->Prop}{w w0 w':aA}{hb m g:Nat}{c:Int}{k:Kv}{rs:List Rm}
def Ua(F:Nat->Prop)(hb m g:Nat)(c:Int)(k:Kv)(rs:List Rm)(i:Nat)(r:Pa.Cp.Tp×Nat×Pa.Cp.St)(w:aA)(e:Ending)(w':aA):Prop:=e= .returned (.tuple #[.agg #[r.1.k,r.1.p, .int .u64 r.1.x],r.2.1])/\Pa.Cp.EY r.2.2.R/\∃L,(qD L/\L.length<=16/\Pa.Cp.nD L=Pa.Cp.nD k.t)/\bV F w' hb m g c {k with t:=L,f:=r.2.2.s} (E9 rs i r.2.2.R r.2.2.pc)/\Kp F w w'
theorem Fj(hi:i<rs.length):E9 rs i (bE rs i).R (bE rs i).pc=rs:=by
 unfold E9;rw[<-kK hi];exact List.set_getElem_self hi
theorem bV.tf(h:bV F w hb m g c k rs):w.cell? (g,1)=some (.pointer k.p.1)/\w.cell? (g,0)=some (.pointer k.p.2):=by
 obtain⟨G,a,hk,_⟩:=h.kn;have h1:=hk.pt;have b:=hk.pf;rw[hk.pp];exact⟨h1,b⟩
theorem Dc(h:bV F w hb m g c k rs)(hI:KI k n0)(hi:i<8)(e:Int)(n:Nat)(hn:n<=1000):
 aG prog 81 #[.pointer (some ⟨hb,2+i *15+5,none⟩), .slice (bE rs i).cA (bE rs i).C.length (bE rs i).cc, .agg #[e, .pointer k.p.1, .pointer k.p.2],n] w
  (Ua F hb m g c k rs i (Pa.Cp.mZ (Pa.Cp.nD k.t e) (bE rs i).C n 0 ⟨(bE rs i).R,(bE rs i).pc,k.f⟩) w):=by
 have d:i<rs.length:=by rw[h.l8];exact hi
 obtain⟨Q,S⟩:=h.Yj d;obtain⟨G1,⟨bs,a,hA⟩,b1⟩:=h.st;obtain⟨G2,hk,b2⟩:=hA.kn;obtain⟨G3,hf,b3⟩:=hk.fr;obtain⟨G4,⟨A,ca,th,tm,B,D,E,L⟩,b4⟩:=hk.tb;have hp:=hk.pp;have e1:k.p.1=a.gt:=by rw[hp]
 have e2:k.p.2=a.gf:=by rw[hp]
 rw[e1,e2];have l:=h.bk;have n1:a.gt≠a.gf:=yW B.1 hf.m.at_ cC;have n2:a.gt≠hb:=yW B.1 l cC;have T:a.gf≠hb:=yW hf.m.at_ l cC;have n4:aY A≠some a.gf:=BV B.2 hf.m.at_ cC;have n5:aY A≠some hb:=BV B.2 l cC;have ok:=h.BF hi;have q:Pa.Cp.Mo (λb=>b<w.heap.size/\b≠a.gt/\b≠a.gf/\b≠hb/\aY A≠some b) w a.gt a.gf (Ko hb m c rs i) (Pa.Cp.nD k.t) ⟨(bE rs i).R,(bE rs i).pc,k.f⟩:=
  ⟨A,ca,k.t,th,tm,B,hf.m,by rw[Jv hb m c h.ok d,Fj d];exact l,ok.rg,by
   show 2+i *15+5<=(iB m c rs).size;have:=aaN.1 ((aaX ..).symm ▸ (WG m c h.ok d (j:=5) aQ).trans (Zv (by rw[pR (h.ok _ (aaF d))];omega)));simpa using Nat.le_of_lt this.1,hI.tu,hI.tl,rfl,n1,n2,T,n4,n5,λb hb=>hb⟩
 have hc:Pa.Cp.Cd (λb=>b<w.heap.size/\b≠a.gt/\b≠a.gf/\b≠hb/\aY A≠some b) w (bE rs i).cA (bE rs i).C:=⟨by rw[<-kK d];exact Q,ok.cr,by have:=ok.cl;omega,λ_ b hb=>by
  rw[<-kK d] at hb;obtain⟨cs,M⟩:=S b hb;exact⟨M.lt,yW M B.1 cC,yW M hf.m.at_ cC,yW M l cC,BV B.2 M cC⟩⟩
 refine(Pa.Cp.Su _ a.gt a.gf (Ko hb m c rs i) (bE rs i).cA (bE rs i).cc (bE rs i).C e _ _ n w q hc hn).mono ?_;generalize Pa.Cp.mZ (Pa.Cp.nD k.t e) (bE rs i).C n 0 ⟨(bE rs i).R,(bE rs i).pc,k.f⟩=r;rintro v w' ⟨rfl,⟨A2,c2,L2,P,m2,q2⟩,kp⟩;have N:bF w' hb 139 (iB m c (E9 rs i r.2.2.R r.2.2.pc)):=by rw[<-Jv hb m c h.ok d];exact q2.cp
 have U:(E9 rs i r.2.2.R r.2.2.pc).length=rs.length:=aaL;have V:∀x∈E9 rs i r.2.2.R r.2.2.pc,pW x:=λx W=>by
  rcases abC W with W|rfl
  .exact h.ok x W
  .exact⟨q2.rg,ok.cl,ok.cr⟩
 have jA:(iB m c (E9 rs i r.2.2.R r.2.2.pc)).size=(iB m c rs).toList.length:=by
  unfold iB NB;simp only[ac5,aaM,FH V,FH h.ok,U]
 have bA:=N.fill (iB m c rs).toList jA;have z:=fJ hb (iB m c rs).toList 0 w' w' (bK w' hb);have X:=QB (w:=w') (g:=hb) 0 (iB m c rs).toList;rw[Array.toArray_toList] at bA;generalize w'.setCells hb 0 (iB m c rs).toList=o at *;have fA:bF o a.gf 150 (fc r.2.2.s).toArray:=q2.fm.at_.grown z (λe=>T (by injection e));have tA:=q2.tb.only z n2 q2.ac;have Y:(fc r.2.2.s).toArray.size=(fc k.f).length:=by
  simp[fc,q2.fm.t,q2.fm.b,hf.m.t,hf.m.b]
 have bB:=fA.fill (fc k.f) Y;have G:=fJ a.gf (fc k.f) 0 o o (bK o a.gf);have Z:=QB (w:=o) (g:=a.gf) 0 (fc k.f);generalize o.setCells a.gf 0 (fc k.f)=wB at *;have tB:=tA.only G n1 q2.af;have k4:Kp G4 w wB:=⟨G.os.trans (z.os.trans kp.os),G.tape.trans (z.tape.trans kp.tape),G.output.trans (z.output.trans kp.output),aaC kp.size (aaC z.size G.size),λb H=>by
  have u:=D b H;have P:=Zy u kp.size;have h3:=Zy P z.size;by_cases K:b=a.gf
  .rw[K];exact bB.trans hf.m.at_.symm
  .by_cases I:b=hb
   .rw[I];exact(G.block hb (I ▸ h3) (λe=>T (by injection e with e;exact e.symm))).trans (bA.trans l.symm)
   .exact(G.block b h3 (λe=>K (by injection e))).trans ((z.block b P (λe=>I (by injection e))).trans (kp.block b ⟨u,λe=>E (e ▸ H),K,I,λe=>L b e H⟩))⟩
 obtain⟨x1,x2⟩:=b4 L2 wB ⟨A2,c2,P,m2,tB,D.kp k4,E,λb J hG=>by
  have u:=D b hG;by_cases K:b=a.gf
  .exact q2.af (by rw[J,K])
  .by_cases I:b=hb
   .exact q2.ac (by rw[J,I];rfl)
   .exact(q2.off b ⟨u,λe=>E (e ▸ hG),K,I,λe=>L b e hG⟩).2.2.2.2 J⟩ k4
 obtain⟨y1,y2⟩:=b2 a _ wB x1 x2;obtain⟨G5,hk5,b5⟩:=y1.kn;obtain⟨G6,y,b6⟩:=hk5.fr;have k6:Kp G6 wB o:=Kp.grown Z λb O=>⟨y.ol b O,λe=>y.nf (by injection e with e;exact e ▸ O)⟩
 obtain⟨z1,z2⟩:=b6 r.2.2.s o ⟨⟨q2.fm.n0,q2.fm.t,q2.fm.b,fA⟩,y.ol.kp k6,y.nf⟩ k6;obtain⟨u1,u2⟩:=b5 a _ o z1 z2;obtain⟨v1,v2⟩:=b1 _ o ⟨bs,a,u1⟩ (y2.trans u2);obtain⟨s1,s2⟩:=v1.Ww hi {bE rs i with R:=r.2.2.R,pc:=r.2.2.pc} ⟨q2.rg,ok.cl,ok.cr⟩ rfl rfl N X;exact⟨rfl,q2.rg,L2,⟨q2.C4,q2.len,q2.tt⟩,s1,v2.trans s2⟩
end
variable{k k':Kv}{op D N E:Int}
section
theorem S0(k:Kv)(e:Int):(dL k e).p=k.p:=by unfold dL;split <;> rfl
theorem kC.p_{o:Int}(r:kC k o k'):k'.p=k.p:=by
 obtain⟨L,_,rfl⟩:=r;rfl
theorem fX.p_{l:List cM}(r:fX l k k'):k'.p=k.p:=by
 induction r with
 |nil k=>rfl
 |skip h r a=>exact a
 |gI h r1 r a=>exact a.trans r1.p_
theorem lF.p_{e A B C:Int}(r:lF k e op A B C D N E k'):k'.p=k.p:=by
 cases r with
 |alloc _=>
  unfold lH;split
  .rfl
  .split
   .rfl
   .split
    .rfl
    .split <;> rfl
 |free _ r=>
  unfold rH at r;split at r
  .rw[r.2]
  .exact r.2.p_
 |read _=>rfl
 |write _=>
  unfold nZ;split
  .rfl
  .split <;> rfl
 |load _=>
  unfold mP;split
  .rfl
  .split <;> rfl
 |yR _=>rfl
 |hand _ r=>
  unfold gS at r;split at r
  .rw[(aeK r).2]
  .split at r
   .split at r
    .rw[(aeK r).2]
    .rw[r.2]
   .split at r
    .unfold pV at r;split at r
     .rw[r.2]
     .obtain⟨_,L,_,rfl⟩:=r;rfl
    .unfold wC at r;split at r
     .rw[r.2]
     .obtain⟨_,L,_,r⟩:=r;exact r.p_
 |line _=>rfl
 |p7 _ _=>rfl
 |time _ r=>
  unfold mR at r;split at r
  .rw[r.2]
  .split at r
   .rw[r.2]
   .rcases r with r|r <;> rw[r]
 |send _ r=>
  rcases r with r|⟨o,r⟩
  .rw[r]
  .rw[r,S0]
 |next _ _=>rfl
 |null _=>rfl
theorem iN.p_{c e:Int}{x:Int}(r:iN c e i x k N E k'):k'.p=k.p:=by
 unfold iN at r;split at r
 .rw[r.2.2]
 .split at r
  .rcases r with r|r
   .exact r.p_
   .rw[r.2.2]
  .rw[r.2.2]
inductive zE (t:Int->Option (Int×Bool)) (s:dX):dX->Prop
 |refl:zE t s s
 |put {s1:dX} (r:zE t s s1) (p f a v:Int) (h:t p=some (f,true)):zE t s (iW s1 f a v)
theorem zE.trans{t:Int->Option (Int×Bool)}{a b c:dX}(h:zE t a b)(d:zE t b c):zE t a c:=by
 induction d with
 |refl=>exact h
 |put r p f a v hp e=>exact .put e p f a v hp
theorem zE.n_{t:Int->Option (Int×Bool)}{a b:dX}(h:zE t a b):b.n=a.n/\b.T=a.T:=by
 induction h with
 |refl=>exact⟨rfl,rfl⟩
 |put r p f a v hp c=>
  unfold iW;split
  .exact c
  .exact c
open Pa.Cp in
theorem Qd{t:Int->Option (Int×Bool)}{s s':dX}{ad v:Int}(h:Pa.Cp.stM t s ad v= .ok s'):zE t s s':=by
 unfold Pa.Cp.stM JQ at h;cases ht:t (ad /16) with
 |none=>rw[ht] at h;cases h
 |some q=>
  obtain⟨f,b⟩:=q;rw[ht] at h;simp only at h;cases b with
  |false=>simp at h
  |true=>
   simp only[adJ,and_false,aaY] at h;split at h
   .injection h with h;rw[<-h];exact .put .refl (ad /16) f _ _ ht
   .cases h
open Pa.Cp in
theorem Sa{t:Int->Option (Int×Bool)}{i:In}{m:St}{q:St×Tp}(h:kW t i m= .ok q):zE t m.s q.1.s/\(q.2.k=1->∃a,q.2.x=rat q.1.R a):=by
 unfold kW at h;simp only at h;by_cases h0:i.op=0
 .rw[Zz h0] at h;cases h
 rw[aaA h0] at h;by_cases h1:i.op=1
 .rw[Zz h1] at h;injection h with h;subst h;exact⟨.refl,λh=>by simp at h⟩
 rw[aaA h1] at h;by_cases h2:i.op=12
 .rw[Zz h2] at h;split at h
  .cases h
  .injection h with h;subst h;exact⟨.refl,λh=>by simp at h⟩
 rw[aaA h2] at h;by_cases h3:i.op=13
 .rw[Zz h3] at h;split at h
  .cases h
  .rename_i hs;injection h with h;subst h;exact⟨Qd hs,λh=>by simp at h⟩
 rw[aaA h3] at h;by_cases h4:i.op=14
 .rw[Zz h4] at h;injection h with h;subst h;exact⟨.refl,λh=>by simp at h⟩
 rw[aaA h4] at h;by_cases h5:i.op=15
 .rw[Zz h5] at h;injection h with h;subst h;exact⟨.refl,λh=>by simp at h⟩
 rw[aaA h5] at h;by_cases h6:i.op=16
 .rw[Zz h6] at h;injection h with h;subst h;exact⟨.refl,λ_=>⟨i.a,rfl⟩⟩
 rw[aaA h6] at h;by_cases h7:i.op=17
 .rw[Zz h7] at h;injection h with h;subst h;exact⟨.refl,λh=>by simp at h⟩
 rw[aaA h7] at h;by_cases h8:i.op=18
 .rw[Zz h8] at h;split at h
  .cases h
  .injection h with h;subst h;exact⟨.refl,λh=>by simp at h⟩
 rw[aaA h8] at h;split at h
 .cases h
 .injection h with h;subst h;exact⟨.refl,λh=>by simp at h⟩
open Pa.Cp in
theorem X5{t:Int->Option (Int×Bool)}{ad:Int}{b:Bool}{z:Int×Int}(h:JQ t ad b= .error z):z.1≠1:=by
 unfold JQ at h;split at h
 .injection h with h;subst h;show(5:Int)≠1;decide
 .split at h
  .injection h with h;subst h;show(6:Int)≠1;decide
  .cases h
open Pa.Cp in
theorem Ro{t:Int->Option (Int×Bool)}{i:In}{m:St}{z:Int×Int}(h:kW t i m= .error z):z.1≠1:=by
 unfold kW at h;simp only at h;by_cases hc:i.op=0
 .rw[Zz hc] at h;injection h with h;subst h;show(2:Int)≠1;decide
 rw[aaA hc] at h;clear hc;by_cases hc:i.op=1
 .rw[Zz hc] at h;cases h
 rw[aaA hc] at h;clear hc;by_cases hc:i.op=12
 .rw[Zz hc] at h;cases hl:GU t m.s (vA (rat m.R i.b) i.n) with
  |ok v=>rw[hl] at h;cases h
  |error y=>
   rw[hl] at h;injection h with h;subst h;unfold GU at hl;split at hl
   .rename_i hf;injection hl with hl;subst hl;exact X5 hf
   .split at hl
    .cases hl
    .injection hl with hl;subst hl;show(5:Int)≠1;decide
 rw[aaA hc] at h;clear hc;by_cases hc:i.op=13
 .rw[Zz hc] at h;cases hl:Pa.Cp.stM t m.s (vA (rat m.R i.b) i.n) (rat m.R i.a) with
  |ok v=>rw[hl] at h;cases h
  |error y=>
   rw[hl] at h;injection h with h;subst h;unfold Pa.Cp.stM at hl;split at hl
   .rename_i hf;injection hl with hl;subst hl;exact X5 hf
   .split at hl
    .cases hl
    .injection hl with hl;subst hl;show(5:Int)≠1;decide
 rw[aaA hc] at h;clear hc;by_cases hc:i.op=14
 .rw[Zz hc] at h;cases h
 rw[aaA hc] at h;clear hc;by_cases hc:i.op=15
 .rw[Zz hc] at h;cases h
 rw[aaA hc] at h;clear hc;by_cases hc:i.op=16
 .rw[Zz hc] at h;cases h
 rw[aaA hc] at h;clear hc;by_cases hc:i.op=17
 .rw[Zz hc] at h;cases h
 rw[aaA hc] at h;clear hc;by_cases hc:i.op=18
 .rw[Zz hc] at h;split at h
  .injection h with h;subst h;show(3:Int)≠1;decide
  .cases h
 rw[aaA hc] at h;clear hc;split at h
 .injection h with h;subst h;show(4:Int)≠1;decide
 .cases h
open Pa.Cp in
theorem Gb(t:Int->Option (Int×Bool))(C:List Int)(m:St):zE t m.s (mF t C m).2.s/\((mF t C m).1.k=1->∃a,(mF t C m).1.x=rat (mF t C m).2.R a):=by
 unfold mF;split
 .exact⟨.refl,λh=>by simp at h⟩
 .split
  .exact⟨.refl,λh=>by simp at h⟩
  .rename_i i _;split
   .rename_i z hz;refine⟨.refl,λh=>?_⟩;exact absurd h (Ro hz)
   .rename_i q hq;exact Sa hq
open Pa.Cp in
theorem TW(t:Int->Option (Int×Bool))(C:List Int):∀(k n:Nat) (m:St),zE t m.s (mZ t C k n m).2.2.s/\((mZ t C k n m).1.k=1->n+1<=(mZ t C k n m).2.1/\∃a,(mZ t C k n m).1.x=rat (mZ t C k n m).2.2.R a)
 |0,n,m=>⟨.refl,λh=>by simp[mZ] at h⟩
 |k+1,n,m=>by
  have hs:=Gb t C m;unfold mZ;split
  .have:=TW t C k (n+1) (mF t C m).2;exact⟨hs.1.trans this.1,λh=>⟨by have:=(this.2 h).1;omega,(this.2 h).2⟩⟩
  .split
   .exact⟨hs.1,λh=>⟨Zw _,hs.2 h⟩⟩
   .rename_i hne;exact⟨hs.1,λh=>absurd h hne⟩
end
variable{rs oa:List Rm}{j hb m q1:Nat}{R:List Int}{F F3:Nat->Prop}{w wr w6 wE wx:aA}
section
inductive lZ (e:Int) (k:Kv):Kv->Prop
 |refl:lZ e k k
 |run {k1:Kv} (r:lZ e k k1) (L:List En) (s:dX) (hL:qD L/\L.length<=16/\Pa.Cp.nD L=Pa.Cp.nD k1.t) (hs:zE (Pa.Cp.nD k1.t e) k1.f s):lZ e k {k1 with t:=L,f:=s}
 |Bl {k1 k2:Kv} (r:lZ e k k1) (l x N E:Int) (h:iN l e 0 x k1 N E k2):lZ e k k2
 |EE {k1:Kv} (r:lZ e k k1) (b:Bool):lZ e k {k1 with s:=jY k1.s e b}
 |tell {k1:Kv} (r:lZ e k k1):lZ e k (dL k1 e)
theorem lZ.p_{e:Int}(r:lZ e k k'):k'.p=k.p:=by
 induction r with
 |refl=>rfl
 |run r L s d hs a=>exact a
 |Bl r l x N E h a=>rw[h.p_,a]
 |EE r b a=>exact a
 |tell r a=>rw[S0,a]
structure vM(rs rs':List Rm)(i:Nat):Prop where
 l:∀j,(bE rs' j).l=(bE rs j).l
 g:∀j,(bE rs' j).g=(bE rs j).g
 sn:∀j,(bE rs' j).sn=(bE rs j).sn
 C:∀j,(bE rs' j).C=(bE rs j).C
 ru:∀j,j≠i->(bE rs' j).ru=(bE rs j).ru
 cA:(bE rs' i).cA=(bE rs i).cA
 cc:(bE rs' i).cc=(bE rs i).cc
theorem vM.refl(rs:List Rm)(i:Nat):vM rs rs i:=⟨λ_=>rfl,λ_=>rfl,λ_=>rfl,λ_=>rfl,λ_ _=>rfl,rfl,rfl⟩
theorem vM.set(h:vM rs oa i)(hi:i<oa.length)(R:List Int)(p:Int)(b:Bool):vM rs (oa.set i {bE oa i with R:=R,pc:=p,ru:=b}) i:=by
 refine⟨λj=>?_,λj=>?_,λj=>?_,λj=>?_,λj a=>?_,?_,?_⟩;iterate 4
  by_cases e:i=j
  .subst e;rw[iM hi];first|exact h.l i|exact h.g i|exact h.sn i|exact h.C i
  .rw[rI e];first|exact h.l j|exact h.g j|exact h.sn j|exact h.C j
 .rw[rI (acT a)];exact h.ru j a
 .rw[iM hi];exact h.cA
 .rw[iM hi];exact h.cc
theorem S9(r:Rm)(h:r.R.length=8)(a:j<8)(v:Int):fZ {r with R:=r.R.set j v}=(fZ r).set (5+j) (.int .u64 v):=by
 unfold fZ;rw[aaQ _ _ aT,acA _ _ (by simp[h];omega),ab6];simp
theorem FZ(h:Pa.Cp.EY R)(j:Nat){v:Int}(b:0<=v/\v<18446744073709551616):Pa.Cp.EY (R.set j v):=⟨by rw[aaL];exact h.1,λx a=>by
 rcases abC a with a|rfl
 .exact h.2 x a
 .exact b⟩
theorem bV.Wr{c:Int}(h:bV F w hb m g c k rs)(hi:i<8)(x y:Int)(a:0<=x/\x<18446744073709551616)(b:0<=y/\y<18446744073709551616):bV F ((w.setCell (hb,2+i *15+5) (.int .u64 x)).setCell (hb,2+i *15+5+1) (.int .u64 y)) hb m g c k (rs.set i {bE rs i with R:=((bE rs i).R.set 0 x).set 1 y,pc:=(bE rs i).pc,ru:=(bE rs i).ru})/\Kp F w ((w.setCell (hb,2+i *15+5) (.int .u64 x)).setCell (hb,2+i *15+5+1) (.int .u64 y)):=by
 have hl:i<rs.length:=by rw[h.l8];exact hi
 have ok:=h.BF hi;have r1:=FZ ok.rg 0 a;obtain⟨d,a2⟩:=h.WJ hi (j:=5) aQ (.int .u64 x) {bE rs i with R:=(bE rs i).R.set 0 x} (S9 _ ok.rg.1 (j:=0) aQ x) ⟨r1,ok.cl,ok.cr⟩ rfl rfl;have e:bE (rs.set i {bE rs i with R:=(bE rs i).R.set 0 x}) i={bE rs i with R:=(bE rs i).R.set 0 x}:=iM hl _;obtain⟨b1,b2⟩:=d.WJ hi (j:=6) aQ (.int .u64 y) {bE rs i with R:=((bE rs i).R.set 0 x).set 1 y} (by rw[e];exact S9 {bE rs i with R:=(bE rs i).R.set 0 x} r1.1 (j:=1) aQ y) ⟨FZ r1 1 b,ok.cl,ok.cr⟩ (by rw[e];rfl) (by rw[e];rfl);rw[List.set_set] at b1;exact⟨b1,a2.trans b2⟩
def Uh(F:Nat->Prop)(hb m g:Nat)(c:Int)(k:Kv)(rs:List Rm)(i:Nat)(n0:Nat)(w:aA)(e:Ending)(w':aA):Prop:=∃(s x y z:Int) (k':Kv) (rs':List Rm),e= .returned (.tuple #[s, .agg #[x,y, .int .u64 z]])/\lZ i k k'/\KI k' (n0+40)/\vM rs rs' i/\bV F w' hb m g c k' rs'/\Kp F w w'
section
variable{F:Nat->Prop}{w w0 w':aA}{hb m g:Nat}{c:Int}{k:Kv}{rs:List Rm}
theorem oI(W:aA)(p:aJ):W.drew.cell? p=W.cell? p:=rfl
theorem Xz{o:Obj}(h:bV (Nw F3 wr wr.drew) w6 hb m g c k rs/\Kp (Nw F3 wr wr.drew) wr.drew w6):bV (Fb F3 w6) (w6.alloc o) hb m g c k rs/\Kp F3 wr (w6.alloc o)/\wr.heap.size<=w6.heap.size:=by
 have h1:bV F3 w6 hb m g c k rs:=h.1.less λb hb=> .inl hb
 exact⟨(bV.cD hb m g c k rs).box h1 h1.fl o,((Kp.refl F3 wr).drew.trans (h.2.mono λb hb=> .inl hb)).trans (h1.below (aX w6 o)).2,h.2.size⟩
theorem Xj{o:Obj}(fl:Ol F3 wr)(h:bV (Nw F3 wr (wr.alloc o).drew) w6 hb m g c k rs/\Kp (Nw F3 wr (wr.alloc o).drew) (wr.alloc o).drew w6)(a:w6.grownBy wE (some wr.heap.size)):bV (Fb F3 wr) wE hb m g c k rs/\Kp F3 wr wE/\wr.heap.size<=wr.heap.size:=by
 have d:Nw F3 wr (wr.alloc o).drew wr.heap.size:= .inr ⟨Zw _,(show wr.heap.size<(wr.alloc o).heap.size by simp)⟩;have f:(wr.alloc o).heap.size<=w6.heap.size:=h.2.size;have i:wr.heap.size<w6.heap.size:=Zy aT f;refine⟨dN.gr (bV.cD hb m g c k rs) h.1 a (λq hq=>by injection hq with hq;exact hq ▸ d) (λb hb=>?_) (λb _ hb=>?_),((Kp.cB (aX wr o).drew fl).trans (h.2.mono λb hb=> .inl hb)).trans (Kp.grown a λb hb=>⟨by have:=fl b hb;omega,λe=>by injection e with e;have:=fl b hb;omega⟩),Zw _⟩
 .rcases hb with hb|rfl
  .have:=fl b hb;have:=a.size;omega
  .have:=a.size;omega
 .rcases hb with hb|rfl
  .exact .inl hb
  .exact d
theorem UQ(a:∀b,F b->F3 b)(j:F3 q1)(hq:∀b,F b->b≠q1)(kw:Kp F w wr)(h:bV F3 wx hb m g c k rs)(l:Kp F3 wr wx)(i:wx.grownBy wE (some q1)):bV F wE hb m g c k rs/\Kp F w wE:=by
 have f:∀b,F b->b<wx.heap.size:=λb hb=>h.fl b (a b hb)
 exact⟨dN.gr (bV.cD hb m g c k rs) h i (λq d=>by injection d with d;exact d ▸ j) (λb hb=>Zy (f b hb) i.size) (λb _ hb=>a b hb),(kw.trans (l.mono a)).trans (Kp.grown i λb hb=>⟨f b hb,λe=>hq b hb (by injection e)⟩)⟩
theorem VJ(h:bV F w hb m g c k rs)(hI:KI k n0)(hn:n0+40<999999)(hi:i<4)(l:Int)(hl: -100000<=l/\l<=100000):aG prog 47 #[.pointer hb,i,l] w (Uh F hb m g c k rs i n0 w):=by
 have hb1:=aX w (aI #[aU,aU,bC] 77);have bk:=bF.new w 77 #[aU,aU,bC];have hx:bV (Fb F w) (w.alloc (aI #[aU,aU,bC] 77)) hb m g c k rs:=(bV.cD hb m g c k rs).box h h.fl _;have H1:=aP (And.intro hx (h.below hb1).2);have HI:=aP hI;have HQ:aH (∀b,F b->b≠w.heap.size):=λb hb e=>by have:=h.fl b hb;omega
 have c0:(w.alloc (aI #[aU,aU,bC] 77)).cell? (hb,0)=some (.pointer m):=hx.c0;obtain⟨G0,a0,_,d0,_⟩:=hx.kn;obtain⟨t1,t0⟩:=hx.tf;have hp1:=aP (show k.p=(k.p.1,k.p.2) from rfl);generalize k.p.1=gt at *;generalize k.p.2=gf at *;have i0:(0:Int)<=i:=aQ;have i1:(i:Int)<8:=aQ;have i2:i<8:=aQ;clear h hx hI hb1;go_enter func47,ntmps47
 go_upto_region 1 with(fail)
 generalize w.alloc (aI #[aU,aU,bC] 77)=w1 at *;generalize w.heap.size=q1 at *;go_wp2_with(go_at_call 11;(refine aS (mS d0) ?_);rintro x w2 ⟨rfl,rfl⟩)
 go_cut [10] (λs10 wx=>∃q,s10= .pointer (some ⟨q,0,none⟩)/\w1.heap.size<=q/\bF wx q 241 #[i, .pointer gt, .pointer gf]/\aD w1 w1 wx)
 case first=>
  go_region_held3 (λW=>W.cell? (g,1)=some (.pointer gt)/\W.cell? (g,0)=some (.pointer gf)) (first|exact⟨t1,t0⟩|exact⟨bG (aX w1 _).drew t1,bG (aX w1 _).drew t0⟩|exact⟨bG (aX _ _) t1,bG (aX _ _) t0⟩|fail) (fail)
  all_goals
   go_wp2_with fail
   go_meet
   first
    |exact⟨_,rfl,Zw _,bF.new w1 _ _,aX w1 _⟩
    |exact⟨_,rfl,Zw _,(bF.new w1 _ _).drewN 1,(aX w1 _).drew⟩
 case rest=>
 obtain⟨I,rfl,hq10,bp,hbc⟩:=hcut;obtain⟨T,hF3⟩:∃T:Nat->Prop,T=λb=>Fb F q1 b\/b=I:=⟨_,rfl⟩
 have B:aH (bV T wc hb m g c k rs/\Kp F w wc/\(∀b,F b->T b)/\T q1/\T I):=by
  have h1:=dN.grow (bV.cD hb m g c k rs) H1.o.1 H1.o.1.fl hbc;subst hF3;exact⟨h1.less λb hb=>by
   rcases hb with hb|rfl
   .exact .inl hb
   .exact .inr ⟨hq10,bp.lt⟩,H1.o.2.trans ((H1.o.1.below hbc).2.unbox),λb hb=> .inl (.inl hb), .inl (.inr rfl), .inr rfl⟩
 have BP:=aP bp;have BK:aH (bF wc q1 77 #[aU,aU,bC]):=bk.keep hbc;clear hF3 bp bk hbc hq10 H1 c0 d0 t1 t0;go_wp2_with fail
 go_loopw [2,11] (λv2 v11 wr=>∃(j:Nat) (lv:Int) (O:Kv) (d:List Rm),j<=32/\v11= .int .i64 j/\v2= .int .i64 lv/\(-100000<=lv+j/\lv<=100000)/\aH (lZ i k O/\KI O (n0+j)/\vM rs d i/\bV T wr hb m g c O d/\Kp F w wr/\Kp T wc wr)) (λ_ v11 _=>32 - (aL v11).toNat)
 case atStart=>exact⟨0,l,k,rs,aQ,rfl,rfl,aQ, .refl,HI.o,vM.refl rs i,B.o.1,B.o.2.1,Kp.refl _ _⟩
 case round=>
  obtain⟨j,lv,O,d,hj,rfl,rfl,hlv,D⟩:=hrel;by_cases hlt:j<32
  .have h4:=D.o.2.2.2.1;have e4:=h4.Jl (n:=i) i2;have p0:=D.o.2.2.2.2.2.cell (BP.o.cell 0 _ rfl) B.o.2.2.2.2;have p1:=D.o.2.2.2.2.2.cell (BP.o.cell 1 _ rfl) B.o.2.2.2.2;have p2:=D.o.2.2.2.2.2.cell (BP.o.cell 2 _ rfl) B.o.2.2.2.2;simp only[adC,abL,abG] at p0 p1 p2;have hsub:((32 - j:Nat):Int)=32 - (j:Int):=aQ;have HL:aH (∀W,aD wr wr W->aG prog 81 #[.pointer (some ⟨hb,2+i *15+5,none⟩), .slice (bE d i).cA (bE d i).C.length (bE d i).cc, .agg #[i, .pointer gt, .pointer gf], .int .i64 (32 - (j:Int))] W λr w'=>∃(K pp G:Int) (n:Nat) (M:Kv) (y:List Rm),r= .returned (.tuple #[.agg #[K,pp, .int .u64 G],n])/\aH (j+n<=32/\(K=1->1<=n/\0<=G/\G<18446744073709551616))/\aH (lZ i k M/\KI M (n0+j)/\vM rs y i)/\bV (Nw T wr W) w' hb m g c M y/\Kp (Nw T wr W) W w'/\w'.cell? (hb,2+i *15+4)=some (.slice (bE d i).cA (bE d i).C.length (bE d i).cc)/\w'.cell? (I,0)=some (.int .i64 i)/\w'.cell? (I,1)=some (.pointer gt)/\w'.cell? (I,2)=some (.pointer gf)):=λW hW=>by
    have h5:=dN.grow (bV.cD hb m g c O d) h4 h4.fl hW;have hk1:O.p=(gt,gf):=D.o.1.p_.trans hp1.o;have hr:=Dc h5 D.o.2.1 i2 i (32 - j) aQ;rw[hk1,hsub] at hr;refine hr.mono ?_;rintro r w' ⟨rfl,hR,L,hL,h6,J⟩;have hle:=Pa.Cp.T3 (Pa.Cp.nD O.t i) (bE d i).C (32 - j) 0 ⟨(bE d i).R,(bE d i).pc,O.f⟩;have hch:=TW (Pa.Cp.nD O.t i) (bE d i).C (32 - j) 0 ⟨(bE d i).R,(bE d i).pc,O.f⟩;generalize Pa.Cp.mZ (Pa.Cp.nD O.t i) (bE d i).C (32 - j) 0 ⟨(bE d i).R,(bE d i).pc,O.f⟩=z at *;have hl1:i<d.length:=by rw[h4.l8];exact i2
    have hcr:vM rs (E9 d i z.2.2.R z.2.2.pc) i:=by
     have:=D.o.2.2.1.set hl1 z.2.2.R z.2.2.pc (bE d i).ru;exact this
    have e6:=h6.Jl (n:=i) i2;unfold E9 at e6;rw[iM hl1] at e6;have U:=D.o.2.1;refine⟨_,_,_,z.2.1,_,_,rfl,⟨aQ,λhk=>?_⟩,⟨.run D.o.1 L _ hL hch.1,⟨U.sd,U.p4,U.cn,hL.2.1,hL.1,U.bb,U.bu,hch.1.n_.1.trans U.f6,U.an⟩,hcr⟩,h6,J,e6,J.cell (bG hW p0) (.inl B.o.2.2.2.2),J.cell (bG hW p1) (.inl B.o.2.2.2.2),J.cell (bG hW p2) (.inl B.o.2.2.2.2)⟩;obtain⟨q1,a,q2⟩:=hch.2 hk;rw[q2];exact⟨aQ,Pa.Cp.FO hR a⟩
   generalize (bE d i).cA=cA at *;generalize (bE d i).C.length=cl at *;generalize (bE d i).cc=cc at *;have HBA:aH (∀o,aD wr wr (wr.alloc o).drew):=λo=>(aX wr o).drew
   have hgA:hb≠wr.heap.size:=by have:=h4.bk.lt;omega
   have hqA:I≠wr.heap.size:=by have:=World.block_lt_of_cell? wr _ p0;simp only at this;omega
   have j1:(j:Int)<32:=aQ;have HF3:aH (Ol T wr):=h4.fl;have hwr:IntKind.i64.wrap (32 - (j:Int))=32 - (j:Int):=by rw[IntKind.wrap_i64];omega
   clear h4 hsub hlt hj;go_upto_region 6 with(fail)
   go_cut [12,13] from 36 to 112 (λs12 s13 wx=>∃(A:Nat) (K pp G:Int) (n:Nat) (M:Kv) (y:List Rm),s12= .pointer A/\s13= .int .i64 n/\aH (j+n<=32/\(K=1->1<=n/\0<=G/\G<18446744073709551616))/\aH (lZ i k M/\KI M (n0+j)/\vM rs y i)/\aH (bF wx A 77 #[K,pp, .int .u64 G])/\aH (bV (Fb T A) wx hb m g c M y/\Kp T wr wx/\wr.heap.size<=A))
   case first=>
    go_region_held3 (λW=>W.cell? (hb,2+i *15+4)=some (.slice cA cl cc)/\W.cell? (I,0)=some (.int .i64 i)/\W.cell? (I,1)=some (.pointer gt)/\W.cell? (I,2)=some (.pointer gf)) (first|with_reducible exact⟨‹_›,‹_›,‹_›,‹_›⟩|exact⟨by simp only[dJ hgA,dJ hgB];with_reducible assumption,by simp only[dJ hqA,dJ hqB];with_reducible assumption,by simp only[dJ hqA,dJ hqB];with_reducible assumption,by simp only[dJ hqA,dJ hqB];with_reducible assumption⟩|exact⟨bG (aX wr _).drew e4,bG (aX wr _).drew p0,bG (aX wr _).drew p1,bG (aX wr _).drew p2⟩|exact⟨bG (aX _ _) e4,bG (aX _ _) p0,bG (aX _ _) p1,bG (aX _ _) p2⟩|exact⟨bG (aX _ _) ‹_›,bG (aX _ _) ‹_›,bG (aX _ _) ‹_›,bG (aX _ _) ‹_›⟩|exact⟨e4,p0,p1,p2⟩|fail) ((go_at_call 81;first|((refine aS (HL.o _ (Below.refl _ _).drew) ?_);rintro r P ⟨K,pp,G,n,M,y,rfl,HK,u,h6,J,e6,z0,z1,z2⟩;(have hgB:hb≠P.heap.size:=by have:=h6.bk.lt;omega);(have hqB:I≠P.heap.size:=by have:=World.block_lt_of_cell? P _ z0;simp only at this;omega);(have HM6:=bN h6 J);clear h6 J)|((refine aS (HL.o _ (HBA.o _)) ?_);rintro r P ⟨K,pp,G,n,M,y,rfl,HK,u,h6,J,e6,z0,z1,z2⟩;(have zb:bF P wr.heap.size 77 #[aU,aU,bC]:=J.aY (bF.new wr 77 #[aU,aU,bC]) (.inr ⟨Zw _,(show wr.heap.size<(wr.alloc (aI #[aU,aU,bC] 77)).heap.size by simp)⟩));(have ZB:=aP zb);(have Q:=zb.cell 0 _ rfl);(have Z:=zb.cell 1 _ rfl);(have S:=zb.cell 2 _ rfl);(have f0:=zb.frozen 0);(have f1:=zb.frozen 1);(have f2:=zb.frozen 2);(have HM6:=bN h6 J);(have hgB:=hgA);(have hqB:=hqA);clear zb h6 J)|fail))
    all_goals
     go_wp2_with fail
     go_meet
     first
      |exact⟨_,K,pp,G,n,M,y,rfl,rfl,HK,u,bF.new P _ _,Xz HM6.o⟩
      |exact⟨_,K,pp,G,n,M,y,rfl,rfl,HK,u,((ZB.o.bX 0 _).bX 1 _).bX 2 _,Xj HF3.o HM6.o (aZ (aZ (aZ (bK _ _) 0 _) 1 _) 2 _)⟩
   case rest=>
   obtain⟨A,K,pp,G,n,M,y,rfl,rfl,HK,u,ZT,HX⟩:=hcut;have a1:aH (bV T _ hb m g c M y):=HX.o.1.less λb hb=> .inl hb
   have V:=HX.o.2.1.aY (D.o.2.2.2.2.2.aY BK.o B.o.2.2.2.1) B.o.2.2.2.1;have Q:=ZT.o.cell 0 _ rfl;have Z:=ZT.o.cell 1 _ rfl;have S:=ZT.o.cell 2 _ rfl;have b0:=V.cell 0 _ rfl;have b1:=V.cell 1 _ rfl;have b2:=V.cell 2 _ rfl;have f0:=V.frozen 0;have f1:=V.frozen 1;have f2:=V.frozen 2;have n0':(0:Int)<=n:=aQ;have hjn:=HK.o.1;have n1':(j:Int)+(n:Int)<=32:=aQ;clear hjn e4 p0 p1 p2 HL HBA hgA hqA HF3 hwr;simp only[adC,abL,abG] at Q Z S b0 b1 b2;by_cases e0:K=0
   .subst e0;go_wp2_with fail
    exact bodyPost_ret (v:= .tuple #[.int .i64 ((j:Int)+n), .agg #[aU,aU,bC]]) (by simp[results,results47,go_sem, *]) rfl ⟨_,0,0,0,M,y,rfl,u.o.1,u.o.2.1.mono aQ,u.o.2.2,UQ B.o.2.2.1 B.o.2.2.2.1 HQ.o D.o.2.2.2.2.1 a1.o HX.o.2.1 (aZ (aZ (aZ (bK _ _) 0 _) 1 _) 2 _)⟩
   .have hl2:i<y.length:=by rw[a1.o.l8];exact i2
    by_cases e2:K=2
    .subst e2;have g14:=a1.o.VI (n:=i) i2;have fz14:=a1.o.fz (2+i *15+14);have HS:=aP (HX.o.1.WH (i:=i) i2 false);have X:A≠q1:=by have:=(D.o.2.2.2.2.2.aY BK.o B.o.2.2.2.1).lt;have:=HX.o.2.2;omega
     obtain⟨G4,gs,hs,d0,d6,back⟩:=HS.o.1.sd;have HRd:=aP (wP hs u.o.2.1.p8 i false);have HB:=aP (λs' w' h k=>(back s' w' h k).1);go_upto_region 20 with(fail)
     generalize wc.setCell (hb,2+i *15+14) (.bool false)=w5 at *;clear Q Z S b0 b1 b2 f0 f1 f2 g14 fz14 hs back;go_wp2_with fail
     refine aR HRd ?_;rintro r P ⟨rfl,hs6,J⟩;have Y:=aP (HB.o _ _ hs6 J);have K6:=aP (HS.o.2.trans Y.o.2);have zt:=K6.o.aY ZT.o (.inr rfl);have bq:=K6.o.aY V (.inl B.o.2.2.2.1);have Q:=zt.cell 0 _ rfl;have Z:=zt.cell 1 _ rfl;have S:=zt.cell 2 _ rfl;have b0:=bq.cell 0 _ rfl;have b1:=bq.cell 1 _ rfl;have b2:=bq.cell 2 _ rfl;have f0:=bq.frozen 0;have f1:=bq.frozen 1;have f2:=bq.frozen 2;simp only[adC,abL,abG] at Q Z S b0 b1 b2;clear hs6 J HRd HB d0 d6;go_upto_region 21 with(fail)
     go_region_held3 (λW=>W.cell? (A,0)=some (.int .i64 2)/\W.cell? (A,1)=some (.int .i64 pp)/\W.cell? (A,2)=some (.int .u64 G)) (first|exact⟨Q,Z,S⟩|exact⟨by simp only[oI,dJ X];exact Q,by simp only[oI,dJ X];exact Z,by simp only[oI,dJ X];exact S⟩|exact⟨‹_›,‹_›,‹_›⟩|fail) (fail)
     all_goals go_wp2_with fail
     have H:=aZ (aZ (aZ (bK P q1) 0 (.int .i64 2)) 1 (.int .i64 pp)) 2 (.int .u64 G);have HE:=aP (UQ B.o.2.2.1 B.o.2.2.2.1 HQ.o D.o.2.2.2.2.1 (Y.o.1.less λb hb=> .inl hb) (HX.o.2.1.trans (K6.o.mono λb hb=> .inl hb)) (wE:=(((P.setCell (⟨q1,0,none⟩) (.int .i64 2)).setCell (⟨q1,1,none⟩) (.int .i64 pp)).setCell (⟨q1,2,none⟩) (.int .u64 G)).drew) ⟨H.os,H.tape,H.output,H.size,H.block⟩);have HKI:aH (KI {M with s:=jY M.s i false} (n0+40)):=(u.o.2.1.mono aQ).DW (vI u.o.2.1.sd u.o.2.1.p4 i false).1 (vI u.o.2.1.sd u.o.2.1.p4 i false).2;exact bodyPost_ret (v:= .tuple #[.int .i64 ((j:Int)+n), .agg #[.int .i64 2,pp, .int .u64 G]]) (by simp[results,results47,go_sem,oI, *]) rfl ⟨_,_,_,_,_,_,rfl, .EE u.o.1 false,HKI.o,u.o.2.2.set hl2 (bE y i).R (bE y i).pc false,HE.o⟩
    .by_cases e1:K=1
     .subst e1;obtain⟨hn1,hx0,hx1⟩:=HK.o.2 rfl;have HAs:=aP (Dv HX.o.1 u.o.2.1 aQ (i:Int) G lv ⟨hx0,hx1⟩);clear hx0 hx1 b0 b1 b2 f0 f1 f2;go_wp2_with fail
      refine aR HAs ?_;rintro r P ⟨N,E,k3,hW,hN,rfl,h6,J⟩;have Y:=bN h6 J;clear h6 J HAs Q Z S;go_upto_region 16 with(fail)
      have g0:∃v,P.cell? (hb,2+i *15+5)=some v:=⟨_,Y.o.1.Q9 (n:=i) i2 (j:=5) aQ (Zv (by rw[pR (Y.o.1.BF i2)];omega))⟩
      have g1:∃v,P.cell? (hb,2+i *15+5+1)=some v:=⟨_,Y.o.1.Q9 (n:=i) i2 (j:=6) aQ (Zv (by rw[pR (Y.o.1.BF i2)];omega))⟩
      obtain⟨v0,g0⟩:=g0;obtain⟨v1,g1⟩:=g1;have z0:=Y.o.1.fz (2+i *15+5);have z1:=Y.o.1.fz (2+i *15+5+1);go_region_held3 (λ_=>True) (exact trivial) (fail)
      have HG:=aP (Y.o.1.Wr (i:=i) i2 N (IntKind.u64.wrap E) hN ⟨by rw[IntKind.wrap_u64];omega,by rw[IntKind.wrap_u64];omega⟩);have hlw:IntKind.i64.wrap (lv - 1)=lv - 1:=by rw[IntKind.wrap_i64];omega
      generalize (P.setCell (hb,2+i *15+5) (.int .u64 N)).setCell (hb,2+i *15+5+1) (.int .u64 (IntKind.u64.wrap E))=w7 at *;clear g0 g1 z0 z1;go_wp2_with fail
      have hd:=HG.o.1.below (Below.refl w7 w7).drew;have O:Kp T wr w7.drew:=HX.o.2.1.trans (((Y.o.2.trans HG.o.2).trans hd.2).mono λb hb=> .inl hb);refine⟨⟨j+n,lv - 1,k3,_,aQ,rfl,rfl,aQ, .Bl u.o.1 lv G N E hW,(hW.ki u.o.2.1).mono aQ,u.o.2.2.set hl2 _ (bE y i).pc (bE y i).ru,hd.1.less λb hb=> .inl hb,D.o.2.2.2.2.1.trans (O.mono B.o.2.2.1),D.o.2.2.2.2.2.trans O⟩,by simp only[aL];omega⟩
     .have e0':¬K=0:=e0;have g14:=a1.o.VI (n:=i) i2;have fz14:=a1.o.fz (2+i *15+14);have HS:=aP (HX.o.1.WH (i:=i) i2 false);have X:A≠q1:=by have:=(D.o.2.2.2.2.2.aY BK.o B.o.2.2.2.1).lt;have:=HX.o.2.2;omega
      obtain⟨G4,a4,hk4,d0,back⟩:=HS.o.1.kn;have HRd:=aP (tO hk4 u.o.2.1.p8 i 8 K G aQ);have HB:=aP (λk' w' h k=>back k' w' h k);go_upto_region 10 with(fail)
      generalize wc.setCell (hb,2+i *15+14) (.bool false)=w5 at *;clear Q Z S b0 b1 b2 f0 f1 f2 g14 fz14 hk4 back;have zt5:=HS.o.2.aY ZT.o (.inr rfl);have Q:=zt5.cell 0 _ rfl;have S:=zt5.cell 2 _ rfl;simp only[adC,abL,abG] at Q S;go_wp2_with fail
      refine aR HRd ?_;rintro r P ⟨vv,rfl,hs6,J⟩;have Y:=aP (HB.o _ _ ⟨_,hs6⟩ J);have K6:=aP (HS.o.2.trans Y.o.2);clear Q S zt5;have zt:=K6.o.aY ZT.o (.inr rfl);have bq:=K6.o.aY V (.inl B.o.2.2.2.1);have Q:=zt.cell 0 _ rfl;have Z:=zt.cell 1 _ rfl;have S:=zt.cell 2 _ rfl;have b0:=bq.cell 0 _ rfl;have b1:=bq.cell 1 _ rfl;have b2:=bq.cell 2 _ rfl;have f0:=bq.frozen 0;have f1:=bq.frozen 1;have f2:=bq.frozen 2;simp only[adC,abL,abG] at Q Z S b0 b1 b2;clear hs6 J HRd HB d0;go_upto_region 11 with(fail)
      go_region_held3 (λW=>W.cell? (A,0)=some (.int .i64 K)/\W.cell? (A,1)=some (.int .i64 pp)/\W.cell? (A,2)=some (.int .u64 G)) (first|exact⟨Q,Z,S⟩|exact⟨by simp only[oI,dJ X];exact Q,by simp only[oI,dJ X];exact Z,by simp only[oI,dJ X];exact S⟩|exact⟨‹_›,‹_›,‹_›⟩|fail) (fail)
      all_goals go_wp2_with fail
      have H:=aZ (aZ (aZ (bK P q1) 0 (.int .i64 K)) 1 (.int .i64 pp)) 2 (.int .u64 G);have HE:=aP (UQ B.o.2.2.1 B.o.2.2.2.1 HQ.o D.o.2.2.2.2.1 (Y.o.1.less λb hb=> .inl hb) (HX.o.2.1.trans (K6.o.mono λb hb=> .inl hb)) (wE:=(((P.setCell (⟨q1,0,none⟩) (.int .i64 K)).setCell (⟨q1,1,none⟩) (.int .i64 pp)).setCell (⟨q1,2,none⟩) (.int .u64 G)).drew) ⟨H.os,H.tape,H.output,H.size,H.block⟩);have HKI:aH (KI (dL M i) (n0+40)):=(u.o.2.1.mono aQ).tell i;exact bodyPost_ret (v:= .tuple #[.int .i64 ((j:Int)+n), .agg #[K,pp, .int .u64 G]]) (by simp[results,results47,go_sem,oI, *]) rfl ⟨_,_,_,_,_,_,rfl, .tell u.o.1,HKI.o,u.o.2.2.set hl2 (bE y i).R (bE y i).pc false,HE.o⟩
  .obtain rfl:j=32:=aQ;have V:=D.o.2.2.2.2.2.aY BK.o B.o.2.2.2.1;have b0:=V.cell 0 _ rfl;have b1:=V.cell 1 _ rfl;have b2:=V.cell 2 _ rfl;have f0:=V.frozen 0;have f1:=V.frozen 1;have f2:=V.frozen 2;simp only[adC,abL,abG] at b0 b1 b2;go_wp2_with fail
   exact bodyPost_ret (v:= .tuple #[.int .i64 32, .agg #[aU,aU,bC]]) (by simp[results,results47,go_sem, *]) rfl ⟨_,0,0,0,O,d,rfl,D.o.1,D.o.2.1.mono aQ,D.o.2.2.1,UQ B.o.2.2.1 B.o.2.2.2.1 HQ.o D.o.2.2.2.2.1 D.o.2.2.2.1 (Kp.refl _ _) (aZ (aZ (aZ (bK _ _) 0 _) 1 _) 2 _)⟩
end
end
end
end Go.Proofs.YtacgiflhgdaeaaaGreat
