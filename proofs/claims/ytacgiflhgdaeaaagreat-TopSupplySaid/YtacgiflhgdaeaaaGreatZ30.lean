/- Texts laid as one. -/
import Derived.Test.YtacgiflhgdaeaaaGreatZ1
import Derived.Test.YtacgiflhgdaeaaaGreatZ29
set_option linter.unusedVariables false
set_option linter.unusedSimpArgs false
set_option maxRecDepth 100000
set_option maxHeartbeats 20000000
namespace Go.Proofs.YtacgiflhgdaeaaaGreat
open Go.Proofs.Tryz
open Go renaming World->aA,Value->aC,Addr->aJ,TypeId->aN,Calls->aG
open Go.RowKit renaming Below->aD,Hid->aH,intOf->aL
open Go.Obj renaming cells->aI
section
open Go.RowKit Go.Lib Go.Shelf dH Fr Up Nt
variable{P:Program}{fn:Func}{g c9 n nR cR nX cX:Nat}{w w':aA}{A9 AR AW AX AQ:Option aJ}{ws qs:List (Int×Int×Int)}
section
theorem Yq:jM prog 82 172 3 24:=gA (z:= .agg #[aU,aU,aU]) underlying82 aV (by simp[Value.cells]) aQ
theorem Xk:jM prog 85 126 3 24:=gA (z:= .agg #[aU,aU,aU]) underlying85 aV (by simp[Value.cells]) aQ
theorem OY{a:Tmp}{ty:aN}(h:fn.results=#[.cell a ty])(tmps:Array aC)(w:aA)(g:Nat)(M:List aC)(d:TypeDesc)(b:tmps.getD a undef= .pointer g)(hc:w.rangeAt g 0 M)(hu:P.underlying ty=some d)(hd:d.isRow=true)(hi:(P.info? ty).map (·.size)=some M.length):
 (results fn tmps).run P w= .ok (.agg M.toArray) w:=by
 have:=run_loadVar_mid (P:=P) w g 0 ty M d hc hu hd hi;rw[aeL] at b;simp[results,h,b,asAddr,this]
def X0(x:Int×Int×Int)(N:Nat)(v:aC)(w:aA):Prop:=∃G,v= .slice (some ⟨G,0,none⟩) 1 1/\N<=G/\Sl kR 3 w (some ⟨G,0,none⟩) [x]
theorem X0.keep{x:Int×Int×Int}{v:aC}(h:X0 x g v w)(a:bV w w'):X0 x g v w':=by obtain⟨G,h1,b,c⟩:=h;exact⟨G,h1,b,c.keep a⟩
structure DU(w wr:aA)(q:Nat)(AR:Option aJ)(nR cR:Nat)(AW:Option aJ)(nW cW:Nat)(AX:Option aJ)(nX cX:Nat)(AQ:Option aJ)(nQ cQ:Nat)(W:uL)(ws:List (Int×Int×Int))(Q:uL)(qs:List (Int×Int×Int)):Prop where
 b0:bC wr q 42 #[(AR,nR,cR),(AW,nW,cW),(AX,nX,cX),(AQ,nQ,cQ)]
 b1:bC wr (q+1) 87 #[bA,bA,bA,bA]
 b2:bC wr (q+1+1) 87 #[(AR,nR,cR),(W.A,W.n,W.c),(AX,nX,cX),(Q.A,Q.n,Q.c)]
 oW:bB kR 3 wr (q+1+1+1) 172 W.A W.c ws
 oQ:bB kR 3 wr (q+1+1+1) 126 Q.A Q.c qs
 nW:W.n=ws.length
 nQ:Q.n=qs.length
 ap:∀b,aZ W.A=some b->aZ Q.A≠some b
 bl:aD q w wr
 sz:q+1+1+1<=wr.heap.size
section
variable{w wr w9:aA}{q nR cR nW cW nX cX nQ cQ:Nat}{AR AW AX AQ:Option aJ}{W Q:uL}{ws qs:List (Int×Int×Int)}
theorem DU.below(h:DU w wr q AR nR cR AW nW cW AX nX cX AQ nQ cQ W ws Q qs)(a:aD wr wr w9):DU w w9 q AR nR cR AW nW cW AX nX cX AQ nQ cQ W ws Q qs:=
 ⟨h.b0.keep a,h.b1.keep a,h.b2.keep a,h.oW.keep a,h.oQ.keep a,h.nW,h.nQ,h.ap,h.bl.trans (a.mono (by have:=h.sz;omega)),aaR h.sz a.size⟩
theorem DU.Yi(h:DU w wr q AR nR cR AW nW cW AX nX cX AQ nQ cQ W ws Q qs){x:Int×Int×Int}(d:bB kR 3 w9 (q+1+1+1) 172 A9 c9 (ws++ [x]))(f:wr.grownBy w9 (aZ W.A))(g:aZ A9=aZ W.A\/aZ A9=some wr.heap.size)(m:n=(ws++ [x]).length):(∃v,w9.cell? (q+1+1,1)=some v)/\w9.frozen? (q+1+1,1)=false/\DU w (w9.setCell (q+1+1,1) (.slice A9 n c9)) q AR nR cR AW nW cW AX nX cX AQ nQ cQ ⟨A9,n,c9⟩ (ws++ [x]) Q qs:=by
 have l:∀b,aZ W.A=some b->q+1+1+1<=b:=λb a=>(h.oW.lt b a).1
 have hk:∀b,b<q+1+1+1->w9.heap[b]?=wr.heap[b]?:=λb a=>f.block b (aaJ a h.sz) (λe=>by have:=l b e.symm;omega)
 have b2:bC w9 (q+1+1) 87 _:=(hk _ aQ).trans h.b2;have gs:w9.grownBy (w9.setCell (q+1+1,1) (.slice A9 n c9)) (some (q+1+1)):=aY (bE _ _) 1 _;have j:∀b,aZ A9=some b->q+1+1+1<=b:=λb a=>(d.lt b a).1
 have i:bB kR 3 w9 (q+1+1+1) 126 Q.A Q.c qs:=h.oQ.kept f (by
  cases o:aZ Q.A with
  |none=>exact .inl rfl
  |some r=>exact .inr (λe=>h.ap r e.symm (by rw[o])))
 refine⟨⟨_,b2.cell 1 _ rfl⟩,b2.frozen 1,(gs.block q (by have:=h.sz;have:=f.size;omega) (λe=>by injection e with e;omega)).trans ((hk _ aQ).trans h.b0),(gs.block (q+1) (by have:=h.sz;have:=f.size;omega) (λe=>by injection e with e;omega)).trans ((hk _ aQ).trans h.b1),b2.bQ 1 _,d.kept gs (.inr λe=>by have:=j _ e;omega),i.kept gs (.inr λe=>by have:=(i.lt _ e).1;omega),m,h.nQ,λb a e=>?_,(h.bl.grown f (by have:=h.sz;omega) (λk hk=>by have:=l k hk;omega)).grown gs (by have:=h.sz;have:=f.size;omega) (λk hk=>by injection hk with hk;omega),aaR h.sz (aaR f.size gs.size)⟩;rcases g with g|g
 .exact h.ap b (g.symm.trans a) e
 .rw[g] at a;injection a with a;have:=(h.oQ.lt b e).2;omega
theorem DU.Xn(h:DU w wr q AR nR cR AW nW cW AX nX cX AQ nQ cQ W ws Q qs){x:Int×Int×Int}(a:bB kR 3 w9 (q+1+1+1) 126 A9 c9 (qs++ [x]))(f:wr.grownBy w9 (aZ Q.A))(g:aZ A9=aZ Q.A\/aZ A9=some wr.heap.size)(m:n=(qs++ [x]).length):(∃v,w9.cell? (q+1+1,3)=some v)/\w9.frozen? (q+1+1,3)=false/\DU w (w9.setCell (q+1+1,3) (.slice A9 n c9)) q AR nR cR AW nW cW AX nX cX AQ nQ cQ W ws ⟨A9,n,c9⟩ (qs++ [x]):=by
 have l:∀b,aZ Q.A=some b->q+1+1+1<=b:=λb d=>(h.oQ.lt b d).1
 have hk:∀b,b<q+1+1+1->w9.heap[b]?=wr.heap[b]?:=λb d=>f.block b (aaJ d h.sz) (λe=>by have:=l b e.symm;omega)
 have b2:bC w9 (q+1+1) 87 _:=(hk _ aQ).trans h.b2;have gs:w9.grownBy (w9.setCell (q+1+1,3) (.slice A9 n c9)) (some (q+1+1)):=aY (bE _ _) 3 _;have j:∀b,aZ A9=some b->q+1+1+1<=b:=λb d=>(a.lt b d).1
 have i:bB kR 3 w9 (q+1+1+1) 172 W.A W.c ws:=h.oW.kept f (by
  cases o:aZ W.A with
  |none=>exact .inl rfl
  |some r=>exact .inr (λe=>h.ap r o e.symm))
 refine⟨⟨_,b2.cell 3 _ rfl⟩,b2.frozen 3,(gs.block q (by have:=h.sz;have:=f.size;omega) (λe=>by injection e with e;omega)).trans ((hk _ aQ).trans h.b0),(gs.block (q+1) (by have:=h.sz;have:=f.size;omega) (λe=>by injection e with e;omega)).trans ((hk _ aQ).trans h.b1),b2.bQ 3 _,i.kept gs (.inr λe=>by have:=(i.lt _ e).1;omega),a.kept gs (.inr λe=>by have:=j _ e;omega),h.nW,m,λb d e=>?_,(h.bl.grown f (by have:=h.sz;omega) (λk hk=>by have:=l k hk;omega)).grown gs (by have:=h.sz;have:=f.size;omega) (λk hk=>by injection hk with hk;omega),aaR h.sz (aaR f.size gs.size)⟩;rcases g with g|g
 .exact h.ap b d (g.symm.trans e)
 .have e:aZ A9=some b:=e;rw[g] at e;injection e with e;have:=(h.oW.lt b d).2;omega
end
theorem No(cW cQ:Nat)(w:aA)(P:Sl kR 3 w AW ws)(hQ:Sl kR 3 w AQ qs)(lW:ws.length<=1000)(lQ:qs.length<=1000):
 aG prog 17 #[.agg #[(AR,nR,cR),(AW,ws.length,cW),(AX,nX,cX),(AQ,qs.length,cQ)]] w λr w'=>∃W Q:uL,r= .returned (.agg #[(AR,nR,cR), .slice W.A W.n W.c,(AX,nX,cX), .slice Q.A Q.n Q.c])/\bB kR 3 w' w.heap.size 172 W.A W.c ws/\bB kR 3 w' w.heap.size 126 Q.A Q.c qs/\W.n=ws.length/\Q.n=qs.length/\aD w w w':=by
 have h0:aH (DU w (((w.alloc (aI #[(AR,nR,cR),(AW,ws.length,cW),(AX,nX,cX),(AQ,qs.length,cQ)] 42)).alloc (aI #[bA,bA,bA,bA] 87)).alloc (aI #[(AR,nR,cR),bA,(AX,nX,cX),bA] 87)) w AR nR cR AW ws.length cW AX nX cX AQ qs.length cQ nU [] nU []):=
  ⟨((bC.new w _ _).alloc _).alloc _,(bC.gK _ _ _ aT).alloc _,bC.gK _ _ _ aT,bB.nil _ _ _,bB.nil _ _ _,rfl,rfl,λb hb=>absurd (show(none:Option Nat)=some b from hb) aT,((aX w _).alloc aT _).alloc (by simp only[World.size_alloc];omega) _,aT⟩
 have HS:=bH P hQ;clear P hQ;go_enter func17,ntmps17
 go_upto_region 2 with(fail)
 generalize (((w.alloc (aI #[(AR,nR,cR),(AW,ws.length,cW),(AX,nX,cX),(AQ,qs.length,cQ)] 42)).alloc (aI #[bA,bA,bA,bA] 87)).alloc (aI #[(AR,nR,cR),bA,(AX,nX,cX),bA] 87))=w3 at *;generalize hq:w.heap.size=q at *;have HQ:=aP hq;have S:aH (∀W,aD q w W->Sl kR 3 W AW ws/\Sl kR 3 W AQ qs):=λW P=>by
  rw[<-HQ.o] at P;exact⟨HS.o.1.keep P,HS.o.2.keep P⟩
 clear hq;go_wp2_with fail
 go_loopw [4] (λv4 wr=>∃i:Nat,v4= .int .i64 i/\i<=ws.length/\aH (∃A c,DU w wr q AR nR cR AW ws.length cW AX nX cX AQ qs.length cQ ⟨A,i,c⟩ (ws.take i) nU [])) (λv4 _=>ws.length - (aL v4).toNat)
 case atStart=>exact⟨0,rfl,aaQ _,none,0,h0.o⟩
 case round=>
  clear h0;obtain⟨i,rfl,hi,E⟩:=hrel;obtain⟨A,c,a⟩:=E.o;have E:=aP a;have b1:=a.b0.cell 1 (.slice AW ws.length cW) rfl;by_cases u:i<ws.length
  .obtain⟨b,off,rfl,g,j,l⟩:=(S.o wr a.bl).1.GU u;have j0:(0:Int)<=i:=aQ;have Z:(i:Int)<(ws.length:Int):=aQ;have HT:aH (ws.take (i+1)=ws.take i++ [ws[i]]):=(abS u).symm;generalize ws[i]=x at *;obtain⟨p,s,t⟩:=x;simp only at g j l;have hX:=a.below (aX wr (aI #[p,s,t] 171));have Y:=bC.new wr 171 #[p,s,t];have y0:=Y.cell 0 p rfl;have y1:=Y.cell 1 s rfl;have y2:=Y.cell 2 t rfl;have d1:=hX.b2.cell 1 (.slice A i c) rfl;have N:=aP hX;have y:aH ((ws.take i).length=i):=by unfold aH;rw[aa9];omega
   clear a hX Y;go_upto_region 6 with(fail)
   clear b1 g j l;generalize wr.alloc (aI #[p,s,t] 171)=wx at *;go_wp2_with(refine bN _ rfl (.tmp 31) (.tmp 39) rfl Yq uW (base:=q+1+1+1) (xs:=ws.take i) (N.o.oW.alloc _) (n:=i) y.o rfl (m:=1) rfl (ys:= [(p,s,t)]) rfl (Sl.gK uW wx (p,s,t) _ rfl _ aT) dT aQ (aaR N.o.sz aT) _ rfl (i+1) rfl ?_;intro A9 c9 w9 f F H;(obtain⟨T,f9,I⟩:=(N.o.below (aX wx (aI #[p,s,t] 172))).Yi f F H (n:=i+1) (by rw[aaT,y.o];rfl));obtain⟨b9v,T⟩:=T)
   exact⟨⟨i+1,rfl,aQ,A9,c9,by rw[HT.o];exact I⟩,by simp only[aL];omega⟩
  .obtain rfl:i=ws.length:=aQ;have J:ws.take ws.length=ws:=acJ;rw[J] at a;have U:=aP a;clear a E J;have Z:¬(ws.length:Int)<(ws.length:Int):=aQ;go_wp2_with fail
   go_loopw [6] (λv6 wr=>∃i:Nat,v6= .int .i64 i/\i<=qs.length/\aH (∃B d,DU w wr q AR nR cR AW ws.length cW AX nX cX AQ qs.length cQ ⟨A,ws.length,c⟩ ws ⟨B,i,d⟩ (qs.take i))) (λv6 _=>qs.length - (aL v6).toNat)
   case atStart=>exact⟨0,rfl,aaQ _,none,0,U.o⟩
   case round=>
    clear U b1;obtain⟨i,rfl,hi,E⟩:=hrel;obtain⟨B,d,a⟩:=E.o;have E:=aP a;have b3:=a.b0.cell 3 (.slice AQ qs.length cQ) rfl;by_cases u:i<qs.length
    .obtain⟨b,off,rfl,g,j,l⟩:=(S.o wr a.bl).2.GU u;have j0:(0:Int)<=i:=aQ;have Z:(i:Int)<(qs.length:Int):=aQ;have HT:aH (qs.take (i+1)=qs.take i++ [qs[i]]):=(abS u).symm;generalize qs[i]=x at *;obtain⟨p,s,t⟩:=x;simp only at g j l;have d3:=a.b2.cell 3 (.slice B i d) rfl;have HY:aH (∀(W:aA),Sl kR 3 (W.alloc (aI #[p,s,t] 126)) (some ⟨W.heap.size,0,none⟩) [(p,s,t)]):=λW=>Sl.gK uW W (p,s,t) _ rfl _ rfl
     have y:aH ((qs.take i).length=i):=by unfold aH;rw[aa9];omega
     clear a;go_upto_region 10 with(fail)
     have K:=bF b3;have z:=bF g;have C:=bF j;have D:=bF l;have L:=bF d3;refine bS (bV _) (λ_=>bV) [71] (λ_ v w=>X0 (p,s,t) wr.heap.size v w) [22,24] [[22,21,20,7,6,5,3], [22,21,20,7], [22,21,20,13,12,11,9], [22,21,20,13], [22,21,20,19,18,17,15], [22,21,20,19]] 75 (cM _) (λ_ _ _ h hz=>bZ h hz) (λ_ d hd _ v w w' _ h hz=>h.keep hz) aV aV bK ?_;repeat (first|(refine fQ ?_)|(refine JT 71 [] bK bK bK bK (λγ w hC J=>?_) ?_;(simp only[dG];go_simp;exact DD (aX w _) ⟨_,rfl,Below.size hC,HY.o w⟩);(try refine dB ?_)))
     refine eL ?_;intro γ w5 V J;clear K z C D L;simp only[dG,Act.put,aaI,aaP,aaN];refine eT ?_;obtain⟨G,hv,hG,X⟩:=J 71 aT;rw[hv];have N:=aP (E.o.below V);have HG:=aP X;clear b3 g j l d3 V J E hv X hG HY;refine bN w5 rfl (.tmp 51) (.tmp 71) rfl Xk uW (base:=q+1+1+1) (xs:=qs.take i) N.o.oQ (n:=i) y.o rfl (m:=1) rfl (ys:= [(p,s,t)]) rfl HG.o dT aQ N.o.sz _ rfl (i+1) rfl ?_;intro A9 c9 w9 f F H;obtain⟨T,f9,I⟩:=N.o.Xn f F H (n:=i+1) (by rw[aaT,y.o];rfl);obtain⟨b9v,T⟩:=T;have HO:=aP I;clear I f F H;go_wp2_with fail
     simp only[iE];go_wp2_with fail
     exact⟨⟨i+1,rfl,aQ,A9,c9,by rw[HT.o];exact HO.o⟩,by simp only[aL];omega⟩
    .obtain rfl:i=qs.length:=aQ;have J:qs.take qs.length=qs:=acJ;rw[J] at a;have R:=aP a;have hrg:=aP a.b2.range;have g0:=a.b1.cell 0 (.slice none 0 0) rfl;have g1:=a.b1.cell 1 (.slice none 0 0) rfl;have g2:=a.b1.cell 2 (.slice none 0 0) rfl;have g3:=a.b1.cell 3 (.slice none 0 0) rfl;have f0:=a.b1.frozen 0;have f1:=a.b1.frozen 1;have f2:=a.b1.frozen 2;have f3:=a.b1.frozen 3;have hbz:aH (bC ((((wr.setCell (q+1,0) (.slice AR nR cR)).setCell (q+1,1) (.slice A ws.length c)).setCell (q+1,2) (.slice AX nX cX)).setCell (q+1,3) (.slice B qs.length d)) (q+1) 87 [.slice AR nR cR, .slice A ws.length c, .slice AX nX cX, .slice B qs.length d].toArray):=(((a.b1.bQ 0 _).bQ 1 _).bQ 2 _).bQ 3 _;have O:aH (wr.grownBy ((((wr.setCell (q+1,0) (.slice AR nR cR)).setCell (q+1,1) (.slice A ws.length c)).setCell (q+1,2) (.slice AX nX cX)).setCell (q+1,3) (.slice B qs.length d)) (some (q+1))):=aY (aY (aY (aY (bE _ _) 0 _) 1 _) 2 _) 3 _;have M:aH ((prog.info? 87).map (·.size)=some 4):=by unfold aH;kernel_rfl
     have Z:¬(qs.length:Int)<(qs.length:Int):=aQ;clear a E J;go_wp2_with(first|(refine wpList_load_mid rfl 87 _ rfl (q+1+1) 0 rfl [.slice AR nR cR, .slice A ws.length c, .slice AX nX cX, .slice B qs.length d] _ hrg.o underlying87 rfl M.o ?_))
     refine bodyPost_ret (OY rfl _ _ (q+1) [.slice AR nR cR, .slice A ws.length c, .slice AX nX cX, .slice B qs.length d] _ rfl hbz.o.range underlying87 rfl M.o) rfl ⟨⟨A,ws.length,c⟩,⟨B,qs.length,d⟩,rfl,?_,?_,rfl,rfl,?_⟩
     .rw[HQ.o];exact(R.o.oW.kept O.o (.inr λe=>by have:=(R.o.oW.lt _ e).1;omega)).from_ aQ
     .rw[HQ.o];exact(R.o.oQ.kept O.o (.inr λe=>by have:=(R.o.oQ.lt _ e).1;omega)).from_ aQ
     .rw[HQ.o];exact R.o.bl.grown O.o (by have:=R.o.sz;omega) (λk hk=>by injection hk with hk;omega)
end
variable{F G:Nat->Prop}{hb m sz i:Nat}{rs:List Rm}{A:Option aJ}
section
structure Ac where
 kd:Int
 env:Int
 n:Int
 bu:Int
 pe:Int
 TA:Option aJ
 Tc:Nat
 ts:List Tm
 od:Int
 CA:Option aJ
 Cc:Nat
 cs:List Int
 RA:Option aJ
 Rc:Nat
 rs:List Int
 WA:Option aJ
 Wc:Nat
 ws:List (Int×Int×Int)
 XA:Option aJ
 Xc:Nat
 xs:List Wd
 QA:Option aJ
 Qc:Nat
 qs:List (Int×Int×Int)
def OH(a:Ac):List aC:= [.int .i64 a.kd, .int .i64 a.env, .int .u8 a.n, .int .i64 a.bu, .int .i64 a.pe, .slice a.TA a.ts.length a.Tc, .int .u8 a.od, .slice a.CA a.cs.length a.Cc, .slice a.RA a.rs.length a.Rc, .slice a.WA a.ws.length a.Wc, .slice a.XA a.xs.length a.Xc, .slice a.QA a.qs.length a.Qc]
theorem Tx:eY OH 12:=⟨λ_=>rfl,λx u hu=>by simp[OH] at hu;rcases hu with rfl|rfl|rfl|rfl|rfl|rfl|rfl|rfl|rfl|rfl|rfl|rfl <;> rfl⟩
structure uU(F:Nat->Prop)(w:aA)(a:Ac):Prop where
 t:Sl sI 5 w a.TA a.ts
 tF:∀q,jU a.TA a.ts.length=some q->F q
 se:∀x∈a.ts,Sl qP 3 w x.A x.t.se/\∀q,jU x.A x.t.se.length=some q->F q
 c:Sl eU 1 w a.CA a.cs
 cF:∀q,jU a.CA a.cs.length=some q->F q
 cr:∀v∈a.cs,0<=v/\v<18446744073709551616
 i:xQ F w a.RA a.rs a.WA a.ws a.XA a.xs
 q:Sl kR 3 w a.QA a.qs
 qF:∀q,jU a.QA a.qs.length=some q->F q
 n:0<=a.n/\a.n<=255
 od:0<=a.od/\a.od<=255
theorem uU.kp{a:Ac}(h:uU F w a)(k:Kp F w w'):uU F w' a:=
 ⟨h.t.xC k h.tF,h.tF,λx b=>⟨(h.se x b).1.xC k (h.se x b).2,(h.se x b).2⟩,h.c.xC k h.cF,h.cF,h.cr,h.i.kp k,h.q.xC k h.qF,h.qF,h.n,h.od⟩
theorem uU.up{a:Ac}(h:uU F w a)(d:∀b,F b->G b):uU G w a:=
 ⟨h.t,λq hq=>d q (h.tF q hq),λx e=>⟨(h.se x e).1,λq hq=>d q ((h.se x e).2 q hq)⟩,h.c,λq hq=>d q (h.cF q hq),h.cr,h.i.up d,h.q,λq hq=>d q (h.qF q hq),h.n,h.od⟩
theorem cE.Sz{c:Int}{k:Kv}(h:cE F w hb m g c k rs)(b:aD w w w'):cE F w' hb m g c k rs:=(h.below b).1
structure EN(a:Ac):Prop where
 t:a.ts.length<=12
 c:a.cs.length<=300
 q:a.qs.length<=20
 r:a.rs.length<=20
 w:a.ws.length<=20
 x:a.xs.length<=10
 se:∀x∈a.ts,x.t.se.length<=12
 xs:∀z∈a.xs,z.xs.length<=60
theorem Sl.cells{α:Type}{enc:α->List aC}{xs:List α}(h:Sl enc sz w A xs)(hi:i<xs.length):∃b off,A=some ⟨b,off,none⟩/\∀(j:Nat) (u:aC),(enc xs[i])[j]?=some u->w.cell? ⟨b,off+i *sz+j,none⟩=some u:=by
 obtain⟨b,off,a,hc⟩:=h.at_ hi;exact⟨b,off,a,λj u hu=>by rw[abV];exact hc j u hu⟩
def Vx(l:List Ac)(w:aA)(r:Ending)(w':aA):Prop:=∃b:Bool,r= .returned (.bool b)/\(b=true->l.length<=60/\∀a∈l,EN a)/\aD w w w'
theorem XQ{l:List Ac}(c:Nat)(w:aA)(h:Sl OH 12 w A l)(O:∀a∈l,uU (λb=>b<w.heap.size) w a):aG prog 9 #[(A,l.length,c)] w (Vx l w):=by
 have P:=bH h O;have y:aH (aD w w w):=Below.refl _ _;clear h O;go_enter func9,ntmps9
 go_wp2_with fail
 go_loopw [3] (λv3 wr=>∃i:Nat,v3= .int .i64 i/\i<=l.length/\i<=60/\aH (aD w w wr/\∀a∈l.take i,EN a)) (λv3 _=>60 - (aL v3).toNat)
 case atStart=>exact⟨0,rfl,aaQ _,aaQ _,y.o,λa q=>by simp at q⟩
 case round=>
  clear y;obtain⟨i,rfl,hi,B,g⟩:=hrel;have j0:(0:Int)<=i:=aQ;by_cases u:i<l.length
  .by_cases S:i<60
   .obtain⟨b,off,rfl,hc⟩:=(P.o.1.keep g.o.1).cells u;have T:aH (l.take (i+1)=l.take i++ [l[i]]):=(abS u).symm;have U:aH (uU (λb=>b<w.heap.size) wr l[i]):=(P.o.2 _ (aaM u)).kp (Kp.dD g.o.1 λ_ H=>H);generalize l[i]=a at *;obtain⟨kd,env,n,bu,pe,TA,Tc,ts,od,CA,Cc,cs,RA,Rc,rs,WA,Wc,ws,XA,Xc,xs,QA,Qc,qs⟩:=a;have c0:=hc 0 (.int .i64 kd) rfl;have c1:=hc 1 (.int .i64 env) rfl;have c2:=hc 2 (.int .u8 n) rfl;have c3:=hc 3 (.int .i64 bu) rfl;have c4:=hc 4 (.int .i64 pe) rfl;have c5:=hc 5 (.slice TA ts.length Tc) rfl;have c6:=hc 6 (.int .u8 od) rfl;have c7:=hc 7 (.slice CA cs.length Cc) rfl;have c8:=hc 8 (.slice RA rs.length Rc) rfl;have c9:=hc 9 (.slice WA ws.length Wc) rfl;have vD:=hc 10 (.slice XA xs.length Xc) rfl;have I:=hc 11 (.slice QA qs.length Qc) rfl;rw[aa3] at c0;have Q:(i:Int)<(l.length:Int):=aQ;have V:(i:Int)<60:=aQ;clear hc;go_upto_region 5 with(fail)
    have v:=aP (bC.new wr 44 #[kd,env, .int .u8 n,bu,pe,(TA,ts.length,Tc), .int .u8 od,(CA,cs.length,Cc),(RA,rs.length,Rc),(WA,ws.length,Wc),(XA,xs.length,Xc),(QA,qs.length,Qc)]);have j:aH (aD w w (wr.alloc (aI #[kd,env, .int .u8 n,bu,pe,(TA,ts.length,Tc), .int .u8 od,(CA,cs.length,Cc),(RA,rs.length,Rc),(WA,ws.length,Wc),(XA,xs.length,Xc),(QA,qs.length,Qc)] 44))):=g.o.1.alloc g.o.1.size _;have C:=aP (U.o.kp (Kp.dD (aX wr (aI #[kd,env, .int .u8 n,bu,pe,(TA,ts.length,Tc), .int .u8 od,(CA,cs.length,Cc),(RA,rs.length,Rc),(WA,ws.length,Wc),(XA,xs.length,Xc),(QA,qs.length,Qc)] 44)) (F:=λb=>b<w.heap.size) λb H=>aaJ H g.o.1.size));have y5:=v.o.cell 5 (.slice TA ts.length Tc) rfl;have y7:=v.o.cell 7 (.slice CA cs.length Cc) rfl;have y8:=v.o.cell 8 (.slice RA rs.length Rc) rfl;have y9:=v.o.cell 9 (.slice WA ws.length Wc) rfl;have W:=v.o.cell 10 (.slice XA xs.length Xc) rfl;have X:=v.o.cell 11 (.slice QA qs.length Qc) rfl;have J:aH (∀x∈l.take i,EN x):=g.o.2;clear c0 c1 c2 c3 c4 c5 c6 c7 c8 c9 vD I v g;have R:aH (Sl sI 5 (wr.alloc (aI #[kd,env, .int .u8 n,bu,pe,(TA,ts.length,Tc), .int .u8 od,(CA,cs.length,Cc),(RA,rs.length,Rc),(WA,ws.length,Wc),(XA,xs.length,Xc),(QA,qs.length,Qc)] 44)) TA ts/\Sl NP 1 (wr.alloc (aI #[kd,env, .int .u8 n,bu,pe,(TA,ts.length,Tc), .int .u8 od,(CA,cs.length,Cc),(RA,rs.length,Rc),(WA,ws.length,Wc),(XA,xs.length,Xc),(QA,qs.length,Qc)] 44)) XA xs):=⟨C.o.t,C.o.i.x⟩
    generalize (wr.alloc (aI #[kd,env, .int .u8 n,bu,pe,(TA,ts.length,Tc), .int .u8 od,(CA,cs.length,Cc),(RA,rs.length,Rc),(WA,ws.length,Wc),(XA,xs.length,Xc),(QA,qs.length,Qc)] 44))=wx at *;go_cut [61] (λs Y=>∃bv:Bool,s= .bool bv/\aH (bv=false->ts.length<=12/\cs.length<=300/\qs.length<=20/\rs.length<=20/\ws.length<=20/\xs.length<=10)/\Y=wx)
    case first=>
     by_cases g1:(12:Int)<(ts.length:Int)
     .go_wp2_with fail
      go_meet
      exact⟨true,rfl,λh=>(by cases h),rfl⟩
     by_cases g2:(300:Int)<(cs.length:Int)
     .go_wp2_with fail
      go_meet
      exact⟨true,rfl,λh=>(by cases h),rfl⟩
     by_cases g3:(20:Int)<(qs.length:Int)
     .go_wp2_with fail
      go_meet
      exact⟨true,rfl,λh=>(by cases h),rfl⟩
     by_cases g4:(20:Int)<(rs.length:Int)
     .go_wp2_with fail
      go_meet
      exact⟨true,rfl,λh=>(by cases h),rfl⟩
     by_cases g5:(20:Int)<(ws.length:Int)
     .go_wp2_with fail
      go_meet
      exact⟨true,rfl,λh=>(by cases h),rfl⟩
     by_cases g6:(10:Int)<(xs.length:Int)
     .go_wp2_with fail
      go_meet
      exact⟨true,rfl,λh=>(by cases h),rfl⟩
     go_wp2_with fail
     go_meet
     exact⟨false,rfl,λ_=>by omega,rfl⟩
    case rest=>
    obtain⟨bv,rfl,D,rfl⟩:=hcut;cases bv with
    |true=>
     go_wp2_with fail
     go_ret
     exact⟨false,rfl,λh=>(by cases h),j.o⟩
    |false=>
     have e:=aP (D.o rfl);have Z:ts.length<=12:=e.o.1;have a1:xs.length<=10:=e.o.2.2.2.2.2;clear D;go_wp2_with fail
     go_loopw [5] (λv5 K=>∃k:Nat,v5= .int .i64 k/\k<=ts.length/\aH (∀x∈ts.take k,x.t.se.length<=12)/\K=wc) (λv5 _=>ts.length - (aL v5).toNat)
     case atStart=>exact⟨0,rfl,aaQ _,λx d=>by simp at d,rfl⟩
     case round=>
      obtain⟨k,rfl,hk,r,rfl⟩:=hrel;have k0:(0:Int)<=k:=aQ;by_cases m:k<ts.length
      .obtain⟨b2,E,rfl,f⟩:=R.o.1.cells m;have p:aH (ts.take (k+1)=ts.take k++ [ts[k]]):=(abS m).symm;generalize ts[k]=tk at *;have d2:=f 2 (.int .i64 tk.t.de) rfl;have d3:=f 3 (.slice tk.A tk.t.se.length tk.c) rfl;have k1:(k:Int)<(ts.length:Int):=aQ;clear f;by_cases s1:(12:Int)<(tk.t.se.length:Int)
       .go_wp2_with fail
        go_ret
        exact⟨false,rfl,λh=>(by cases h),j.o⟩
       .by_cases s2:(600:Int)<tk.t.de
        .by_cases s3:tk.t.de<=(1048576:Int)
         .go_wp2_with fail
          go_ret
          exact⟨false,rfl,λh=>(by cases h),j.o⟩
         .go_wp2_with fail
          exact⟨⟨k+1,rfl,aQ,λx d=>by
           rw[p.o] at d;rcases aa8.1 d with d|d
           .exact r.o x d
           .rw[aaZ.1 d];omega,by first|rfl|trivial⟩,by simp only[aL];omega⟩
        .go_wp2_with fail
         exact⟨⟨k+1,rfl,aQ,λx d=>by
          rw[p.o] at d;rcases aa8.1 d with d|d
          .exact r.o x d
          .rw[aaZ.1 d];omega,by first|rfl|trivial⟩,by simp only[aL];omega⟩
      .obtain rfl:k=ts.length:=aQ;have L:aH (∀x∈ts,x.t.se.length<=12):=by have:=r.o;rw[acJ] at this;exact this
       have k1:¬(ts.length:Int)<(ts.length:Int):=aQ;clear r;go_wp2_with fail
       go_loopw [6] (λv6 K=>∃k:Nat,v6= .int .i64 k/\k<=xs.length/\aH (∀z∈xs.take k,z.xs.length<=60)/\K=wr) (λv6 _=>xs.length - (aL v6).toNat)
       case atStart=>exact⟨0,rfl,aaQ _,λx d=>by simp at d,rfl⟩
       case round=>
        obtain⟨k,rfl,hk,r,rfl⟩:=hrel;have k0:(0:Int)<=k:=aQ;by_cases m:k<xs.length
        .obtain⟨b2,E,rfl,f⟩:=R.o.2.cells m;have p:aH (xs.take (k+1)=xs.take k++ [xs[k]]):=(abS m).symm;generalize xs[k]=z at *;have d0:=f 0 (.slice z.A z.xs.length z.c) rfl;rw[acI,aa3] at d0;have M:(k:Int)<(xs.length:Int):=aQ;clear f;by_cases s1:(60:Int)<(z.xs.length:Int)
         .go_wp2_with fail
          go_ret
          exact⟨false,rfl,λh=>(by cases h),j.o⟩
         .go_wp2_with fail
          exact⟨⟨k+1,rfl,aQ,λx d=>by
           rw[p.o] at d;rcases aa8.1 d with d|d
           .exact r.o x d
           .rw[aaZ.1 d];omega,by first|rfl|trivial⟩,by simp only[aL];omega⟩
        .obtain rfl:k=xs.length:=aQ;have N:aH (∀z∈xs,z.xs.length<=60):=by have:=r.o;rw[acJ] at this;exact this
         have M:¬(xs.length:Int)<(xs.length:Int):=aQ;clear r;go_wp2_with fail
         refine⟨⟨i+1,rfl,aQ,aQ,j.o,λa q=>?_⟩,by simp only[aL];omega⟩;rw[T.o] at q;rcases aa8.1 q with q|q
         .exact J.o a q
         .rw[aaZ.1 q];exact⟨e.o.1,e.o.2.1,e.o.2.2.1,e.o.2.2.2.1,e.o.2.2.2.2.1,e.o.2.2.2.2.2,L.o,N.o⟩
   .obtain rfl:i=60:=aQ;have Q:(60:Int)<(l.length:Int):=aQ;have G:=aP g.o.1;clear g;go_wp2_with fail
    go_ret
    exact⟨_,rfl,λh=>absurd (acC h) aQ,G.o⟩
  .obtain rfl:i=l.length:=aQ;have Q:¬(l.length:Int)<(l.length:Int):=aQ;have V:(l.length:Int)<=60:=aQ;have G:aH (aD w w wr/\∀a∈l,EN a):=by have:=g.o;rw[acJ] at this;exact this
   clear g;go_wp2_with fail
   go_ret
   exact⟨_,rfl,λ_=>⟨B,G.o.2⟩,G.o.1⟩
end
end
section
open Go.ChangeShapes Go.WideShapes Go.ChangeAt Go.RowKit Go.Deep Go.Joins Go.Lib dH Fr Up Nt
variable{P:Program}{w:aA}{fs:Array Field}{n sz:Nat}{A:Option aJ}
section
theorem iH{H:Type}{enc0:aN×aC->H}{e:aN}{cs:List aC}{x:DataW H×List MemPlace}(he:P.underlying e=some (.struct fs))(h:DataW.trod enc0 P w 0 (λ_=>true) true n e cs=some x)(j:Nat)(f:Field)(a:fs[j]?=some f)(o k:Nat)(ho:f.offset=o)(hk:P.cellsOf f.type=k):
 ∃(y:DataW H×List MemPlace) (m:Nat),DataW.trod enc0 P w 0 (λ_=>true) true m f.type ((cs.drop o).take k)=some y:=by
 obtain⟨ys,b,c,l,hlen,d,g⟩:=DataW.trod_struct he h;have h1:=g j f a;rw[ho,hk] at h1;have i:j<fs.size:=(aeN.1 a).1;rw[aaG (show j<ys.length by omega)] at h1;exact⟨_,b,h1⟩
theorem Sl.fE{α:Type}{enc:α->List aC}{xs:List α}(h:Sl enc sz w A xs)(he:eY enc sz)(d:0<sz):∀q,jU A xs.length=some q->q<w.heap.size:=λq hq=>by
 unfold jU at hq;split at hq
 .cases hq
 .obtain⟨b,off,a,hc⟩:=h aQ;rw[a] at hq;injection hq with hq;subst hq;have e:=he.len (xs[0]'(by omega));have h1:=hc 0 (xs[0]'(by omega)) 0 ((enc (xs[0]'(by omega)))[0]'(by omega)) (aaG _) (aaG _);have c:=World.block_lt_of_cell? w _ h1;exact c
def Q4(a:Sc):Prop:=match a with|⟨x0,x1,x2⟩=>(Lit.int .i64 x0).wf=true/\(Lit.int .i64 x1).wf=true/\(Lit.int .i64 x2).wf=true
theorem Ps{H:Type}{enc0:aN×aC->H}(cs:List aC)(x:DataW H×List MemPlace)(n:Nat)(e:cs.length=3)
 (h:DataW.trod enc0 prog w 0 (λ_=>true) true n 201 cs=some x):∃a:Sc,cs=qP a/\Q4 a:=by
 obtain⟨_,v0,o,m0,j,t0⟩:=nB underlying201 aV aV h 0 _ rfl;obtain⟨_,v1,p,m1,k,t1⟩:=nB underlying201 aV aV h 1 _ rfl;obtain⟨_,v2,q,m2,l,t2⟩:=nB underlying201 aV aV h 2 _ rfl;obtain⟨a0,b,_,f⟩:=DataW.trod_int underlying3 t0;obtain⟨m,c,_,g⟩:=DataW.trod_int underlying3 t1;obtain⟨a2,d,_,i⟩:=DataW.trod_int underlying3 t2;injection b with b;injection c with c;injection d with d;subst b c d;refine⟨⟨a0,m,a2⟩,?_,⟨f,g,i⟩⟩;match cs,e with
 | [q0,q1,q2],_=>
  simp at j k l;subst j k l;rfl
def RU(a:(Int×Int×Int)):Prop:=match a with|⟨x0,x1,x2⟩=>(Lit.int .i64 x0).wf=true/\(Lit.int .i64 x1).wf=true/\(Lit.int .i64 x2).wf=true
theorem Ua{H:Type}{enc0:aN×aC->H}(cs:List aC)(x:DataW H×List MemPlace)(n:Nat)(e:cs.length=3)
 (h:DataW.trod enc0 prog w 0 (λ_=>true) true n 171 cs=some x):∃a:(Int×Int×Int),cs=kR a/\RU a:=by
 obtain⟨_,v0,o,m0,j,t0⟩:=nB underlying171 aV aV h 0 _ rfl;obtain⟨_,v1,p,m1,k,t1⟩:=nB underlying171 aV aV h 1 _ rfl;obtain⟨_,v2,q,m2,l,t2⟩:=nB underlying171 aV aV h 2 _ rfl;obtain⟨a0,b,_,f⟩:=DataW.trod_int underlying3 t0;obtain⟨m,c,_,g⟩:=DataW.trod_int underlying3 t1;obtain⟨a2,d,_,i⟩:=DataW.trod_int underlying3 t2;injection b with b;injection c with c;injection d with d;subst b c d;refine⟨⟨a0,m,a2⟩,?_,⟨f,g,i⟩⟩;match cs,e with
 | [q0,q1,q2],_=>
  simp at j k l;subst j k l;rfl
def P9(a:(Int×Int×Int)):Prop:=match a with|⟨x0,x1,x2⟩=>(Lit.int .i64 x0).wf=true/\(Lit.int .i64 x1).wf=true/\(Lit.int .i64 x2).wf=true
theorem Sr{H:Type}{enc0:aN×aC->H}(cs:List aC)(x:DataW H×List MemPlace)(n:Nat)(e:cs.length=3)
 (h:DataW.trod enc0 prog w 0 (λ_=>true) true n 106 cs=some x):∃a:(Int×Int×Int),cs=kR a/\P9 a:=by
 obtain⟨_,v0,o,m0,j,t0⟩:=nB underlying106 aV aV h 0 _ rfl;obtain⟨_,v1,p,m1,k,t1⟩:=nB underlying106 aV aV h 1 _ rfl;obtain⟨_,v2,q,m2,l,t2⟩:=nB underlying106 aV aV h 2 _ rfl;obtain⟨a0,b,_,f⟩:=DataW.trod_int underlying3 t0;obtain⟨m,c,_,g⟩:=DataW.trod_int underlying3 t1;obtain⟨a2,d,_,i⟩:=DataW.trod_int underlying3 t2;injection b with b;injection c with c;injection d with d;subst b c d;refine⟨⟨a0,m,a2⟩,?_,⟨f,g,i⟩⟩;match cs,e with
 | [q0,q1,q2],_=>
  simp at j k l;subst j k l;rfl
section
variable{H:Type}{enc0:aN×aC->H}{w:aA}
theorem Ul(cs:List aC)(x:DataW H×List MemPlace)(n:Nat)(b:cs.length=1)(h:DataW.trod enc0 prog w 0 (λ_=>true) true n 34 cs=some x):∃a:Wd,cs=NP a/\Sl eU 1 w a.A a.xs/\∀u∈a.xs,0<=u/\u<18446744073709551616:=by
 match cs,b with
 | [v],_=>
  obtain⟨A,xs,c,rfl,_,_,h1,d⟩:=iQ (enc:=eU) (λa=>(Lit.int .u64 a).wf=true) underlying34 (show prog.cellsOf 75=1 by kernel_rfl) aQ h (λcs x n e h=>LR underlying75 cs x n e h);exact⟨⟨A,c,xs⟩,rfl,h1,λu hu=>by have:=wf_u64 (d u hu);omega⟩
theorem Qh(cs:List aC)(x:DataW H×List MemPlace)(n:Nat)(b:cs.length=5)(h:DataW.trod enc0 prog w 0 (λ_=>true) true n 131 cs=some x):∃a:Tm,cs=sI a/\Sl qP 3 w a.A a.t.se:=by
 obtain⟨l,m0,t0⟩:=iH underlying131 h 0 _ rfl 0 3 rfl aV;obtain⟨m,m1,t1⟩:=iH underlying131 h 1 _ rfl 3 1 rfl aV;obtain⟨o,m2,t2⟩:=iH underlying131 h 2 _ rfl 4 1 rfl aV;match cs,b with
 | [q0,q1,q2,q3,q4],_=>
  simp only[aeQ,adR,adQ,aeS] at t0 t1 t2;obtain⟨z0,n0,g⟩:=iH underlying122 t0 0 _ rfl 0 1 rfl aV;obtain⟨p,n1,i⟩:=iH underlying122 t0 1 _ rfl 1 1 rfl aV;obtain⟨z2,q,j⟩:=iH underlying122 t0 2 _ rfl 2 1 rfl aV;simp only[aeQ,adR,adQ,aeS] at g i j;obtain⟨a0,d,_,_⟩:=DataW.trod_int underlying3 g;obtain⟨k,h1,_,_⟩:=DataW.trod_int underlying3 i;obtain⟨a2,e,_,_⟩:=DataW.trod_int underlying3 j;obtain⟨a4,f,_,_⟩:=DataW.trod_int underlying3 t2;injection d with d;injection h1 with h1;injection e with e;injection f with f;subst d h1 e f;obtain⟨A,se,c,rfl,_,_,s1,s2⟩:=iQ (enc:=qP) Q4 underlying129 (show prog.cellsOf 201=3 by kernel_rfl) aQ t1 Ps;exact⟨⟨⟨a0,k,a2,se,a4⟩,A,c⟩,rfl,s1⟩
theorem Uc(cs:List aC)(x:DataW H×List MemPlace)(n:Nat)(f:cs.length=12)(h:DataW.trod enc0 prog w 0 (λ_=>true) true n 44 cs=some x):∃a:Ac,cs=OH a/\uU (λb=>b<w.heap.size) w a:=by
 obtain⟨O,m0,t0⟩:=iH underlying44 h 0 _ rfl 0 1 rfl aV;obtain⟨P,m1,t1⟩:=iH underlying44 h 1 _ rfl 1 1 rfl aV;obtain⟨Q,m2,t2⟩:=iH underlying44 h 2 _ rfl 2 1 rfl aV;obtain⟨R,m3,t3⟩:=iH underlying44 h 3 _ rfl 3 2 rfl aV;obtain⟨S,m4,t4⟩:=iH underlying44 h 4 _ rfl 5 1 rfl aV;obtain⟨T,m5,t5⟩:=iH underlying44 h 5 _ rfl 6 1 rfl aV;obtain⟨U,m6,t6⟩:=iH underlying44 h 6 _ rfl 7 1 rfl aV;obtain⟨V,m7,t7⟩:=iH underlying44 h 7 _ rfl 8 4 rfl aV;match cs,f with
 | [q0,q1,q2,q3,q4,q5,q6,q7,q8,q9,q10,q11],_=>
  simp only[aeQ,adR,adQ,aeS] at t0 t1 t2 t3 t4 t5 t6 t7;obtain⟨z0,n0,p⟩:=iH underlying32 t3 0 _ rfl 0 1 rfl aV;obtain⟨W,n1,q⟩:=iH underlying32 t3 1 _ rfl 1 1 rfl aV;obtain⟨z2,X,e⟩:=iH underlying42 t7 0 _ rfl 0 3 rfl aV;obtain⟨z3,Y,r⟩:=iH underlying42 t7 1 _ rfl 3 1 rfl aV;simp only[aeQ,adR,adQ,aeS] at p q e r;obtain⟨z4,Z,s⟩:=iH underlying39 e 0 _ rfl 0 1 rfl aV;obtain⟨z5,n5,y⟩:=iH underlying39 e 1 _ rfl 1 1 rfl aV;obtain⟨z6,n6,B⟩:=iH underlying39 e 2 _ rfl 2 1 rfl aV;simp only[aeQ,adR,adQ,aeS] at s y B;obtain⟨a0,g,_,_⟩:=DataW.trod_int underlying3 t0;obtain⟨I,h1,_,_⟩:=DataW.trod_int underlying3 t1;obtain⟨a2,i,_,J⟩:=DataW.trod_int underlying5 t2;obtain⟨a3,j,_,_⟩:=DataW.trod_int underlying3 p;obtain⟨a4,k,_,_⟩:=DataW.trod_int underlying3 q;obtain⟨a5,l,_,K⟩:=DataW.trod_int underlying5 t5;injection g with g;injection h1 with h1;injection i with i;injection j with j;injection k with k;injection l with l;subst g h1 i j k l;have b2:=wf_u8 J;have b5:=wf_u8 K;obtain⟨TA,ts,Tc,rfl,_,_,s1,s2⟩:=iQ (enc:=sI) (λa=>Sl qP 3 w a.A a.t.se) underlying33 (show prog.cellsOf 131=5 by kernel_rfl) aQ t4 Qh;obtain⟨CA,cs',Cc,rfl,_,_,C,L⟩:=iQ (enc:=eU) (λa=>(Lit.int .u64 a).wf=true) underlying34 (show prog.cellsOf 75=1 by kernel_rfl) aQ t6 (λcs x n m h=>LR underlying75 cs x n m h);obtain⟨RA,rs,Rc,rfl,_,_,D,s6⟩:=iQ (enc:=eI) (λa=>(Lit.int .i64 a).wf=true) underlying35 (show prog.cellsOf 3=1 by kernel_rfl) aQ s (λcs x n m h=>LR underlying3 cs x n m h);obtain⟨WA,ws,Wc,rfl,_,_,E,s8⟩:=iQ (enc:=kR) RU underlying36 (show prog.cellsOf 171=3 by kernel_rfl) aQ y Ua;obtain⟨XA,xs,Xc,rfl,_,_,F,c⟩:=iQ (enc:=NP) (λa=>Sl eU 1 w a.A a.xs/\∀u∈a.xs,0<=u/\u<18446744073709551616) underlying37 (show prog.cellsOf 34=1 by kernel_rfl) aQ B Ul;obtain⟨QA,qs,Qc,rfl,_,_,d,M⟩:=iQ (enc:=kR) P9 underlying40 (show prog.cellsOf 106=3 by kernel_rfl) aQ r Sr;refine⟨⟨a0,I,a2,a3,a4,TA,Tc,ts,a5,CA,Cc,cs',RA,Rc,rs,WA,Wc,ws,XA,Xc,xs,QA,Qc,qs⟩,rfl,?_⟩;exact⟨s1,s1.fE oI aQ,λx G=>⟨s2 x G,(s2 x G).fE R1 aQ⟩,C,C.fE LG aQ,λv N=>by have:=wf_u64 (L v N);omega,⟨D,D.fE fX aQ,E,E.fE uW aQ,F,F.fE Qj aQ,λz o=>⟨(c z o).1,(c z o).1.fE LG aQ,(c z o).2⟩⟩,d,d.fE uW aQ,(show 0<=a2/\a2<=255 by omega),(show 0<=a5/\a5<=255 by omega)⟩
end
end
end
section
open Go.RowKit
section
namespace FI
def pK(b p:Int):Bool:=decide (1<=b/\b<=p/\p<=1048576)
variable{p:Int}
theorem ZT{b:Int}(h:1<=b/\b<=p/\p<=1048576):pK b p=true:=abD h
def Gn(t:Int):Bool:=decide (0<=t/\t<=1048576)
variable{t:Int}
theorem ZY(h:0<=t/\t<=1048576):Gn t=true:=abD h
def FE(a b:Int):Int:=(a+b - 1) /b
def FY(b p t:Int):Int:=max 0 (b *(t /p - 1))
def qO(b p t:Int):Int:=b *(FE t p+1)
theorem mP(b p:Int)(w:aA):
 aG prog 129 #[.agg #[b,p]] w λe w'=>e= .returned (.bool (pK b p))/\aD w w w':=by
 go_enter func129,ntmps129
 go_wp2
 all_goals go_ret
 all_goals refine⟨iO ?_,aX _ _⟩
 all_goals unfold pK
 all_goals first|(simp;done)|(simp;omega)|(rw[ad4];omega)
theorem IL(t:Int)(w:aA):
 aG prog 130 #[t] w λe w'=>e= .returned (.bool (Gn t))/\w=w':=by
 go_enter func130,ntmps130
 go_wp2
 all_goals go_ret
 all_goals refine⟨iO ?_,rfl⟩
 all_goals unfold Gn
 all_goals first|(simp;done)|(simp;omega)|(rw[ad4];omega)
theorem XU(a b:Int)(h:0<=a)(f:1<=b)(c:a%b=0):FE a b=a /b:=by
 unfold FE;have e:=afJ a b;rw[c] at e;have d:a+b - 1=b - 1+b *(a /b):=aQ;rw[d,Int.add_mul_ediv_left _ _ aQ,Int.ediv_eq_zero_of_lt aQ aQ];omega
theorem GO(a b:Int)(h:0<=a)(d:1<=b)(f:¬a%b=0):FE a b=a /b+1:=by
 unfold FE;have e:=afJ a b;have h1:=Int.emod_nonneg a (show b≠0 by omega);have g:=Int.emod_lt_of_pos a (show 0<b by omega);have c:a+b - 1=(a%b - 1)+b *(a /b+1):=by rw[Int.mul_add];omega
 rw[c,Int.add_mul_ediv_left _ _ aQ,Int.ediv_eq_zero_of_lt aQ aQ];omega
theorem div_le_self(a b:Int)(h:0<=a)(c:1<=b):0<=a /b/\a /b<=a:=
 ⟨Int.ediv_nonneg h aQ,Int.ediv_le_self _ h⟩
theorem Lm(t p:Int)(a:0<=t)(hp:1<=p):0<=FE t p/\FE t p<=t:=by
 have hd:=div_le_self t p a hp;by_cases b:t%p=0
 .rw[XU t p a hp b];omega
 .rw[GO t p a hp b];refine⟨aQ,?_⟩;have e:=afJ t p;have h1:=Int.emod_nonneg t (show p≠0 by omega);have a2:1 *(t /p)<=p *(t /p):=ad8 hp hd.1;omega
theorem Jh(a b:Int)(w:aA)(h:0<=a)(i:a<=9223372036854775807)(c:1<=b):
 aG prog 131 #[a,b] w λe w'=>e= .returned (.int .i64 (FE a b))/\w=w':=by
 have hd:=div_le_self a b h c;have g:(b==0)=false:=bL;cases f:(a%b !=0)
 .have d:aH (a%b=0):=by simpa[aH] using f
  go_enter func131,ntmps131
  go_wp2
  go_ret
  exact⟨gY (XU a b h c d.o).symm,rfl⟩
 .have d:aH (¬a%b=0):=by simpa[aH] using f
  have hu:=Lm a b h c;rw[GO a b h c d.o] at hu;go_enter func131,ntmps131
  go_wp2
  go_ret
  exact⟨gY (GO a b h c d.o).symm,rfl⟩
theorem Cj(b k:Int)(h1:0<=b)(d:b<=1048576)(a: -1<=k)(c:k<=1048577): -1048576<=b *k/\b *k<=1099512676352:=by
 have e:b *k<=b *1048577:=aeB c h1;have a2:b *(-1)<=b *k:=aeB a h1;omega
theorem Qw(t p:Int)(a:0<=t)(b:t<=1048576)(hp:1<=p):IntKind.i64.wrap (t.tdiv p)=t /p:=by
 have hd:=div_le_self t p a hp;rw[Int.tdiv_eq_ediv_of_nonneg a,IntWalk.i64_in _ aQ]
theorem ZF(b p t:Int)(w:aA)(h1:1<=b)(i:b<=p)(j:p<=1048576)(d:0<=t)(h:t<=1048576):
 aG prog 94 #[.agg #[b,p],t] w λe w'=>e= .returned (.int .i64 (FY b p t))/\aD w w w':=by
 have r:=ZT ⟨h1,i,j⟩;have s:=ZY ⟨d,h⟩;have a:1<=p:=aQ;have hd:=div_le_self t p d a;have k:¬p=0:=aQ;have hm:=Cj b (t /p - 1) aQ aQ aQ aQ;have l:=aP (IntWalk.i64_in (b *(t /p - 1)) aQ);have HQ:=aP (Qw t p d h a);have HD:=aP (IntWalk.i64_in (t /p - 1) aQ);have f:aD w w (w.alloc (aI #[b,p] 112)):=aX _ _;have c0:(w.alloc (aI #[b,p] 112)).cell? (w.heap.size,0)=some (.int .i64 b):=aT;have c1:(w.alloc (aI #[b,p] 112)).cell? (w.heap.size,1)=some (.int .i64 p):=aT;go_enter func94,ntmps94
 go_wp2_with(first|(go_at_call 129;refine(mP _ _ _).mono ?_;rintro e g ⟨rfl,c⟩;replace c0:=bD c c0;replace c1:=bD c c1;replace f:=dQ f (aaH _) c;clear c)|(go_at_call 130;refine(IL _ _).mono ?_;rintro e g ⟨rfl,rfl⟩))
 have m:=l.o;have n:=HQ.o;have q:=HD.o;go_region_held3 (λw'=>aD g g w'/\w'.cell? (w.heap.size,0)=some (.int .i64 b)/\w'.cell? (w.heap.size,1)=some (.int .i64 p))
  (first|exact⟨(Below.refl _ _).drew,c0,c1⟩|exact WD ‹_› c)
  (fail)
 clear m n q;go_wp2
 all_goals go_ret
 all_goals refine⟨gY ?_,f.drew⟩
 all_goals unfold FY
 all_goals generalize b *(t /p - 1)=z at *
 all_goals omega
theorem Dy(b p t:Int)(h1:1<=b)(c:b<=p)(d:p<=1048576)(a:0<=t)(e:t<=1048576):
 IntKind.i64.wrap (b *IntKind.i64.wrap (FE t p+1))=qO b p t:=by
 have hd:=Lm t p a aQ;rw[IntWalk.i64_in (FE t p+1) aQ];have hm:=Cj b (FE t p+1) aQ aQ aQ aQ;rw[IntWalk.i64_in _ aQ];rfl
theorem JE(b p t:Int)(w:aA)(h1:1<=b)(h:b<=p)(i:p<=1048576)(d:0<=t)(j:t<=1048576):
 aG prog 93 #[.agg #[b,p],t] w λe w'=>e= .returned (.int .i64 (qO b p t))/\aD w w w':=by
 have k:=ZT ⟨h1,h,i⟩;have l:=ZY ⟨d,j⟩;have f:1<=p:=aQ;have g:aD w w (w.alloc (aI #[b,p] 112)):=aX _ _;have c0:(w.alloc (aI #[b,p] 112)).cell? (w.heap.size,0)=some (.int .i64 b):=aT;have c1:(w.alloc (aI #[b,p] 112)).cell? (w.heap.size,1)=some (.int .i64 p):=aT;go_enter func93,ntmps93
 go_wp2_with(first|(go_at_call 129;refine(mP _ _ _).mono ?_;rintro e a ⟨rfl,c⟩;replace c0:=bD c c0;replace c1:=bD c c1;replace g:=dQ g (aaH _) c;clear c)|(go_at_call 130;refine(IL _ _).mono ?_;rintro e a ⟨rfl,rfl⟩))
 go_region_held3 (λw'=>aD a a w'/\w'.cell? (w.heap.size,0)=some (.int .i64 b)/\w'.cell? (w.heap.size,1)=some (.int .i64 p))
  (first|exact⟨(Below.refl _ _).drew,c0,c1⟩|exact WD ‹_› (Below.refl _ _))
  (first|(go_at_call 131;refine(Jh _ _ _ d aQ f).mono ?_;rintro e a ⟨rfl,rfl⟩))
 go_wp2
 go_ret
 exact⟨gY (Dy b p t h1 h i d j),g.drew⟩
end FI
end
end
end Go.Proofs.YtacgiflhgdaeaaaGreat
