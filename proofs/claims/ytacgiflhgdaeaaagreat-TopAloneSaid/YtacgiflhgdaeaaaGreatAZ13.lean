/- Texts laid as one. -/
import Derived.Deep.DeepCutAuto
import Derived.Deep.CutBlock
import Derived.Shelf.Abstract
import Derived.Test.YtacgiflhgdaeaaaGreatAZ2
import Derived.Test.YtacgiflhgdaeaaaGreatAZ4
import Derived.Test.YtacgiflhgdaeaaaGreatAZ5
import Derived.Test.YtacgiflhgdaeaaaGreatAZ8
import Derived.Test.YtacgiflhgdaeaaaGreatAZ12
set_option linter.unusedVariables false
set_option linter.unusedSimpArgs false
set_option maxRecDepth 100000
set_option maxHeartbeats 20000000
namespace Go.Proofs.YtacgiflhgdaeaaaGreat
open Go.Proofs.Tryz
open Go renaming World->aA,Value->aC,Addr->aJ,Ending->aM,Calls->aG
open Go.RowKit renaming Below->aD,Hid->aH,intOf->aL
open Go.Obj renaming cells->aI
section
open Go.RowKit Go.Lib
namespace Up
def xV(L:List Up)(w:aA)(e:aM)(w':aA):Prop:=∃(O:Option aJ) (d:Nat),e= .returned (.slice O L.length d)/\Sl eP 3 w' O L/\aD w w w'
theorem X9(A:Option aJ)(L:List Up)(c:Nat)(base:Nat)(w:aA)(ho:bI eP 3 w base 248 A c L)(hl:L.length<=1000):
 aG prog 252 #[(A,L.length,c)] w (xV L w):=by
 rcases ho.shape with⟨rfl,rfl,rfl⟩|⟨q,rfl⟩
 .simp only[abM];have hq:=λw=>Lib.run_eql_slice_nil (P:=prog) w 319 248 none 0 0 0 0 underlying319
  go_enter func252,ntmps252
  go_wp2
  go_ret
  exact⟨none,0,rfl,Sl.nil _ _,Below.refl _ _⟩
 .have hs:=ho.sl wG;have hq:q<w.heap.size:=(ho.lt q rfl).2;clear ho;have d:=λw=>Lib.run_eql_slice_nil (P:=prog) w 319 248 q L.length c 0 0 underlying319
  go_enter func252,ntmps252
  go_wp2_with(at_builtin;refine bP _ rfl _ _ rfl Vv wG (bI.empty w 248 (base:=w.heap.size) (Zw _)) (n:=0) rfl rfl (m:=L.length) rfl (ys:=L) rfl (hs.alloc _) dI aQ aT _ rfl L.length aT ?_;intro e f h a b g;simp only[adF] at a)
  go_ret
  exact⟨e,f,rfl,a.sl wG,(aX _ _).grown b aT (λk hk=>by simp[aY] at hk;omega)⟩
def Uq(L:List Up)(lost:Int)(w:aA)(e:aM)(w':aA):Prop:=∃(O:Option aJ) (d:Nat),e= .returned (.tuple #[(O,L.length,d),lost])/\Sl eP 3 w' O L/\aD w w w'
theorem Of(g i:Nat)(hi:i<8)(R:List uP)(w:aA)(b:nC w g R)(a:i<R.length)(f:R[i].L.length<=8):
 aG prog 220 #[.pointer g,i] w (Uq R[i].L R[i].lost w):=by
 have H:=aP (λW=>KO g i hi W);have c0:=(b.cells a).1;have c1:=(b.cells a).2;have h:=aP (X9 _ _ _ _ w.drew (b.own i a).drew aQ);generalize R[i]=r at *;clear b a hi;go_enter func220,ntmps220
 go_wp2_with fail
 refine(H.o _).mono ?_;rintro e k ⟨rfl,rfl⟩;go_wp2_with fail
 go_region_with ((go_at_call 252;refine h.o.mono ?_;rintro e l ⟨O,d,rfl,c,hb⟩;(have j:=bG (W:=w.drew) hb c1)))
 all_goals
  go_wp2_with fail
  go_ret2
  exact⟨O,d,rfl,c,fK (Below.drew (Below.refl _ _)) (Zw _) hb⟩
end Up
namespace Up
def TM(F:Nat->Prop)(n g:Nat)(R:List uP):Prop:=∀b,F b->b<n/\b≠g/\∀r∈R,aY r.A≠some b
def Rf(F:Nat->Prop)(w:aA)(g:Nat)(C:List Ct):Prop:=∃R,nC w g R/\R.map uX=C/\TM F w g R
variable{i n:Nat}{A:Option aJ}
section
variable{F:Nat->Prop}{a w w':aA}{g:Nat}{C:List Ct}{R:List uP}
theorem _root_.Go.Proofs.YtacgiflhgdaeaaaGreat.Kp.bX(hF:∀b,F b->b≠g)(o:Nat)(u:aC):Kp F w (w.setCell (g,o) u):=⟨rfl,rfl,rfl,by simp[World.setCell],λk hk=>Below.heap_setCell w ⟨g,o,none⟩ u k (hF k hk)⟩
theorem Rf.keep(h:Rf F w g C)(hb:aD w w w'):Rf F w' g C:=by
 obtain⟨R,h1,e,d⟩:=h;exact⟨R,h1.keep hb,e,λb c=>⟨Zy (d b c).1 hb.size,(d b c).2⟩⟩
theorem Rf.drew(h:Rf F w g C):Rf F w.drew g C:=by
 obtain⟨R,h1,b,c⟩:=h;exact⟨R,h1.drew,b,c⟩
theorem Rf.lt(h:Rf F w g C):∀b,F b->b<w.heap.size:=λb hb=>by
 obtain⟨R,_,_,c⟩:=h;exact(c b hb).1
theorem TM.bX(h:TM F w g R)(hi:i<R.length){c:Nat}{L:List Up}{v:Int}(m:w.heap.size<=n)(k:aY A=aY R[i].A\/aY A=none\/∃q,aY A=some q/\w.heap.size<=q):TM F n g (R.set i ⟨A,c,L,v⟩):=by
 intro b hb;obtain⟨h1,l,j⟩:=h b hb;refine⟨aQ,l,λr f e=>?_⟩;rcases abC f with f|rfl
 .exact j r f e
 .simp only at e;rcases k with d|d|⟨q,d,hq⟩
  .exact j _ (aaF hi) (d.symm.trans e)
  .rw[d] at e;cases e
  .rw[d] at e;injection e with e;omega
end
end Up
namespace Up
def Tx(F:Nat->Prop)(g:Nat)(C:List Ct)(r:Int)(w:aA)(e:aM)(w':aA):Prop:=e= .returned (.int .i64 r)/\Rf F w' g C/\Kp F w w'
theorem El(F:Nat->Prop)(g i:Nat)(hi:i<8)(u:Up)(hu:T0 u.kind=true)(R:List uP)(w:aA)(hR:nC w g R)(l:i<R.length)(A:Option aJ)(c:Nat)(L:List Up)(lost:Int)(f:R[i]=⟨A,c,L,lost⟩)(hl8:L.length<=8)(hF:TM F w g R):
 aG prog 117 #[.pointer g,i, .agg #[u.kind,u.a, .int .u64 u.b]] w (Tx F g ((R.map uX).set i (cY ⟨L,lost⟩ u)) (IU ⟨L,lost⟩ u) w):=by
 have H:=aP (λW=>KO g i hi W);have HN:=aP (λW=>Ht u.kind W);have a1:=aP (λW=>Nh u.kind W);have hq:=YJ hu;have hgw:g<w.heap.size:=hR.at_.lt;have s:=aX w (aI #[u.kind,u.a, .int .u64 u.b] 248);have bu:=bF.new w 248 #[u.kind,u.a, .int .u64 u.b];have T:=aP hR;have I:=aP hF;clear hF;clear hR hi;have V:aH (∀q,aY A=some q->g<q/\q<w.heap.size):=λq hq=>by
  have:=T.o.lt l q;rw[f] at this;exact this hq
 have Z:aH (∀W,aD w w W->W.cell? (g,i *2)=some (.slice A L.length c)/\W.cell? (g,i *2+1)=some (.int .i64 lost)):=λW z=>by
  have:=(T.o.keep z).cells l;rw[f] at this;exact this
 have HO:aH (∀W,aD w w W->bI eP 3 W (g+1) 248 A c L):=λW z=>by
  have:=(T.o.keep z).own i l;rw[f] at this;exact this
 have HPT:aH (∀W P,aD w w W->W.grownBy P (aY A)->∀A' c' O,bI eP 3 P (g+1) 248 A' c' O->(aY A'=aY A\/aY A'=none\/∃q,aY A'=some q/\W.heap.size<=q)->Rf F (P.setCell (g,i *2) (.slice A' O.length c')) g ((R.map uX).set i ⟨O,lost⟩)):=λW P z hg A' c' O ho hA=>by
  have hk:=T.o.keep z;have:=hk.put l (by rw[f];exact hg) ho (by rw[f];exact hA);have jA:=z.size;refine⟨_,this,by rw[J5,f];rfl,I.o.bX l (by have:=hg.size;simp[World.setCell];omega) ?_⟩;rw[f];rcases hA with e|e|⟨q,e,hq⟩
  .exact .inl e
  .exact .inr (.inl e)
  .exact .inr (.inr ⟨q,e,aQ⟩)
 have HRW:aH (∀W P,aD w w W->W.grownBy P (aY A)->∀O,bI eP 3 P (g+1) 248 A c O->O.length=L.length->Rf F P g ((R.map uX).set i ⟨O,lost⟩)):=λW P z hg O ho hA=>by
  have hk:=T.o.keep z;have:=hk.row l (by rw[f];exact hg) (L:=O) (by rw[f];exact ho) (by rw[f];exact hA);have jA:=z.size;exact⟨_,this,by rw[J5,f];rfl,I.o.bX l (by have:=hg.size;omega) (.inl rfl)⟩
 have HLS:aH (∀W v,aD w w W->Rf F (W.setCell (g,i *2+1) (.int .i64 v)) g ((R.map uX).set i ⟨L,v⟩)):=λW v z=>by
  have:=(T.o.keep z).gI l v;have jA:=z.size;exact⟨_,this,by rw[J5,f];rfl,I.o.bX l (by simp[World.setCell];omega) (.inl rfl)⟩
 have HFZ:aH (∀W k,aD w w W->W.frozen? ⟨g,k,none⟩=false):=λW k z=>(T.o.keep z).at_.frozen k
 have p:aH (∀b,F b->b<w.heap.size/\b≠g/\some b≠aY A):=λb hb=>by
  obtain⟨q1,q2,q3⟩:=I.o b hb;refine⟨q1,q2,λe=>q3 _ (aaF l) ?_⟩;rw[f];exact e.symm
 clear f T l I;generalize R.map uX=C at *;clear R;go_enter func117,ntmps117
 go_wp2_with fail
 refine(H.o _).mono ?_;rintro e w2 ⟨rfl,rfl⟩;go_wp2_with fail
 refine(HN.o _).mono ?_;rintro e w2 ⟨rfl,rfl⟩;go_wp2_with fail
 refine(a1.o _).mono ?_;rintro e w2 ⟨rfl,rfl⟩;clear hq H HN a1 hu;have t:w.heap.size<(w.alloc (aI #[u.kind,u.a, .int .u64 u.b] 248)).heap.size:=bu.lt;generalize w.alloc (aI #[u.kind,u.a, .int .u64 u.b] 248)=W at *;go_upto_if 25 with(fail)
 go_cut [6] (λs6 wx=>s6= .int .i64 0/\aD w w wx/\bF wx w.heap.size 248 #[u.kind,u.a, .int .u64 u.b]/\w.heap.size<wx.heap.size/\aH (nE L u=none))
 case first=>
  cases hr:MA u.kind
  .have HO:aH (nE L u=none):=Ge hr;go_wp2_with fail
   go_meet
   exact⟨rfl,s,bu,t,HO.o⟩
  .have c0:=(Z.o _ s).1;have HRU:=aP hr;clear hr;go_wp2_with fail
   go_loopw [6,8,9,31] (λs6 _ _ s31 wr=>∃k:Nat,k<=L.length/\s31= .int .i64 k/\s6= .int .i64 0/\aD w w wr/\bF wr w.heap.size 248 #[u.kind,u.a, .int .u64 u.b]/\w.heap.size<wr.heap.size/\aH (∀j,(Q:j<L.length)->j<k->p6 u L[j]=false)) (λ_ _ _ i _=>L.length - (aL i).toNat)
   case atStart=>exact⟨0,aaH _,rfl,rfl,s,bu,t,λj Q h=>absurd h (acH _)⟩
   case round=>
    clear s bu t c0;obtain⟨k,hk,rfl,rfl,s,bu,t,HA⟩:=hrel;by_cases J:k<L.length
    .have d:=HO.o _ s;rcases d.shape with⟨rfl,rfl,rfl⟩|⟨q,rfl⟩
     .exact absurd J aT
     obtain⟨hq1,hq2⟩:=V.o q rfl;obtain⟨y0,y1,y2⟩:=P8 d J;have k0:(0:Int)<=k:=aQ;have k1:(k:Int)<(L.length:Int):=aQ;have B:aH (p6 u L[k]=true->nE L u=some k):=λh=>Na HRU.o J h (λj Q=>HA.o j aQ Q)
     have K:aH (p6 u L[k]=false->∀j,(Q:j<L.length)->j<k+1->p6 u L[j]=false):=λh j Q hjk=>by
      by_cases he:j=k
      .subst he;exact h
      .exact HA.o j Q aQ
     clear HA d;generalize L[k]=o at *;have bo:=aX wr (aI #[o.kind,o.a, .int .u64 o.b] 248);have D:=bu.keep bo;have x:=fK s (Zw _) bo;have x0:=D.cell 0 u.kind rfl;have x1:=D.cell 1 u.a rfl;have x2:=D.cell 2 (.int .u64 u.b) rfl;have hza:w.heap.size<(wr.alloc (aI #[o.kind,o.a, .int .u64 o.b] 248)).heap.size:=D.lt;cases e1:(o.kind==u.kind)
     .have HF:aH (p6 u o=false):=by unfold aH p6;rw[e1];rfl
      have X:=aP (K.o HF.o);clear B K HF;go_wp2_with fail
      go_roundw
      case rel=>exact⟨k+1,aQ,by go_num,rfl,x,D,hza,X.o⟩
      case measure=>simp[aL];omega
     .cases e2:(o.a==u.a)
      .have HF:aH (p6 u o=false):=by unfold aH p6;rw[e1,e2];rfl
       have X:=aP (K.o HF.o);clear B K HF;go_wp2_with fail
       go_roundw
       case rel=>exact⟨k+1,aQ,by go_num,rfl,x,D,hza,X.o⟩
       case measure=>simp[aL];omega
      .have HT:aH (p6 u o=true):=by unfold aH p6;rw[e1,e2];rfl
       have y:=aP (B.o HT.o);clear B K HT;go_upto_region 11 with(fail)
       have d:=HO.o _ x;generalize wr.alloc (aI #[o.kind,o.a, .int .u64 o.b] 248)=Wa at *;have c0:=(Z.o _ x).1;have S:=Il d J u;have z0:=(cZ d (k *3) (by have:=d.cap;omega)).2;have z1:=(cZ d (k *3+1) (by have:=d.cap;omega)).2;have z2:=(cZ d (k *3+1+1) (by have:=d.cap;omega)).2;obtain⟨v0,v1,v2⟩:=P8 d J;have E:=aP (HRW.o _ _ x S.2 _ S.1 aT);have Y:aH (Kp F w (dU Wa q (k *3) u)):=(Kp.cB x (λb hb=>(p.o b hb).1)).trans (Kp.grown S.2 (λb hb=>⟨Zy (p.o b hb).1 x.size,(p.o b hb).2.2⟩));clear S d;go_region
       all_goals
        go_wp2_with fail
        go_ret
        refine⟨?_,?_,?_⟩
        .exact lT (TU (r:=⟨L,lost⟩) y.o).2.symm
        .rw[(TU (r:=⟨L,lost⟩) y.o).1];exact E.o.drew
        .exact Y.o.drew
    .obtain rfl:k=L.length:=aQ;have y:aH (nE L u=none):=Fw (λj Q=>HA.o j Q Q);go_wp2_with fail
     go_meet
     exact⟨rfl,s,bu,t,y.o⟩
 case rest=>
  clear s bu t HRW;obtain⟨rfl,s,bu,t,y⟩:=hcut;have c0:=(Z.o _ s).1;have c1:=(Z.o _ s).2;by_cases h8:8<=L.length
  .have h8':(8:Int)<=(L.length:Int):=aQ;have M:=aP (Hp (r:=⟨L,lost⟩) y.o h8);have E:=aP (HLS.o wc (wrap64 (lost+1)) s);have f1:=HFZ.o wc (i *2+1) s;go_wp2_with fail
   go_ret
   refine⟨lT M.o.2.symm,?_,(Kp.cB s (λb hb=>(p.o b hb).1)).trans (Kp.bX (λb hb=>(p.o b hb).2.1) _ _)⟩;rw[M.o.1];exact E.o
  .have h8':¬(8:Int)<=(L.length:Int):=aQ;have M:=aP (Ma (r:=⟨L,lost⟩) y.o h8);have x0:=bu.cell 0 u.kind rfl;have x1:=bu.cell 1 u.a rfl;have x2:=bu.cell 2 (.int .u64 u.b) rfl;have hbn:=aX wc.drew (aI #[u.kind,u.a, .int .u64 u.b] 248);have G:aH (aD w w (wc.drew.alloc (aI #[u.kind,u.a, .int .u64 u.b] 248))):=fK s.drew (Zw _) hbn;have c0a:=(Z.o _ G.o).1;have c0b:=(Z.o _ (fK s (Zw _) (aX wc (aI #[u.kind,u.a, .int .u64 u.b] 248)))).1;have hgs:g+1<=wc.heap.size:=aQ;clear hbn bu;go_wp2_with fail
   go_region_law (refine kS _ rfl (.tmp 73) (.tmp 75) rfl Vv wG (base:=g+1) (xs:=L) (HO.o _ G.o) (n:=L.length) rfl rfl (m:=1) rfl (ys:= [u]) rfl (Sl.fI wG wc.drew u _ rfl _ rfl) dI aQ (by simp[World.drew];omega) _ rfl (L.length+1) rfl ?_;intro A5 c5 w5 U N at5;(have b5:w5.cell? (g,i *2)=some (.slice A L.length c):=by rw[World.cell?_of_block (N.block g (by simp[World.drew];omega) (λe=>by have:=V.o g e.symm;omega))];exact c0a);(have f5:w5.frozen? (g,i *2)=false:=by have:=HFZ.o _ (i *2) G.o;rw[<-this];exact JV (N.block g (by simp[World.drew];omega) (λe=>by have:=V.o g e.symm;omega))))
   all_goals
    have E:=aP (HPT.o _ _ G.o N A5 c5 (L++ [u]) U (by rcases at5 with e|e;exact .inl e;exact .inr (.inr ⟨_,e,Zw _⟩)));have Y:aH (Kp F w w5):=(Kp.cB G.o (λb hb=>(p.o b hb).1)).trans (Kp.grown N (λb hb=>⟨Zy (p.o b hb).1 G.o.size,(p.o b hb).2.2⟩));have hll:(L++ [u]).length=L.length+1:=aT;rw[hll] at E;clear hll U N at5;go_wp2_with fail
    go_ret
    refine⟨lT M.o.2.symm,?_,Y.o.trans (Kp.bX (λb hb=>(p.o b hb).2.1) _ _)⟩;rw[M.o.1];exact E.o
end Up
namespace Up
def Ue(F:Nat->Prop)(g:Nat)(C:List Ct)(x:Up)(r:Int)(w:aA)(e:aM)(w':aA):Prop:=e= .returned (.tuple #[.agg #[x.kind,x.a, .int .u64 x.b],r])/\Rf F w' g C/\Kp F w w'
theorem UX(F:Nat->Prop)(g i:Nat)(hi:i<8)(R:List uP)(w:aA)(E:nC w g R)(f:i<R.length)(A:Option aJ)(c:Nat)(x:Up)(L:List Up)(lost:Int)(l:R[i]=⟨A,c,x::L,lost⟩)(hl8:L.length<=8)(hF:TM F w g R):
 aG prog 219 #[.pointer g,i] w (Ue F g ((R.map uX).set i ⟨L,lost⟩) x 0 w):=by
 have H:=aP (λW=>KO g i hi W);have hgw:g<w.heap.size:=E.at_.lt;have B:=aX w (aI #[aU,aU,bC] 248);have r:=E.keep B;have r1:=bF.new w 248 #[aU,aU,bC];have s:=aX (w.alloc (aI #[aU,aU,bC] 248)) (aI #[x.kind,x.a, .int .u64 x.b] 248);have C:aD w w _:=fK B (Zw _) s;have t:=r.keep s;have c0:=(r.cells f).1;have c3:=(t.cells f).1;have k:=r.own i f;have d:=t.own i f;have O:aH (∀q,aY A=some q->g<q/\q<w.heap.size):=λq hq=>by
  have:=E.lt f q;rw[l] at this;exact this hq
 have G:=aP hF;have n:aH (∀b,F b->b<w.heap.size/\b≠g/\some b≠aY A):=λb hb=>by
  obtain⟨q1,q2,q3⟩:=G.o b hb;refine⟨q1,q2,λe=>q3 _ (aaF f) ?_⟩;rw[l];exact e.symm
 clear hF;rw[l] at c0 c3 k d;simp only at c0 c3 k d;rcases k.shape with⟨_,h,_⟩|⟨q,rfl⟩
 .simp at h
 obtain⟨hq1,hq2⟩:=O.o q rfl;obtain⟨Q,S,T⟩:=P8 k (i:=0) aT;simp only[adO,abL,aa8] at Q S T;have HD:aH (∀W,bI eP 3 W (g+1) 248 (some ⟨q,0,none⟩) c (x::L)->aG prog 251 #[.slice (some ⟨q,0,none⟩) (x::L).length c,aU, .int .i64 1] W λe w'=>e= .returned (.slice (some ⟨q,0,none⟩) L.length c)/\bI eP 3 w' (g+1) 248 (some ⟨q,0,none⟩) c L/\W.grownBy w' (some q)):=λW hW=>lX q c 0 L.length (g+1) (x::L) W hW bT bT
 have I:=aP d;have U:=bF.fI (w.alloc (aI #[aU,aU,bC] 248)) 248 #[x.kind,x.a, .int .u64 x.b] (g:=w.heap.size+1) aT;have V:=r1.keep s;have u:=aP t;have hlq:((x::L).length:Int)=(L.length:Int)+1:=aT;have hln:((L.length:Int)+1==0)=false:=bT;have P:aH (∀j,(J:j<R.length)->∀q,aY R[j].A=some q->q<w.heap.size):=λj J q hq=>(E.lt J q hq).2
 clear E r t k d r1 B s hi;go_enter func219,ntmps219
 go_wp2_with fail
 refine(H.o _).mono ?_;rintro e w2 ⟨rfl,rfl⟩;go_wp2_with fail
 refine(HD.o _ I.o).mono ?_;rintro e M ⟨rfl,y,m⟩;have K:some g≠some q:=bT;have X:=u.o.at_.grown m K;have Y:=V.grown m bT;have Z:=U.grown m bT;have f4:=X.frozen (i *2);have z4:M.cell? (g,i *2)=some (.slice (some ⟨q,0,none⟩) (x::L).length c):=by
  rw[World.cell?_of_block (m.block g (u.o.at_.lt) K)];exact c3
 have HT:aH (nC (M.setCell (g,i *2) (.slice (some ⟨q,0,none⟩) L.length c)) g (R.set i ⟨some ⟨q,0,none⟩,c,L,lost⟩)):=by
  have:=u.o.put f (by rw[l];exact m) y (by rw[l];exact .inl rfl);rw[l] at this;exact this
 have D:aH (Kp F w (M.setCell (g,i *2) (.slice (some ⟨q,0,none⟩) L.length c))):=((Kp.cB C (λb hb=>(n.o b hb).1)).trans (Kp.grown m (λb hb=>⟨Zy (n.o b hb).1 C.size,(n.o b hb).2.2⟩))).trans (Kp.bX (λb hb=>(n.o b hb).2.1) _ _);have z:=Y.rU (p:=⟨g,i *2,none⟩) bT (.slice (some ⟨q,0,none⟩) L.length c);have N:=Z.rU (p:=⟨g,i *2,none⟩) bT (.slice (some ⟨q,0,none⟩) L.length c);have u0:=N.cell 0 x.kind rfl;have u1:=N.cell 1 x.a rfl;have u2:=N.cell 2 (.int .u64 x.b) rfl;have HQ:=aP z;have v0:=z.cell 0 (.int .i64 0) rfl;have v1:=z.cell 1 (.int .i64 0) rfl;have v2:=z.cell 2 (.int .u64 0) rfl;have g0:=z.frozen 0;have g1:=z.frozen 1;have g2:=z.frozen 2;clear z N Y Z X y m c3 c0 Q S T V U HD C I u;generalize hW4:M.setCell (g,i *2) (.slice (some ⟨q,0,none⟩) L.length c)=W4 at *;go_wp2_with fail
 obtain⟨d0,d1,d2⟩:_/\_/\_:=⟨(IQ x HQ.o).cell 0 x.kind rfl,(IQ x HQ.o).cell 1 x.a rfl,(IQ x HQ.o).cell 2 (.int .u64 x.b) rfl⟩
 change bodyPost _ _ _ _ _ (dU W4 w.heap.size 0 x)
 refine bodyPost_ret (v:= .tuple #[.agg #[x.kind,x.a, .int .u64 x.b],aU]) (by simp[results,results219,go_sem,d0,d1,d2]) rfl ⟨rfl,⟨_,HT.o.rU (ED _ _ _ _) aQ (λj J e=>?_),by rw[J5];rfl,G.o.bX f (by have:=D.o.size;have:=(ED W4 w.heap.size 0 x).size;omega) (.inl (by rw[l]))⟩,D.o.trans (Kp.grown (ED _ _ _ _) (λb hb=>⟨Zy (n.o b hb).1 D.o.size,λe=>by injection e with e;have:=(n.o b hb).1;omega⟩))⟩;rw[aaL] at J;rw[abA] at e;split at e
 .simp only[aY,aa4,aeB] at e;omega
 .have:=P.o j J _ e;omega
end Up
end
section
open Go.RowKit Go.Lib Go.Shelf dF Fr Up
variable{F:Nat->Prop}{w w':aA}{g:Nat}{L:List En}{A A':Option aJ}{h:Int}{s':dX}
section
def jK(F:Nat->Prop)(w:aA)(g:Nat)(L:List En):Prop:=∃A c h m,Tb w g A c L h m/\Ol F w/\¬F g/\∀q,aY A=some q->¬F q
theorem jK.cD(g:Nat)(L:List En):dN (λF w=>jK F w g L):=λ_ _ _ _ _ ⟨A,c,h,m,t,_,a,b⟩ k d fl hH=>
 ⟨A,c,h,m,⟨k.aY t.1 (d g t.1.lt a),t.2.kp k (λq hq=>d q (t.2.lt q hq).2 (b q hq))⟩,fl,hH g t.1.lt a,λq hq=>hH q (t.2.lt q hq).2 (b q hq)⟩
theorem jK.keep(h:jK F w g L)(hb:aD w w w'):jK F w' g L/\Kp F w w':=by
 obtain⟨A,c,x,m,h1,a,b,d⟩:=h;exact⟨⟨A,c,x,m,h1.keep hb,a.kp (a.below hb),b,d⟩,a.below hb⟩
theorem jK.tw{c:Nat}{m:Int}(a:Ol F w)(d:¬F g)(f:∀q,aY A=some q->¬F q)(t:Tb w' g A' c L h m)(k:Tw w w' g (aY A))(b:aY A'=aY A\/∀q,aY A'=some q->w.heap.size<=q):jK F w' g L/\Kp F w w':=by
 have kp:Kp F w w':=⟨k.os,k.tape,k.output,k.size,λi hi=>k.block i (a i hi) (λe=>d (e ▸ hi)) (λe=>f i e.symm hi)⟩
 refine⟨⟨A',c,h,m,t,a.kp kp,d,λq hq hF=>?_⟩,kp⟩;rcases b with e|e
 .exact f q (e ▸ hq) hF
 .have:=a q hF;have:=e q hq;omega
def Wy(F:Nat->Prop)(g:Nat)(L:List En)(v:aC)(w:aA)(e:aM)(w':aA):Prop:=e= .returned v/\jK F w' g L/\Kp F w w'
def xK(L:List En)(X:En):List En:=if lG X then ld L X else L
theorem MT(h:jK F w g L)(hl:L.length<=100)(X:En):
 aG prog 210 #[.pointer g, .agg #[X.env,X.cN,X.frame,X.write]] w λe w'=>∃(y:En) (b:Bool),Wy F g (xK L X) (.tuple #[.agg #[y.env,y.cN,y.frame,y.write],b, .int .i64 (if lG X then 0 else 1)]) w e w':=by
 cases a:lG X with
 |false=>
  refine(Nj X g w a).mono ?_;rintro e w' ⟨rfl,hb⟩;refine⟨⟨0,0,0,false⟩,false,rfl,?_⟩;unfold xK;rw[a];exact h.keep hb
 |true=>
  obtain⟨A,c,x,m,t,f,i,j⟩:=h;refine(Ec X g A c L x m w a t hl).mono ?_;rintro e w' ⟨y,b,A',n,rfl,l,k,d⟩;refine⟨y,b,rfl,?_⟩;unfold xK;rw[a];exact jK.tw f i j l k d
structure C2(F:Nat->Prop)(w:aA)(g:Nat)(s:dX):Prop where
 m:Fm w g s
 ol:Ol F w
 nf:¬F g
theorem C2.cD(g:Nat)(s:dX):dN (λF w=>C2 F w g s):=λ_ _ _ _ _ h k a fl hH=>⟨⟨h.m.n0,h.m.t,h.m.b,k.aY h.m.at_ (a g h.m.at_.lt h.nf)⟩,fl,hH g h.m.at_.lt h.nf⟩
theorem C2.keep{s:dX}(h:C2 F w g s)(hb:aD w w w'):C2 F w' g s/\Kp F w w':=⟨⟨h.m.keep hb,h.ol.kp (h.ol.below hb),h.nf⟩,h.ol.below hb⟩
theorem C2.eQ{s:dX}(h:C2 F w g s)(hm:Fm w' g s')(a:w.grownBy w' (some g)):C2 F w' g s'/\Kp F w w':=⟨⟨hm,h.ol.kp (h.ol.self h.nf a),h.nf⟩,h.ol.self h.nf a⟩
def uM(F:Nat->Prop)(w:aA)(g:Nat):Prop:=∃C:List Ct,Rf F w g C/\C.length=8/\∀r∈C,r.L.length<=8
theorem uM.cD(g:Nat):dN (λF w=>uM F w g):=λF G H w w' ⟨C,⟨R,h1,f,c⟩,h8,hl⟩ k d fl hH=>by
 have ng:¬F g:=λhf=>(c g hf).2.1 rfl
 have a:∀i (hi:i<R.length) q,aY R[i].A=some q->q<w.heap.size/\¬F q:=λi hi q hq=>⟨(h1.lt hi q hq).2,λhf=>(c q hf).2.2 _ (aaF hi) hq⟩
 refine⟨C,⟨R,⟨h1.len,k.aY h1.at_ (d g h1.at_.lt ng),λi hi=>(h1.own i hi).kp k (λq hq=>d q (a i hi q hq).1 (a i hi q hq).2),h1.zO⟩,f,λb hb=>⟨fl b hb,λe=>hH g h1.at_.lt ng (e ▸ hb),λr h e=>?_⟩⟩,h8,hl⟩;obtain⟨i,hi,rfl⟩:=aa1 h;exact hH b (a i hi b e).1 (a i hi b e).2 hb
theorem uM.keep(h:uM F w g)(hb:aD w w w'):uM F w' g/\Kp F w w':=by
 obtain⟨C,h1,a,b⟩:=h;exact⟨⟨C,h1.keep hb,a,b⟩,Kp.cB hb h1.lt⟩
def Pg(F:Nat->Prop)(g:Nat)(v:aC)(w:aA)(e:aM)(w':aA):Prop:=e= .returned v/\uM F w' g/\Kp F w w'
theorem OD(h:uM F w g)(i:Int)(hi:0<=i/\i<8)(kd a b:Int)(hk:1<=kd/\kd<=8):
 aG prog 117 #[.pointer g,i, .agg #[kd,a, .int .u64 b]] w λe w'=>∃r:Int,Pg F g (.int .i64 r) w e w':=by
 obtain⟨C,⟨R,h1,f,l⟩,m,hl⟩:=h;obtain⟨n,rfl⟩:=aaB hi.1;have j:n<R.length:=by rw[h1.len];omega
 have hC:(uX R[n]).L.length<=8:=hl _ (by rw[<-f];exact aeM (aaF j));have:=El F g n aQ ⟨kd,a,b⟩ (by simp[T0];omega) R w h1 j R[n].A R[n].c R[n].L R[n].lost rfl hC l;refine this.mono ?_;rintro e w' ⟨rfl,o,k⟩;refine⟨_,rfl,⟨_,o,by rw[aaL,f];exact m,λr d=>?_⟩,k⟩;rcases abC d with d|rfl
 .exact hl r (f ▸ d)
 .exact Nr hC
theorem UW(h:uM F w g)(i:Int)(hi:0<=i/\i<8):
 aG prog 219 #[.pointer g,i] w λe w'=>∃(x:Up) (r:Int),Pg F g (.tuple #[.agg #[x.kind,x.a, .int .u64 x.b],r]) w e w':=by
 obtain⟨C,⟨R,h1,j,o⟩,p,hl⟩:=h;obtain⟨n,rfl⟩:=aaB hi.1;have l:n<R.length:=by rw[h1.len];omega
 have hC:(uX R[n]).L.length<=8:=hl _ (by rw[<-j];exact aeM (aaF l));cases m:R[n].L with
 |nil=>
  refine(take_nil g n aQ R w h1 l m).mono ?_;rintro e w' ⟨rfl,hb⟩;obtain⟨r1,q⟩:=uM.keep ⟨C,⟨R,h1,j,o⟩,p,hl⟩ hb;exact⟨⟨0,0,0⟩,6,rfl,r1,q⟩
 |cons x L=>
  have f:(x::L).length<=8:=by rw[<-m];exact hC
  have:=UX F g n aQ R w h1 l R[n].A R[n].c x L R[n].lost (by rw[<-m]) (by simp at f;omega) o;refine this.mono ?_;rintro e w' ⟨rfl,s,k⟩;refine⟨x,0,rfl,⟨_,s,by rw[aaL,j];exact p,λr d=>?_⟩,k⟩;rcases abC d with d|rfl
  .exact hl r (j ▸ d)
  .simp at f⊢;omega
end
end
section
section
namespace Nt
structure Nt where
 dM:Int
 eY:Int
 dD:Int
 Zq:Nat
def Yf:Nt:=⟨0,0,0,0⟩
def fW(T:List Nt)(i:Nat):Nt:=T.getD i Yf
variable{i:Nat}
theorem FE{T:List Nt}(h:i<T.length):fW T i=T[i]:=by simp[fW,h]
def swp(T:List Nt)(i j:Nat):List Nt:=(T.set i (fW T j)).set j (fW T i)
variable{j:Nat}
theorem Fk{T:List Nt}(hi:i<T.length)(a:j<T.length):(swp T i j).Perm T:=by
 unfold swp;rw[FE hi,FE a];exact List.set_set_perm hi a
end Nt
end
end
section
open Go.RowKit Go.Lib
section
namespace Nt
def jM(x:Nt):List aC:= [.int .i64 x.dM, .int .i64 x.eY, .int .i64 x.dD]
theorem jO:eL jM 3:=⟨λ_=>rfl,λx u hu=>by simp[jM] at hu;rcases hu with rfl|rfl|rfl <;> rfl⟩
theorem UH:∀x,(jM x).length=3:=λ_=>rfl
def xC(x y:Int):Int:=if x<y then -1 else if y<x then 1 else 0
theorem Y2(x:Int)(w:aA):aG prog 191 #[x] w λe w'=>e= .returned (.bool false)/\w=w':=by
 go_enter func191,ntmps191
 go_wp2_with fail
 go_ret
 exact⟨rfl,rfl⟩
theorem R7(x y:Int)(w:aA):aG prog 147 #[x,y] w λe w'=>e= .returned (.int .i64 (xC x y))/\w=w':=by
 have n1:=aP (Y2 x w);have a:=aP (Y2 y w);by_cases h1:x<y
 .have hc:xC x y= -1:=by simp[xC,h1]
  rw[hc];clear hc;go_enter func147,ntmps147
  go_wp2_with(go_at_call 191;(first|(with_reducible refine n1.o.mono ?_)|(with_reducible refine a.o.mono ?_));rintro e b ⟨rfl,rfl⟩)
  go_ret
  exact⟨rfl,rfl⟩
 .by_cases d:y<x
  .have hc:xC x y=1:=by simp[xC,h1,d]
   rw[hc];clear hc;go_enter func147,ntmps147
   go_wp2_with(go_at_call 191;(first|(with_reducible refine n1.o.mono ?_)|(with_reducible refine a.o.mono ?_));rintro e b ⟨rfl,rfl⟩)
   go_ret
   exact⟨rfl,rfl⟩
  .have hc:xC x y=0:=by simp[xC,h1,d]
   rw[hc];clear hc;go_enter func147,ntmps147
   go_wp2_with(go_at_call 191;(first|(with_reducible refine n1.o.mono ?_)|(with_reducible refine a.o.mono ?_));rintro e b ⟨rfl,rfl⟩)
   go_ret
   exact⟨rfl,rfl⟩
theorem FN(a b x c d y:Int)(w:aA):aG prog 146 #[.agg #[a,b,x], .agg #[c,d,y]] w λe w'=>e= .returned (.int .i64 (xC x y))/\aD w w w':=by
 have f:aD w w ((w.alloc (aI #[a,b,x] 96)).alloc (aI #[c,d,y] 96)):=(aX _ _).alloc aT _;have h:=((bF.new w 96 #[a,b,x]).alloc (aI #[c,d,y] 96)).cell 2 x rfl;have i:=(bF.fI (w.alloc (aI #[a,b,x] 96)) 96 #[c,d,y] (g:=w.heap.size+1) aT).cell 2 y rfl;go_enter func146,ntmps146
 go_wp2_with fail
 refine(R7 x y _).mono ?_;rintro e j ⟨rfl,rfl⟩;go_wp2_with fail
 go_ret
 exact⟨rfl,f⟩
def Sw(q:Nat)(w w':aA):Prop:=Kp (λb=>b<w.heap.size/\b≠q) w w'
section
variable{q:Nat}{w w' w'':aA}
theorem Sw.refl(w:aA):Sw q w w:=Kp.refl _ _
theorem Sw.trans(h:Sw q w w')(k:Sw q w' w''):Sw q w w'':=Kp.trans h (Kp.mono k λ_ hb=>⟨Zy hb.1 (Kp.size h),hb.2⟩)
theorem Sw.cB(h:aD w w w'):Sw q w w':=Kp.cB h (λ_ hb=>hb.1)
theorem Sw.below(h:Sw q w w')(k:aD w' w' w''):Sw q w w'':=h.trans (Sw.cB k)
theorem Sw.drewN(h:Sw q w w')(n:Nat):Sw q w (w'.drewN n):=Kp.drewN h n
theorem Sw.only(h:w.grownBy w' (some q)):Sw q w w':=Kp.grown h λb hb=>⟨hb.1,λe=>hb.2 (by injection e)⟩
end
abbrev Rw (B:Nat) (w:aA) (q c:Nat) (T:List Nt):Prop:=bI jM 3 w B 96 q c T
variable{q i j:Nat}{w:aA}
theorem Re{B c:Nat}{T:List Nt}(h:Rw B w q c T)(hi:i<T.length)(b:j<T.length):
 Rw B ((w.setCells q (i *3) (jM (fW T j))).setCells q (j *3) (jM (fW T i))) q c (swp T i j)/\Sw q w ((w.setCells q (i *3) (jM (fW T j))).setCells q (j *3) (jM (fW T i))):=by
 have h1:=LL UH aQ h hi (fW T j);have a:=LL UH aQ h1.1 (i:=j) (by rw[aaL];exact b) (fW T i);exact⟨a.1,Sw.only (oV h1.2 a.2)⟩
theorem rC(x:Nt):(prog.info? 96).map (·.size)=some (jM x).toArray.size:=by
 have h:(prog.info? 96).map (·.size)=some 3:=aV;exact h
theorem tM(x:Nt):(jM x).toArray.all (·.oneCell')=true:=all_oneCell_toArray (jO.one x)
theorem mY{B c:Nat}{T:List Nt}(h:Rw B w q c T)(hi:i<T.length):w.cell? (q,i *3)=some (.int .i64 (fW T i).dM)/\w.cell? (q,i *3+1)=some (.int .i64 (fW T i).eY)/\w.cell? (q,i *3+2)=some (.int .i64 (fW T i).dD):=by
 rw[FE hi];exact⟨bM jO h hi (j:=0) rfl,bM jO h hi (j:=1) rfl,bM jO h hi (j:=2) rfl⟩
def fG(B q c:Nat)(T:List Nt)(w w':aA):Prop:=∃T',Rw B w' q c T'/\T'.Perm T/\Sw q w w'
def B9(B q c:Nat)(T:List Nt)(w:aA)(e:aM)(w':aA):Prop:=e= .returned (.tuple #[])/\fG B q c T w w'
section
variable{B q c:Nat}{T T1:List Nt}{w wr w5:aA}
theorem fG.refl(h:Rw B w q c T):fG B q c T w w:=⟨T,h, .refl _,Sw.refl _⟩
theorem fG.trans(h1:T1.Perm T)(a:Sw q w wr)(h:fG B q c T1 wr w5):fG B q c T w w5:=by
 obtain⟨b,d,e,f⟩:=h;exact⟨b,d,e.trans h1,a.trans f⟩
theorem fG.below(h:fG B q c T w wr)(k:aD wr wr w5):fG B q c T w w5:=by
 obtain⟨a,b,d,e⟩:=h;exact⟨a,b.keep k,d,e.below k⟩
theorem fG.swp(d:Rw B wr q c T1)(hp:T1.Perm T)(e:Sw q w wr)(hi:i<T1.length)(b:j<T1.length)(hb:aD wr wr w5):
 w5.there q (i *3) 3/\(w5.setCells q (i *3) (jM (fW T1 j))).there q (j *3) 3/\fG B q c T w ((w5.setCells q (i *3) (jM (fW T1 j))).setCells q (j *3) (jM (fW T1 i))):=by
 have a:=d.keep hb;have hs:=Re a hi b;exact⟨NI a (Zy hi a.cap),World.there_setCells (NI a (Zy b a.cap)) _ _ _,_,hs.1,(Fk hi b).trans hp,(e.below hb).trans hs.2⟩
end
theorem xD(B q c L a b n:Nat)(T:List Nt)(w:aA)(h:Rw B w q c T)(x:aH (T.length=L))(h1:a+n<=L)(H:b+n<=L)(I:L<=1000)(D:aC):
 aG prog 296 #[.slice q L c,a,b,n,D] w (B9 B q c T w):=by
 have m:=aP (fG.refl h);clear h;go_enter func296,ntmps296
 go_wp2_with fail
 go_loopw [10] (λv10 wr=>∃k:Nat,v10= .int .i64 k/\k<=n/\aH (fG B q c T w wr)) (λv10 _=>n - (aL v10).toNat)
 case atStart=>exact⟨0,rfl,aaH _,m⟩
 case round=>
  clear m;obtain⟨k,rfl,hk,m⟩:=hrel;by_cases E:k<n
  .have G:(k:Int)<(n:Int):=aQ;have p1:(a:Int)+(k:Int)<(L:Int):=aQ;have p2:(b:Int)+(k:Int)<(L:Int):=aQ;obtain⟨T1,r,hp,y⟩:=m.o;have s:a+k<T1.length:=by have:=hp.length_eq;have:=x.o;omega
   have t:b+k<T1.length:=by have:=hp.length_eq;have:=x.o;omega
   obtain⟨a0,z,a2⟩:=mY r s;obtain⟨b0,b1,b2⟩:=mY r t;have A:=aP (λw5 hb=>fG.swp (w5:=w5) r hp y s t hb);clear r hp y s t m;go_wp2_with fail
   have e:=bD a0;have f:=bD z;have g:=bD a2;have i:=bD b0;have j:=bD b1;have l:=bD b2;refine bO (bS _) (λ_=>bS) [] (λ_ _ _=>True) [21,23] [] 38 (bY _) (λ_ _ _ h C=>bU h C) (λ_ d hd _ v w w' _ h C=>by cases hd) aV aV bL ?_;repeat refine eA ?_
   refine dC ?_;intro γ w5 hb5 hT;clear e f g i j l;simp only[cO,Act.put,Zx,aaE,aaD];refine dP ?_;obtain⟨t1,t2,t3⟩:=A.o _ hb5;refine wpList_store_mid rfl 96 _ _ rfl q ((a+k) *3) (jM (fW T1 (b+k))).toArray rfl rfl t1 (rC _) (tM _) ?_;refine wpList_store_mid rfl 96 _ _ rfl q ((b+k) *3) (jM (fW T1 (a+k))).toArray rfl rfl t2 (rC _) (tM _) ?_;refine cI ?_;simp only[Act.put];refine rG (F:=Exit.inBlock _ _ _ _) (λW=>fG B q c T w W) t3 ?_;intro J p;have u:=aP p;clear a0 z a2 b0 b1 b2 A hb5 t1 t2 t3 p hT;go_wp2_with fail
   go_roundw
   case rel=>exact⟨k+1,by go_num,aQ,u⟩
   case measure=>simp[aL];omega
  .have G:¬(k:Int)<(n:Int):=aQ;go_wp2_with fail
   go_end0
   exact⟨rfl,m.o⟩
end Nt
end
namespace Nt
theorem VZ(B q c L a m b:Nat)(T:List Nt)(w:aA)(h:Rw B w q c T)(H:aH (T.length=L))(h1:a<m)(M:m<b)(hb:b<=L)(x:L<=1000)(t:aC):
 aG prog 270 #[.slice q L c,a,m,b,t] w (B9 B q c T w):=by
 obtain⟨i0,y⟩:∃i0,i0=m - a:=⟨_,rfl⟩
 obtain⟨r,z⟩:∃r,r=b - m:=⟨_,rfl⟩
 have D:aH ((m:Int) - (a:Int)=(i0:Int)):=by unfold aH;omega
 have E:aH ((b:Int) - (m:Int)=(r:Int)):=by unfold aH;omega
 have u:aH (0<i0/\i0<=m/\0<r/\m+r<=L):=⟨aQ,aQ,aQ,aQ⟩
 have n:=aP (fG.refl h);clear y z h;go_enter func270,ntmps270
 go_wp2_with fail
 rw[D.o,E.o];clear D E;go_loopw [10,11] (λv10 v11 wr=>∃i j:Nat,v10= .int .i64 i/\v11= .int .i64 j/\aH (0<i/\i<=m/\0<j/\m+j<=L)/\aH (fG B q c T w wr)) (λv10 v11 _=>(aL v10).toNat+(aL v11).toNat)
 case atStart=>exact⟨i0,r,rfl,rfl,u,n⟩
 case round=>
  clear u n;obtain⟨i,j,rfl,rfl,u,n⟩:=hrel;obtain⟨q1,l1,q2,I⟩:=u.o;obtain⟨v,s,hp,F⟩:=n.o;have f:aH (v.length=L):=hp.length_eq.trans H.o;have k:=bN hp F;clear hp F;by_cases p:i=j
  .subst p;have hs:=xD B q c L (m - i) m i v wr s f aQ aQ x t;rw[show((m - i:Nat):Int)=(m:Int) - (i:Int) by omega] at hs;clear s f n;have l:=aP (hs);go_wp2_with fail
   refine l.o.mono ?_;rintro e G ⟨rfl,d⟩;have g:=aP (fG.trans k.o.1 k.o.2 d);clear d l k;go_wp2_with fail
   go_end0
   exact⟨rfl,g.o⟩
  .by_cases A:j<i
   .have hs:=xD B q c L (m - i) m j v wr s f aQ aQ x t;rw[show((m - i:Nat):Int)=(m:Int) - (i:Int) by omega] at hs;have C:aH (((i - j:Nat):Int)=(i:Int) - (j:Int)):=by unfold aH;omega
    have J:(j:Int)<(i:Int):=aQ;have K:¬(i:Int)=(j:Int):=aQ;clear s f n p A;have l:=aP (hs);go_wp2_with fail
    refine l.o.mono ?_;rintro e G ⟨rfl,d⟩;have g:=aP (fG.trans k.o.1 k.o.2 d);clear d l k;go_wp2_with fail
    go_roundw
    case rel=>exact⟨i - j,j,by rw[C.o],rfl,⟨aQ,aQ,q2,I⟩,g⟩
    case measure=>simp[aL];omega
   .have hs:=xD B q c L (m - i) (m+j - i) i v wr s f aQ aQ x t;rw[show((m - i:Nat):Int)=(m:Int) - (i:Int) by omega,show((m+j - i:Nat):Int)=(m:Int)+(j:Int) - (i:Int) by omega] at hs;have C:aH (((j - i:Nat):Int)=(j:Int) - (i:Int)):=by unfold aH;omega
    have J:¬(j:Int)<(i:Int):=aQ;have K:¬(i:Int)=(j:Int):=aQ;clear s f n p;have l:=aP (hs);go_wp2_with fail
    refine l.o.mono ?_;rintro e G ⟨rfl,d⟩;have g:=aP (fG.trans k.o.1 k.o.2 d);clear d l k;go_wp2_with fail
    go_roundw
    case rel=>exact⟨i,j - i,rfl,by rw[C.o],⟨q1,l1,aQ,aQ⟩,g⟩
    case measure=>simp[aL];omega
end Nt
namespace Nt
theorem KE(B q c L a b:Nat)(T:List Nt)(w:aA)(h:Rw B w q c T)(M:aH (T.length=L))(N:b<=L)(U:L<=1000)(ha:a<=1000):
 aG prog 232 #[.slice q L c,a,b, .func (.func 146) #[] #[]] w (B9 B q c T w):=by
 have t:=aP (fG.refl h);clear h;go_enter func232,ntmps232
 go_wp2_with fail
 go_loopw [8] (λv8 wr=>∃i:Nat,v8= .int .i64 i/\a<i/\i<=1001/\aH (fG B q c T w wr)) (λv8 _=>1002 - (aL v8).toNat)
 case atStart=>exact⟨a+1,by go_num,aQ,aQ,t⟩
 case round=>
  clear t;obtain⟨i,rfl,O,P,t⟩:=hrel;by_cases Q:i<b
  .have R:(i:Int)<(b:Int):=aQ;go_wp2_with fail
   go_loopw [9] (λv9 ws=>∃j:Nat,v9= .int .i64 j/\a<=j/\j<=i/\aH (fG B q c T w ws)) (λv9 _=>(aL v9).toNat)
   case atStart=>exact⟨i,rfl,aQ,Zw _,t⟩
   case round=>
    clear t;obtain⟨j,rfl,l1,V,t⟩:=hrel;by_cases X:a<j
    .obtain⟨m,rfl⟩:∃m,j=m+1:=⟨j - 1,aQ⟩
     have Y:(a:Int)<(m:Int)+1:=aQ;have Z:m+1<L:=aQ;obtain⟨s,u,hp,I⟩:=t.o;have G:s.length=L:=hp.length_eq.trans M.o;have C:m+1<s.length:=aQ;have D:m<s.length:=aQ;obtain⟨a0,y,a2⟩:=mY u C;obtain⟨b0,b1,b2⟩:=mY u D;have x:=dA u hp I;clear u hp I t G;have hc:=aP (λW=>FN (fW s (m+1)).dM (fW s (m+1)).eY (fW s (m+1)).dD (fW s m).dM (fW s m).eY (fW s m).dD W);generalize xC (fW s (m+1)).dD (fW s m).dD=E at *;by_cases S:E<0
     .go_wp2_with fail
      (have e:=bZ.cell a0;have f:=bZ.cell y;have g:=bZ.cell a2;have k:=bZ.cell b0;have l:=bZ.cell b1;have n:=bZ.cell b2;refine dB aV aV ?_;(repeat (go_big_quiet_step ((go_at_call 146;with_reducible exact iL (hc.o _)))));refine wpQuiet_nil ?_;clear e f g k l n;intro w5 r;have p:=bZ.below r;clear r)
      have u:=x.o.1.keep p;have J:=aP (λw5 hb=>fG.swp (w5:=w5) u x.o.2.1 (x.o.2.2.below p) C D hb);clear a0 y a2 b0 b1 b2 hc p;obtain⟨a0,y,a2⟩:=mY u C;obtain⟨b0,b1,b2⟩:=mY u D;clear u x C D;go_wp2_with fail
      have e:=bD a0;have f:=bD y;have g:=bD a2;have k:=bD b0;have l:=bD b1;have n:=bD b2;refine bO (bS _) (λ_=>bS) [] (λ_ _ _=>True) [15,17] [] 53 (bY _) (λ_ _ _ h K=>bU h K) (λ_ d hd _ v w w' _ h K=>by cases hd) aV aV bL ?_;repeat refine eA ?_
      refine dC ?_;intro γ w5 p hT;clear e f g k l n;simp only[cO,Act.put,Zx,aaE,aaD];refine dP ?_;obtain⟨t1,t2,t3⟩:=J.o _ p;refine wpList_store_mid rfl 96 _ _ rfl q ((m+1) *3) (jM (fW s m)).toArray rfl rfl t1 (rC _) (tM _) ?_;refine wpList_store_mid rfl 96 _ _ rfl q (m *3) (jM (fW s (m+1))).toArray rfl rfl t2 (rC _) (tM _) ?_;refine cI ?_;simp only[Act.put];refine rG (F:=Exit.inBlock _ _ _ _) (λW=>fG B q c T w W) t3 ?_;intro w6 A;have H:=aP A;clear a0 y a2 b0 b1 b2 J p t1 t2 t3 A hT;go_wp2_with fail
      go_roundw
      case rel=>exact⟨m,by go_num,aQ,aQ,H⟩
      case measure=>simp[aL]
     .go_wp2_with fail
      (have e:=bZ.cell a0;have f:=bZ.cell y;have g:=bZ.cell a2;have k:=bZ.cell b0;have l:=bZ.cell b1;have n:=bZ.cell b2;refine dB aV aV ?_;(repeat (go_big_quiet_step ((go_at_call 146;with_reducible exact iL (hc.o _)))));refine wpQuiet_nil ?_;clear e f g k l n;intro w5 r;have p:=bZ.below r;clear r)
      have z:aH (fG B q c T w w5):=⟨s,x.o.1.keep p,x.o.2.1,x.o.2.2.below p⟩
      clear a0 y a2 b0 b1 b2 hc p x;go_wp2_with fail
      go_roundw
      case rel=>exact⟨i+1,by go_num,aQ,aQ,z⟩
      case measure=>simp[aL];omega
    .obtain rfl:a=j:=aQ;go_wp2_with fail
     (refine dB aV aV ?_;(repeat (go_big_quiet_step (fail)));refine wpQuiet_nil ?_;intro w5 r;have p:=bZ.below r;clear r)
     have z:=aP (t.o.below p);clear p t;go_wp2_with fail
     go_roundw
     case rel=>exact⟨i+1,by go_num,aQ,aQ,z⟩
     case measure=>simp[aL];omega
  .have R:¬(i:Int)<(b:Int):=aQ;go_wp2_with fail
   go_end0
   exact⟨rfl,t.o⟩
end Nt
namespace Nt
theorem Nk(B q c L a m b:Nat)(T:List Nt)(w:aA)(h:Rw B w q c T)(N:aH (T.length=L))(R:m=a+1)(h1:m<b)(hb:b<=L)(h3:L<=1000):
 aG prog 233 #[.slice q L c,a,m,b, .func (.func 146) #[] #[]] w (B9 B q c T w):=by
 have k0:(m:Int) - (a:Int)=1:=aQ;have am:a<m:=aQ;have u:=aP (fG.refl h);clear h R;go_enter func233,ntmps233
 go_wp2_with fail
 go_loopw [10,11] (λv10 v11 wr=>∃i j:Nat,v10= .int .i64 i/\v11= .int .i64 j/\m<=i/\i<=j/\j<=b/\aH (fG B q c T w wr)) (λv10 v11 _=>(aL v11).toNat - (aL v10).toNat)
 case atStart=>exact⟨m,b,rfl,rfl,Zw _,aQ,Zw _,u⟩
 case round=>
  clear u;obtain⟨i,j,rfl,rfl,hi,S,U,u⟩:=hrel;by_cases V:i<j
  .have O:(i:Int)<(j:Int):=aQ;obtain⟨H,hH⟩:∃H,H=(i+j) /2:=⟨_,rfl⟩
   have eH:((i:Int)+(j:Int)) /2=(H:Int):=aQ;have X:i<=H:=aQ;have Y:H<j:=aQ;clear hH;obtain⟨s,x,hp,G⟩:=u.o;have z:s.length=L:=hp.length_eq.trans N.o;have q1:H<L:=aQ;have q2:a<L:=aQ;obtain⟨a0,A,a2⟩:=mY x (show H<s.length by omega);obtain⟨b0,b1,b2⟩:=mY x (show a<s.length by omega);have y:=dA x hp G;clear x hp G u z;have hc:=aP (λW=>FN (fW s H).dM (fW s H).eY (fW s H).dD (fW s a).dM (fW s a).eY (fW s a).dD W);generalize xC (fW s H).dD (fW s a).dD=E at *;by_cases Z:E<0
   .as_aux_lemma=>
    go_upto_region 5 with(fail)
    (have e:=bZ.cell a0;have f:=bZ.cell A;have g:=bZ.cell a2;have l:=bZ.cell b0;have n:=bZ.cell b1;have p:=bZ.cell b2;refine dB aV aV ?_;(repeat (go_big_quiet_step ((go_at_call 146;with_reducible exact iL (hc.o _)))));refine wpQuiet_nil ?_;clear e f g l n p;intro w5 t;have r:=bZ.below t;clear t)
    have C:aH (fG B q c T w w5):=⟨s,y.o.1.keep r,y.o.2.1,y.o.2.2.below r⟩
    clear a0 A a2 b0 b1 b2 hc r y;go_wp2_with fail
    go_roundw
    case rel=>exact⟨H+1,j,by go_num,rfl,aQ,aQ,U,C⟩
    case measure=>simp[aL];omega
   .as_aux_lemma=>
    go_upto_region 5 with(fail)
    (have e:=bZ.cell a0;have f:=bZ.cell A;have g:=bZ.cell a2;have l:=bZ.cell b0;have n:=bZ.cell b1;have p:=bZ.cell b2;refine dB aV aV ?_;(repeat (go_big_quiet_step ((go_at_call 146;with_reducible exact iL (hc.o _)))));refine wpQuiet_nil ?_;clear e f g l n p;intro w5 t;have r:=bZ.below t;clear t)
    have C:aH (fG B q c T w w5):=⟨s,y.o.1.keep r,y.o.2.1,y.o.2.2.below r⟩
    clear a0 A a2 b0 b1 b2 hc r y;go_wp2_with fail
    go_roundw
    case rel=>exact⟨i,H,rfl,rfl,hi,aQ,aQ,C⟩
    case measure=>simp[aL];omega
  .obtain rfl:i=j:=aQ;go_wp2_with fail
   go_loopw [13] (λD ws=>∃k:Nat,D= .int .i64 k/\k+1<=i/\aH (fG B q c T w ws)) (λD _=>i - (aL D).toNat)
   case atStart=>exact⟨a,rfl,aQ,u⟩
   case round=>
    clear u;obtain⟨k,rfl,a6,u⟩:=hrel;by_cases hk:k+1<i
    .have O:(k:Int)<(i:Int) - 1:=aQ;have q3:(k:Int)+1<(L:Int):=aQ;obtain⟨s,x,hp,G⟩:=u.o;have z:s.length=L:=hp.length_eq.trans N.o;have J:k<s.length:=aQ;have K:(k+1)<s.length:=aQ;obtain⟨a0,A,a2⟩:=mY x J;obtain⟨b0,b1,b2⟩:=mY x K;have P:=aP (λw5 hb=>fG.swp (w5:=w5) x hp G J K hb);clear x hp G u z J K;go_wp2_with fail
     have e:=bD a0;have f:=bD A;have g:=bD a2;have l:=bD b0;have n:=bD b1;have p:=bD b2;refine bO (bS _) (λ_=>bS) [] (λ_ _ _=>True) [15,17] [] 220 (bY _) (λ_ _ _ h Q=>bU h Q) (λ_ d hd _ v w w' _ h Q=>by cases hd) aV aV bL ?_;repeat refine eA ?_
     refine dC ?_;intro γ w5 r hT;clear e f g l n p;simp only[cO,Act.put,Zx,aaE,aaD];refine dP ?_;obtain⟨t1,t2,t3⟩:=P.o _ r;refine wpList_store_mid rfl 96 _ _ rfl q (k *3) (jM (fW s (k+1))).toArray rfl rfl t1 (rC _) (tM _) ?_;refine wpList_store_mid rfl 96 _ _ rfl q ((k+1) *3) (jM (fW s k)).toArray rfl rfl t2 (rC _) (tM _) ?_;refine cI ?_;simp only[Act.put];refine rG (F:=Exit.inBlock _ _ _ _) (λW=>fG B q c T w W) t3 ?_;intro w6 I;have M:=aP I;clear a0 A a2 b0 b1 b2 P r t1 t2 t3 I hT;go_wp2_with fail
     go_roundw
     case rel=>exact⟨k+1,by go_num,aQ,M⟩
     case measure=>simp[aL];omega
    .have O:¬(k:Int)<(i:Int) - 1:=aQ;go_wp2_with fail
     go_end0
     exact⟨rfl,u.o⟩
end Nt
namespace Nt
theorem Mc(B q c L a m b:Nat)(T:List Nt)(w:aA)(h:Rw B w q c T)(O:aH (T.length=L))(S:b=m+1)(h1:a+1<m)(hb:b<=L)(h3:L<=1000):
 aG prog 233 #[.slice q L c,a,m,b, .func (.func 146) #[] #[]] w (B9 B q c T w):=by
 have k9:¬(m:Int) - (a:Int)=1:=aQ;have k0:(b:Int) - (m:Int)=1:=aQ;have mb:m<b:=aQ;have u:=aP (fG.refl h);clear h S;go_enter func233,ntmps233
 go_wp2_with fail
 go_loopw [14,15] (λz A wr=>∃i j:Nat,z= .int .i64 i/\A= .int .i64 j/\a<=i/\i<=j/\j<=m/\aH (fG B q c T w wr)) (λz A _=>(aL A).toNat - (aL z).toNat)
 case atStart=>exact⟨a,m,rfl,rfl,Zw _,aQ,Zw _,u⟩
 case round=>
  clear u;obtain⟨i,j,rfl,rfl,hi,U,V,u⟩:=hrel;by_cases X:i<j
  .have P:(i:Int)<(j:Int):=aQ;obtain⟨H,hH⟩:∃H,H=(i+j) /2:=⟨_,rfl⟩
   have eH:((i:Int)+(j:Int)) /2=(H:Int):=aQ;have Y:i<=H:=aQ;have Z:H<j:=aQ;clear hH;obtain⟨s,x,hp,I⟩:=u.o;have C:s.length=L:=hp.length_eq.trans O.o;have q1:m<L:=aQ;have q2:H<L:=aQ;obtain⟨a0,D,a2⟩:=mY x (show m<s.length by omega);obtain⟨b0,b1,b2⟩:=mY x (show H<s.length by omega);have y:=dA x hp I;clear x hp I u C;have hc:=aP (λW=>FN (fW s m).dM (fW s m).eY (fW s m).dD (fW s H).dM (fW s H).eY (fW s H).dD W);generalize xC (fW s m).dD (fW s H).dD=E at *;by_cases a6:E<0
   .as_aux_lemma=>
    go_upto_region 17 with(fail)
    (have e:=bZ.cell a0;have f:=bZ.cell D;have g:=bZ.cell a2;have l:=bZ.cell b0;have n:=bZ.cell b1;have p:=bZ.cell b2;refine dB aV aV ?_;(repeat (go_big_quiet_step ((go_at_call 146;with_reducible exact iL (hc.o _)))));refine wpQuiet_nil ?_;clear e f g l n p;intro w5 t;have r:=bZ.below t;clear t)
    have G:aH (fG B q c T w w5):=⟨s,y.o.1.keep r,y.o.2.1,y.o.2.2.below r⟩
    clear a0 D a2 b0 b1 b2 hc r y;go_wp2_with fail
    go_roundw
    case rel=>exact⟨i,H,rfl,rfl,hi,aQ,aQ,G⟩
    case measure=>simp[aL];omega
   .as_aux_lemma=>
    go_upto_region 17 with(fail)
    (have e:=bZ.cell a0;have f:=bZ.cell D;have g:=bZ.cell a2;have l:=bZ.cell b0;have n:=bZ.cell b1;have p:=bZ.cell b2;refine dB aV aV ?_;(repeat (go_big_quiet_step ((go_at_call 146;with_reducible exact iL (hc.o _)))));refine wpQuiet_nil ?_;clear e f g l n p;intro w5 t;have r:=bZ.below t;clear t)
    have G:aH (fG B q c T w w5):=⟨s,y.o.1.keep r,y.o.2.1,y.o.2.2.below r⟩
    clear a0 D a2 b0 b1 b2 hc r y;go_wp2_with fail
    go_roundw
    case rel=>exact⟨H+1,j,by go_num,rfl,aQ,aQ,V,G⟩
    case measure=>simp[aL];omega
  .obtain rfl:i=j:=aQ;go_wp2_with fail
   go_loopw [17] (λv17 ws=>∃k:Nat,v17= .int .i64 k/\i<=k/\k<=m/\aH (fG B q c T w ws)) (λv17 _=>(aL v17).toNat)
   case atStart=>exact⟨m,rfl,aQ,Zw _,u⟩
   case round=>
    clear u;obtain⟨k,rfl,a7,a8,u⟩:=hrel;by_cases hk:i<k
    .obtain⟨d,rfl⟩:∃d,k=d+1:=⟨k - 1,aQ⟩
     have P:(i:Int)<(d:Int)+1:=aQ;have q3:(d:Int)+1<(L:Int):=aQ;obtain⟨s,x,hp,I⟩:=u.o;have C:s.length=L:=hp.length_eq.trans O.o;have K:(d+1)<s.length:=aQ;have M:d<s.length:=aQ;obtain⟨a0,D,a2⟩:=mY x K;obtain⟨b0,b1,b2⟩:=mY x M;have Q:=aP (λw5 hb=>fG.swp (w5:=w5) x hp I K M hb);clear x hp I u C K M;go_wp2_with fail
     have e:=bD a0;have f:=bD D;have g:=bD a2;have l:=bD b0;have n:=bD b1;have p:=bD b2;refine bO (bS _) (λ_=>bS) [] (λ_ _ _=>True) [15,17] [] 220 (bY _) (λ_ _ _ h R=>bU h R) (λ_ d hd _ v w w' _ h R=>by cases hd) aV aV bL ?_;repeat refine eA ?_
     refine dC ?_;intro γ w5 r hT;clear e f g l n p;simp only[cO,Act.put,Zx,aaE,aaD];refine dP ?_;obtain⟨t1,t2,t3⟩:=Q.o _ r;refine wpList_store_mid rfl 96 _ _ rfl q ((d+1) *3) (jM (fW s d)).toArray rfl rfl t1 (rC _) (tM _) ?_;refine wpList_store_mid rfl 96 _ _ rfl q (d *3) (jM (fW s (d+1))).toArray rfl rfl t2 (rC _) (tM _) ?_;refine cI ?_;simp only[Act.put];refine rG (F:=Exit.inBlock _ _ _ _) (λW=>fG B q c T w W) t3 ?_;intro w6 J;have N:=aP J;clear a0 D a2 b0 b1 b2 Q r t1 t2 t3 J hT;go_wp2_with fail
     go_roundw
     case rel=>exact⟨d,by go_num,aQ,aQ,N⟩
     case measure=>simp[aL]
    .have P:¬(i:Int)<(k:Int):=aQ;go_wp2_with fail
     go_end0
     exact⟨rfl,u.o⟩
end Nt
namespace Nt
def Ql(n:Nat):Prop:=∀(B q c L a m b:Nat) (T:List Nt) (w:aA),b - a<=n->Rw B w q c T->aH (T.length=L)->a<m->m<b->b<=L->L<=1000->
 aG prog 233 #[.slice q L c,a,m,b, .func (.func 146) #[] #[]] w (B9 B q c T w)
theorem Ls(n:Nat)(ih:Ql n)(B q c L a m b:Nat)(T:List Nt)(w:aA)(h:Rw B w q c T)(Z:aH (T.length=L))(hn:b - a<=n+1)(h0:a+1<m)(h1:m+1<b)(hb:b<=L)(h3:L<=1000):
 aG prog 233 #[.slice q L c,a,m,b, .func (.func 146) #[] #[]] w (B9 B q c T w):=by
 have k9:¬(m:Int) - (a:Int)=1:=aQ;have k8:¬(b:Int) - (m:Int)=1:=aQ;have IH:=aP ih;obtain⟨gL,K⟩:∃gL,gL=(a+b) /2:=⟨_,rfl⟩
 have eM:((a:Int)+(b:Int)) /2=(gL:Int):=aQ;have m1:a<gL:=aQ;have m2:gL<b:=aQ;obtain⟨n0,X⟩:∃n0,n0=gL+m:=⟨_,rfl⟩
 have eN:(gL:Int)+(m:Int)=(n0:Int):=aQ;have n1:n0<=2000:=aQ;obtain⟨p,hp⟩:∃p,p=n0 - 1:=⟨_,rfl⟩
 have eP:(n0:Int) - 1=(p:Int):=aQ;have V:aH (gL=(a+b) /2/\n0=gL+m/\p=n0 - 1/\b - a<=n+1):=⟨K,X,hp,hn⟩
 have f:=aP (fG.refl h);clear h ih K X hp hn;go_enter func233,ntmps233
 go_upto_if 140 with(fail)
 go_cut [20,21,141,142,143,144,145,146] (λs20 s21 _ _ _ _ _ _ G=>∃s0 r0:Nat,s20= .int .i64 s0/\s21= .int .i64 r0/\aH (s0=if gL<m then gL+m - b else a)/\aH (r0=if gL<m then gL else m)/\aH (fG B q c T w G))
 case first=>
  as_aux_lemma=>
   by_cases hc:gL<m
   .have c1:(gL:Int)<(m:Int):=aQ;obtain⟨s1,Y⟩:∃s1,s1=gL+m - b:=⟨_,rfl⟩
    have eS:(n0:Int) - (b:Int)=(s1:Int):=by have:=V.o;omega
    have O:aH (s1=if gL<m then gL+m - b else a):=by unfold aH;rw[Zz hc];exact Y
    have P:aH (gL=if gL<m then gL else m):=by unfold aH;rw[Zz hc]
    clear Y hc;go_wp2_with fail
    go_meet
    exact⟨s1,gL,rfl,rfl,O,P,f⟩
   .have c1:¬(gL:Int)<(m:Int):=aQ;have O:aH (a=if gL<m then gL+m - b else a):=by unfold aH;rw[aaA hc]
    have P:aH (m=if gL<m then gL else m):=by unfold aH;rw[aaA hc]
    clear hc;go_wp2_with fail
    go_meet
    exact⟨a,m,rfl,rfl,O,P,f⟩
 case rest=>
  clear f;obtain⟨s0,r0,rfl,rfl,Q,R,f⟩:=hcut;have hg:aH (a<=s0/\s0<=r0/\r0<=m/\r0<=gL/\∀c,s0<=c->c<r0->m<=p - c/\p - c<b/\c<=p):=by
   have h1:=Q.o;have h2:=R.o;have h4:=V.o;refine⟨?_,?_,?_,?_,λc e1 e2=>?_⟩ <;> (split at h1 <;> split at h2 <;> omega)
  obtain⟨g1,g2,g3,g4,S⟩:=hg.o;have S:=aP S;have HE0:aH (∀i,s0<=i->i<=r0->i<=m/\m<=gL+m - i/\gL+m - i<=b):=λi e1 e2=>by
   have h1:=Q.o;have h2:=R.o;have h4:=V.o;split at h1 <;> split at h2 <;> omega
  clear hg Q R;go_upto_region 33 with(fail)
  go_wp2_with fail
  go_loopw [20,21] (λv20 v21 wr=>∃i j:Nat,v20= .int .i64 i/\v21= .int .i64 j/\s0<=i/\i<=j/\j<=r0/\aH (fG B q c T w wr)) (λv20 v21 _=>(aL v21).toNat - (aL v20).toNat)
  case atStart=>exact⟨s0,r0,rfl,rfl,Zw _,g2,Zw _,f⟩
  case round=>
   clear f;obtain⟨i,j,rfl,rfl,hi,hij,hj,f⟩:=hrel;by_cases hlt:i<j
   .have k1:(i:Int)<(j:Int):=aQ;obtain⟨H,hH⟩:∃H,H=(i+j) /2:=⟨_,rfl⟩
    have eH:((i:Int)+(j:Int)) /2=(H:Int):=aQ;have hH1:i<=H:=aQ;have hH2:H<j:=aQ;clear hH;have hpp:=S.o H aQ aQ;obtain⟨d,hd⟩:∃d,d=p - H:=⟨_,rfl⟩
    have eD:(p:Int) - (H:Int)=(d:Int):=aQ;have hdL:d<b:=aQ;clear hd hpp;obtain⟨k,C,hp,F⟩:=f.o;have g:k.length=L:=hp.length_eq.trans Z.o;have q1:d<L:=aQ;have q2:H<L:=aQ;obtain⟨a0,a1,a2⟩:=mY C (show d<k.length by omega);obtain⟨b0,b1,b2⟩:=mY C (show H<k.length by omega);have M:=dA C hp F;clear C hp F f g;have hc:=aP (λW=>FN (fW k d).dM (fW k d).eY (fW k d).dD (fW k H).dM (fW k H).eY (fW k H).dD W);generalize xC (fW k d).dD (fW k H).dD=E at *;by_cases hE0:E<0
    .as_aux_lemma=>
     go_upto_region 35 with(fail)
     (have s:=bZ.cell a0;have t:=bZ.cell a1;have u:=bZ.cell a2;have v:=bZ.cell b0;have x:=bZ.cell b1;have y:=bZ.cell b2;refine dB aV aV ?_;(repeat (go_big_quiet_step ((go_at_call 146;with_reducible exact iL (hc.o _)))));refine wpQuiet_nil ?_;clear s t u v x y;intro w5 z;have D:=bZ.below z;clear z)
     have U:aH (fG B q c T w w5):=⟨k,M.o.1.keep D,M.o.2.1,M.o.2.2.below D⟩
     clear a0 a1 a2 b0 b1 b2 hc D M;go_wp2_with fail
     go_roundw
     case rel=>exact⟨i,H,rfl,rfl,hi,aQ,aQ,U⟩
     case measure=>simp[aL];omega
    .as_aux_lemma=>
     go_upto_region 35 with(fail)
     (have s:=bZ.cell a0;have t:=bZ.cell a1;have u:=bZ.cell a2;have v:=bZ.cell b0;have x:=bZ.cell b1;have y:=bZ.cell b2;refine dB aV aV ?_;(repeat (go_big_quiet_step ((go_at_call 146;with_reducible exact iL (hc.o _)))));refine wpQuiet_nil ?_;clear s t u v x y;intro w5 z;have D:=bZ.below z;clear z)
     have U:aH (fG B q c T w w5):=⟨k,M.o.1.keep D,M.o.2.1,M.o.2.2.below D⟩
     clear a0 a1 a2 b0 b1 b2 hc D M;go_wp2_with fail
     go_roundw
     case rel=>exact⟨H+1,j,by go_num,rfl,aQ,aQ,hj,U⟩
     case measure=>simp[aL];omega
   .obtain rfl:i=j:=aQ;obtain⟨e,he⟩:∃e,e=gL+m - i:=⟨_,rfl⟩
    obtain⟨x1,x2,x3⟩:=HE0.o i hi hj;rw[<-he] at x2 x3;have eE:(n0:Int) - (i:Int)=(e:Int):=by have:=V.o;omega
    clear he;go_upto_region 39 with(fail)
    go_cut [185] (λsv G=>∃bv:Bool,sv= .bool bv/\aH (bv=decide (i<m/\m<e))/\aH (fG B q c T w G))
    case first=>
     as_aux_lemma=>
      by_cases c1:i<m
      .have c3:(i:Int)<(m:Int):=aQ;by_cases c2:m<e
       .have c4:(m:Int)<(e:Int):=aQ;have HD:aH (true=decide (i<m/\m<e)):=by unfold aH;simp[c1,c2]
        go_wp2_with fail
        go_meet
        exact⟨_,rfl,HD,f⟩
       .have c4:¬(m:Int)<(e:Int):=aQ;have HD:aH (false=decide (i<m/\m<e)):=by unfold aH;simp[c2]
        go_wp2_with fail
        go_meet
        exact⟨_,rfl,HD,f⟩
      .have c3:¬(i:Int)<(m:Int):=aQ;have HD:aH (false=decide (i<m/\m<e)):=by unfold aH;simp[c1]
       go_wp2_with fail
       go_meet
       exact⟨_,rfl,HD,f⟩
    case rest=>
    clear f;obtain⟨bv,rfl,l,f⟩:=hcut;go_upto_if 185 with(fail)
    go_cut [] (λG=>aH (fG B q c T w G))
    case first=>
     as_aux_lemma=>
      obtain⟨k,C,hp,F⟩:=f.o;have g:aH (k.length=L):=hp.length_eq.trans Z.o;have I:=bN hp F;by_cases r:i<m/\m<e
      .obtain rfl:bv=true:=by rw[l.o];simpa using r
       have N:=aP (VZ B q c L i m e k _ C g r.1 r.2 aQ h3 (.func (.func 146) #[] #[]));clear C hp F g r;go_wp2_with fail
       refine N.o.mono ?_;rintro e2 w2 ⟨rfl,A⟩;have J:=aP (fG.trans I.o.1 I.o.2 A);clear A N I;go_wp2_with fail
       go_meet
       exact J
      .obtain rfl:bv=false:=by rw[l.o];simpa using r
       clear C hp F g r;go_wp2_with fail
       go_meet
       exact f
    case rest=>
    clear f l;have f:=hcut;clear hcut;go_upto_region 41 with(fail)
    go_cut [199] (λsv G=>∃bv:Bool,sv= .bool bv/\aH (bv=decide (a<i/\i<gL))/\aH (fG B q c T w G))
    case first=>
     as_aux_lemma=>
      by_cases c1:a<i
      .have c3:(a:Int)<(i:Int):=aQ;by_cases c2:i<gL
       .have c4:(i:Int)<(gL:Int):=aQ;have HD:aH (true=decide (a<i/\i<gL)):=by unfold aH;simp[c1,c2]
        go_wp2_with fail
        go_meet
        exact⟨_,rfl,HD,f⟩
       .have c4:¬(i:Int)<(gL:Int):=aQ;have HD:aH (false=decide (a<i/\i<gL)):=by unfold aH;simp[c2]
        go_wp2_with fail
        go_meet
        exact⟨_,rfl,HD,f⟩
      .have c3:¬(a:Int)<(i:Int):=aQ;have HD:aH (false=decide (a<i/\i<gL)):=by unfold aH;simp[c1]
       go_wp2_with fail
       go_meet
       exact⟨_,rfl,HD,f⟩
    case rest=>
    clear f;obtain⟨bv,rfl,l,f⟩:=hcut;go_upto_if 199 with(fail)
    go_cut [] (λG=>aH (fG B q c T w G))
    case first=>
     as_aux_lemma=>
      obtain⟨k,C,hp,F⟩:=f.o;have g:aH (k.length=L):=hp.length_eq.trans Z.o;have I:=bN hp F;by_cases r:a<i/\i<gL
      .obtain rfl:bv=true:=by rw[l.o];simpa using r
       have N:=aP (IH.o B q c L a i gL k _ (by have:=V.o;omega) C g r.1 r.2 aQ h3);clear C hp F g r;go_wp2_with fail
       refine N.o.mono ?_;rintro e2 w2 ⟨rfl,A⟩;have J:=aP (fG.trans I.o.1 I.o.2 A);clear A N I;go_wp2_with fail
       go_meet
       exact J
      .obtain rfl:bv=false:=by rw[l.o];simpa using r
       clear C hp F g r;go_wp2_with fail
       go_meet
       exact f
    case rest=>
    clear f l;have f:=hcut;clear hcut;go_upto_region 43 with(fail)
    go_cut [213] (λsv G=>∃bv:Bool,sv= .bool bv/\aH (bv=decide (gL<e/\e<b))/\aH (fG B q c T w G))
    case first=>
     as_aux_lemma=>
      by_cases c1:gL<e
      .have c3:(gL:Int)<(e:Int):=aQ;by_cases c2:e<b
       .have c4:(e:Int)<(b:Int):=aQ;have HD:aH (true=decide (gL<e/\e<b)):=by unfold aH;simp[c1,c2]
        go_wp2_with fail
        go_meet
        exact⟨_,rfl,HD,f⟩
       .have c4:¬(e:Int)<(b:Int):=aQ;have HD:aH (false=decide (gL<e/\e<b)):=by unfold aH;simp[c2]
        go_wp2_with fail
        go_meet
        exact⟨_,rfl,HD,f⟩
      .have c3:¬(gL:Int)<(e:Int):=aQ;have HD:aH (false=decide (gL<e/\e<b)):=by unfold aH;simp[c1]
       go_wp2_with fail
       go_meet
       exact⟨_,rfl,HD,f⟩
    case rest=>
    clear f;obtain⟨bv,rfl,l,f⟩:=hcut;go_upto_if 213 with(fail)
    obtain⟨k,C,hp,F⟩:=f.o;have g:aH (k.length=L):=hp.length_eq.trans Z.o;have I:=bN hp F;by_cases r:gL<e/\e<b
    .as_aux_lemma=>
      obtain rfl:bv=true:=by rw[l.o];simpa using r
      have N:=aP (IH.o B q c L gL e b k _ (by have:=V.o;omega) C g r.1 r.2 hb h3);clear C hp F g r;go_wp2_with fail
      refine N.o.mono ?_;rintro e2 w2 ⟨rfl,A⟩;have J:=aP (fG.trans I.o.1 I.o.2 A);clear A N I;go_wp2_with fail
      go_end0
      exact⟨rfl,J.o⟩
    .as_aux_lemma=>
      obtain rfl:bv=false:=by rw[l.o];simpa using r
      clear C hp F g r;go_wp2_with fail
      go_end0
      exact⟨rfl,f.o⟩
theorem LH:∀n,Ql n
 |0=>λB q c L a m b T w h=>by intros;omega
 |n+1=>λB q c L a m b T w h d e h1 i hb f=>by
  by_cases ha:m=a+1
  .exact Nk B q c L a m b T w d e ha i hb f
  .by_cases g:b=m+1
   .exact Mc B q c L a m b T w d e g aQ hb f
   .exact Ls n (LH n) B q c L a m b T w d e h aQ aQ hb f
end Nt
end
end Go.Proofs.YtacgiflhgdaeaaaGreat
