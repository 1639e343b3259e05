/- Texts laid as one. -/
import Derived.Defers
import Derived.Recover
import Derived.StillTailTactics
import Derived.Test.YtacgiflhgdaeaaaGreatAZ1
import Derived.Test.YtacgiflhgdaeaaaGreatAZ2
import Derived.Test.YtacgiflhgdaeaaaGreatAZ3
set_option linter.unusedVariables false
set_option linter.unusedSimpArgs false
set_option maxRecDepth 100000
set_option maxHeartbeats 20000000
namespace Go.Proofs.YtacgiflhgdaeaaaGreat
open Go.Proofs.Tryz
open Go renaming World->aA,Value->aC,Addr->aJ,Ending->aM,Calls->aG
open Go.RowKit renaming Below->aD,Hid->aH
open Go.Obj renaming cells->aI
section
open Go.RowKit Go.Lib
section
namespace dF
def OQ(g:Nat)(A0:Option aJ)(v r:Int)(L:List En)(h m:Int)(w:aA)(e:aM)(w':aA):Prop:=∃(A:Option aJ) (c:Nat),e= .returned (.tuple #[v,r])/\Tb w' g A c L h m/\Tw w w' g (aY A0)/\(aY A=aY A0\/∀q,aY A=some q->w.heap.size<=q)
variable{w:aA}{g:Nat}{A:Option aJ}{L:List En}{h h' m':Int}
theorem Tb.low{c:Nat}{m:Int}(t:Tb w g A c L h m)(i:Nat)(u:aC)(hb:bF (w.setCell (g,i) u) g 314 #[(A,L.length,c),h',m']):Tb (w.setCell (g,i) u) g A c L h' m':=by
 refine⟨hb,t.2.kept (aZ (bK w g) i u) ?_⟩;cases e:Go.Proofs.YtacgiflhgdaeaaaGreat.aY A with
 |none=>exact .inl rfl
 |some q=>exact .inr (λa=>by injection a with a;have:=(t.2.lt q e).1;omega)
theorem SM(a p:Int)(wr:Bool)(g:Nat)(A:Option aJ)(c:Nat)(L:List En)(h m:Int)(w:aA)(b:Tb w g A c L h m)(hl:L.length<=100)(hf:fi L a p=none):
 aG prog 277 #[.pointer g,a,p,wr] w (OQ g A 0 29 L h (wrap64 (m+1)) w):=by
 have d:=aP (rA g A c L h m a p w b aQ);have hp:wR L a p= -1:=by unfold wR;rw[hf]
 rw[hp] at d;clear hf hp;go_enter func277,ntmps277
 go_wp2_with fail
 refine d.o.mono ?_;rintro e i ⟨rfl,hb⟩;replace b:=b.keep hb;have c2:=b.1.cell 2 m rfl;have f2:=b.1.frozen 2;have f:=aP (b.low 2 (.int .i64 (wrap64 (m+1))) (b.1.bX 2 _));clear b d;go_wp2_with fail
 go_ret2
 exact⟨A,c,rfl,f.o,(Tw.cB hb).bX 2 _, .inl rfl⟩
theorem QR(a p:Int)(g:Nat)(A:Option aJ)(c:Nat)(L:List En)(h m:Int)(i:Nat)(x:En)(w:aA)(b:Tb w g A c L h m)(hl:L.length<=100)(hf:fi L a p=some i)(f:L[i]?=some x)(hw:x.write=false):
 aG prog 277 #[.pointer g,a,p,true] w (OQ g A 0 23 L h m w):=by
 have d:=aP (rA g A c L h m a p w b aQ);have hp:wR L a p=i:=by unfold wR;rw[hf]
 rw[hp] at d;clear hf hp;obtain⟨hi,rfl⟩:=aaN.1 f;rcases b.2.shape with⟨rfl,rfl,rfl⟩|⟨q,rfl⟩
 .exact absurd hi aT
 have j:(0:Int)<=i:=aQ;have k:(i:Int)<(L.length:Int):=aQ;go_enter func277,ntmps277
 go_wp2_with fail
 refine d.o.mono ?_;rintro e r ⟨rfl,hb⟩;replace b:=b.keep hb;have c0:=b.1.cell 0 (.slice q L.length c) rfl;have l:=(DK b.2 hi).2.2.2;rw[hw] at l;have n:=aP b;clear b d f;go_wp2_with fail
 go_ret2
 exact⟨_,c,rfl,n.o,Tw.cB hb, .inl rfl⟩
theorem R1(a p:Int)(wr:Bool)(g:Nat)(A:Option aJ)(c:Nat)(L:List En)(h m:Int)(i:Nat)(x:En)(w:aA)(d:Tb w g A c L h m)(hl:L.length<=100)(hf:fi L a p=some i)(Y:L[i]?=some x)(hw:wr=true->x.write=true):
 aG prog 277 #[.pointer g,a,p,wr] w (OQ g A x.frame 0 (L.eraseIdx i++ [x]) (wrap64 (h+1)) m w):=by
 have P:=aP (rA g A c L h m a p w d aQ);have hp:wR L a p=i:=by unfold wR;rw[hf]
 rw[hp] at P;clear hf hp;obtain⟨hi,v⟩:=aaN.1 Y;clear Y;have C:=aP d.JE;rcases d.2.shape with⟨rfl,rfl,rfl⟩|⟨q,rfl⟩
 .exact absurd hi aT
 have a1:(0:Int)<=i:=aQ;have Q:(i:Int)<(L.length:Int):=aQ;obtain⟨a6,a7⟩:=C.o q rfl;have y:=aP (λW hW=>RN g q c L (wrap64 (h+1)) m i W hW aQ hi);rw[v] at y;have hle:(L.eraseIdx i).length<=100:=aaC (ac3 _ _) hl;go_enter func277,ntmps277
 go_wp2_with fail
 refine P.o.mono ?_;rintro e D ⟨rfl,hb⟩;replace d:=d.keep hb;have c0:=d.1.cell 0 (.slice q L.length c) rfl;have c1:=d.1.cell 1 h rfl;have f1:=d.1.frozen 1;have R:=(DK d.2 hi).2.2.2;rw[v] at R;have N:=aP (d.low 1 (.int .i64 (wrap64 (h+1))) (d.1.bX 1 _));clear d P v;have E:=aP hb;have hz2:=hb.size;clear hb;have F:aH (wr=true->x.write=true):=hw;clear hw;cases wr
 all_goals
  first|(have G:=F.o rfl;rw[G] at R;clear G)|skip
  clear F;go_wp2_with fail
  refine(y.o _ N.o).mono ?_;rintro e j ⟨rfl,t3,z⟩;clear y N c0 c1 f1 R;have hg3:g<j.heap.size:=t3.1.lt;have hz3:D.heap.size<=j.heap.size:=aaC (by simp[World.setCell]) z.size;have H:aH (Tw D j g (aY q)):=((Tw.refl D g _).bX 1 _).trans z;clear z;have b:=bF.new j 396 #[x.env,x.cN,x.frame,x.write];have B:=aX j (aI #[x.env,x.cN,x.frame,x.write] 396);generalize S:L.eraseIdx i=f at *;clear S hi Q;go_upto_region 11 with(fail)
  have I:aH (Tw D (j.alloc (aI #[x.env,x.cN,x.frame,x.write] 396)) g (aY q)):=H.o.trans (Tw.cB B);have t4:=t3.keep B;have Z:j.heap.size<(j.alloc (aI #[x.env,x.cN,x.frame,x.write] 396)).heap.size:=b.lt;clear B t3 H;generalize j.heap.size=b11 at *;generalize j.alloc (aI #[x.env,x.cN,x.frame,x.write] 396)=wc at *;have c0:=t4.1.cell 0 (.slice q f.length c) rfl;have x0:=b.cell 0 x.env rfl;have x1:=b.cell 1 x.cN rfl;have x2:=b.cell 2 x.frame rfl;have x3:=b.cell 3 (.bool x.write) rfl;have hgc:g<wc.heap.size:=t4.1.lt;have l:=aX wc.drew (aI #[x.env,x.cN,x.frame,x.write] 396);have T:=Tb.keep (w:=wc.drew) t4 l;have U:=T.1.cell 0 (.slice q f.length c) rfl;have r:=aP T;have J:=aP l;have K:=aP (bF.keep (w:=wc.drew) b l);clear l T t4 b;go_region_law (refine kS _ rfl (.tmp 53) (.tmp 55) rfl Wl rM (base:=g+1) (xs:=f) r.o.2 (n:=f.length) rfl rfl (m:=1) rfl (ys:= [x]) rfl (Sl.fI rM wc.drew x _ rfl _ rfl) dI aQ (by simp[World.drew];omega) _ rfl (f.length+1) rfl ?_;intro t c5 w5 u s M;(have O:=r.o.1.grown s (λe=>by have:=C.o g e.symm;omega));(have f5:=O.frozen 0);(have z5:=O.cell 0 (.slice q f.length c) rfl))
  all_goals
   have N:aH (Tb (w5.setCell (g,0) (.slice t (f.length+1) c5)) g t c5 (f++ [x]) (wrap64 (h+1)) m):=by
    have:=r.o.slot O u;rw[aaM] at this;exact this
   have V:aH (Tw D (w5.setCell (g,0) (.slice t (f.length+1) c5)) g (aY q)):=((I.o.trans (Tw.cB (Below.drew (Below.refl _ _)))).trans (Tw.cB J.o)).trans (Tw.grown s) |>.bX 0 _;have b:=(K.o.grown s (by simp[aY];omega)).rU (p:=⟨g,0,none⟩) bT (.slice t (f.length+1) c5);have X:aH (aY t=aY q\/∀k,aY t=some k->w.heap.size<=k):=by
    rcases M with e|e
    .exact .inl e
    .exact .inr (λk hk=>by rw[e] at hk;injection hk with hk;simp[World.drew] at hk;have:=E.o.size;omega)
   have y2:=b.cell 2 x.frame rfl;clear b c0 U x0 x1 x2 x3 u s M O f5 z5 r J I K;generalize w5.setCell (g,0) (.slice t (f.length+1) c5)=w6 at *;go_wp2_with fail
   go_ret2
   exact⟨t,c5,rfl,N.o,(Tw.cB E.o).trans V.o,X.o⟩
end dF
end
end
section
open Go.RowKit
variable{r:Option Nat}{v:aC}{q:Nat}{cs:Array aC}{G:Nat->Prop}{W:aA}
section
structure Kp(F:Nat->Prop)(a w:aA):Prop where
 os:w.os=a.os
 tape:w.tape=a.tape
 output:w.output=a.output
 size:a.heap.size<=w.heap.size
 block:∀i,F i->w.heap[i]?=a.heap[i]?
section
variable{F:Nat->Prop}{a w w':aA}{g:Nat}
theorem Kp.refl(F:Nat->Prop)(w:aA):Kp F w w:=⟨rfl,rfl,rfl,Zw _,λ_ _=>rfl⟩
theorem Kp.trans(h:Kp F a w)(k:Kp F w w'):Kp F a w':=
 ⟨k.os.trans h.os,k.tape.trans h.tape,k.output.trans h.output,aaC h.size k.size,λi hi=>(k.block i hi).trans (h.block i hi)⟩
theorem Kp.cB(h:aD a a w)(hF:∀b,F b->b<a.heap.size):Kp F a w:=⟨h.os,h.tape,h.output,h.size,λi hi=>h.block i (hF i hi)⟩
theorem Kp.grown(h:a.grownBy w r)(hF:∀b,F b->b<a.heap.size/\some b≠r):Kp F a w:=⟨h.os,h.tape,h.output,h.size,λi hi=>h.block i (hF i hi).1 (hF i hi).2⟩
theorem Kp.drew(h:Kp F a w):Kp F a w.drew:=⟨h.os,h.tape,h.output,h.size,h.block⟩
theorem Kp.drewN(h:Kp F a w)(n:Nat):Kp F a (w.drewN n):=⟨h.os,h.tape,h.output,h.size,h.block⟩
theorem Kp.cell(h:Kp F a w){p:aJ}(hc:a.cell? p=some v)(hp:F p.block):w.cell? p=some v:=by
 rw[World.cell?_of_block (w:=a) (h.block p.block hp)];exact hc
theorem Kp.aY(h:Kp F a w){t:TypeId}(hc:bF a q t cs)(hq:F q):bF w q t cs:=(h.block q hq).trans hc
theorem Kp.mono(h:Kp F a w)(c:∀b,G b->F b):Kp G a w:=⟨h.os,h.tape,h.output,h.size,λi hi=>h.block i (c i hi)⟩
theorem Kp.low{B:Nat}(h:Kp F a w)(hF:∀b,b<B->F b):aD B a w:=⟨h.os,h.tape,h.output,h.size,λi hi=>h.block i (hF i hi)⟩
end
theorem rG{F:aA->Prop}(Φ:aA->Prop)(h:Φ W)(k:∀b,Φ b->F b):F W:=k W h
end
variable{P:Program}{f:FuncId}{w:aA}{id:Nat}{Q:Exit->Act->aA->Prop}
section
structure GG(C:aA->Prop) where
 w:aA
 ok:C w
theorem vO{C:aA->Prop}{p:aJ}(h:∀w,C w->w.cell? p=some v):∀n:GG C,n.w.cell? p=some v:=λn=>h n.w n.ok
theorem I5{C:aA->Prop}{args:Array aC}{n:GG C}(h:∀w,C w->aG P f args w λe w'=>e= .returned v/\C w'):
 aG P f args n.w λe a=>e= .returned v/\∃m:GG C,a=m.w:=
 (h n.w n.ok).mono λ_ w' ⟨he,hb⟩=>⟨he,⟨w',hb⟩,rfl⟩
theorem ME{C:aA->Prop}(h:∃n:GG C,w=n.w):C w:=by
 obtain⟨n,rfl⟩:=h;exact n.ok
theorem xJ{a:Act}{l:List Oper}(C:aA->Prop)(b:C W.drew)(hm:P.follows .mixedOrders=true)(c:Region.lexB .any l.toArray=true)
 (h:wpQuiet P l.toArray (λw'=>∃n:GG C,w'=n.w) (λa'=>∀w',(∃n:GG C,w'=n.w)->Q .normal a' w') l a):(Code.region id l.toArray true).wp P Q a W:=
 wp_region_quiet (C:=λw'=>∃n:GG C,w'=n.w) hm c ⟨⟨_,b⟩,rfl⟩ (by simpa using h)
end
namespace Pa.Cp
theorem JX(g:Nat)(k a x:Int)(v0 v1 v2:aC)(b:List PanicEntry)(w:aA)(bk:bF w g 77 #[v0,v1,v2]):
 CallsD prog 175 #[.pointer g] (.panicking ({v:= .iface 77 (.agg #[k,a, .int .u64 x]),recovered:=false}::b)) w λe f w'=>
  e= .returned (.tuple #[])/\f= .panicking ({v:= .iface 77 (.agg #[k,a, .int .u64 x]),recovered:=true}::b)/\w.grownBy w' (some g)/\bF w' g 77 #[k,a, .int .u64 x]:=by
 refine callsD_of_wpS func175 rfl λj cs hu=>?_
 apply wpS_seq;apply wpS_region;simp[wpOpsS,go_sem,recoverD,hu,ntmps175,Exit.thenS];refine wpS_of_wp ?_;generalize c:(λ(e:Exit) (a':Act) (w':aA)=>_)=Q';replace c:=aP c;replace hu:=aP hu;have h:∀(v:aC) (W:aA),(Instr.typeAssert (.iface 77 v) 20 77 true).run prog W= .ok (.tuple #[v,true]) W:=λv W=>by simp[Instr.typeAssert,go_sem]
 have c0:=bk.cell 0 v0 rfl;have c1:=bk.cell 1 v1 rfl;have c2:=bk.cell 2 v2 rfl;have f0:=bk.frozen 0;have f1:=bk.frozen 1;have f2:=bk.frozen 2;have hl:=bk.lt;simp only[Array.replicate_succ,Array.replicate_zero];go_simp
 go_wp2_with fail
 have i:=XD (aZ (aZ (aZ (bK w g) 0 (.int .i64 k)) 1 (.int .i64 a)) 2 (.int .u64 x)) (aI #[k,a, .int .u64 x] 77);have d:=(((bk.bX 0 k).bX 1 a).bX 2 (.int .u64 x)).alloc (aI #[k,a, .int .u64 x] 77);have c:=c.o;rw[<-c];have hu:=hu.o;exact⟨rfl,_,rfl, .tuple #[],by simp[results,results175,go_sem],rfl,rfl,i,d⟩
theorem XO(g:Nat)(w:aA):CallsD prog 175 #[.pointer g] .returning w λe b w'=>e= .returned (.tuple #[])/\b= .returning/\w'=w:=by
 refine callsD_of_wpS func175 rfl λc cs hu=>?_
 apply wpS_seq;apply wpS_region;simp[wpOpsS,go_sem,recoverD,hu,ntmps175,Exit.thenS];refine wpS_of_wp ?_;generalize a:(λ(e:Exit) (a':Act) (w':aA)=>_)=Q';replace a:=aP a;replace hu:=aP hu;simp only[Array.replicate_succ,Array.replicate_zero];go_simp
 go_wp2_with fail
 have a:=a.o;rw[<-a];cases c;have hu:=hu.o;simp_all[bodyPostS,results,results175]
theorem I0(f c o:Nat)(k x a:Int)(w:aA)(b:w.cell? (f,0)=some (.pointer (some ⟨c,o,none⟩)))(ca:w.cell? (c,o+8)=some (.int .i64 a)):aG prog 221 #[.pointer f,k, .int .u64 x] w λe w'=>e= .panicked [{v:= .iface 77 (.agg #[k,a, .int .u64 x]),recovered:=false}]/\w=w':=by
 go_enter func221,ntmps221
 go_wp2
 simp[bodyPost]
end Pa.Cp
namespace Pa.Cp
structure Gc where
 b:Nat
 o:Nat
 D:Array aC
def pL(g:Gc)(R:List Int)(p:Int):List aC:=g.D.toList.take g.o++((R.map (Value.int .u64)++ [Value.int .i64 p])++g.D.toList.drop (g.o+9))
def pC(g:Gc)(R:List Int)(p:Int):Array aC:=(pL g R p).toArray
end Pa.Cp
end
section
open Go.RowKit Go.Lib
open dF (En Tb Tw fi pP ld lk qD OQ SM QR R1)
open Fr (dX Fm fL rO iW zG wU VO)
section
namespace Pa.Cp
variable{R:List Int}{p:Int}{i:Nat}
theorem Ke(g:Gc)(a:R.length=8)(hi:i<=8)(b:g.o<=g.D.size):(pC g R p)[g.o+i]?=(R.map (Value.int .u64)++ [Value.int .i64 p])[i]?:=by
 unfold pC pL;have hl:(g.D.toList.take g.o).length=g.o:=bT;rw[aaR,aaJ aQ,hl,ad8,aaV bT]
variable{R':List Int}{p':Int}{v:aC}
theorem YO(g:Gc)(a:R.length=8)(hi:i<=8)(b:g.o<=g.D.size)(h:(R.map (Value.int .u64)++ [Value.int .i64 p]).set i v=R'.map (Value.int .u64)++ [Value.int .i64 p']):(pC g R p).setIfInBounds (g.o+i) v=pC g R' p':=by
 unfold pC pL;have hl:(g.D.toList.take g.o).length=g.o:=bT;rw[Zx,aaQ _ _ aQ,hl,ad8,acA _ _ bT,h]
theorem Ra(g:Gc)(a:R.length=8)(b:g.o<=g.D.size)(hi:i<=7):(pC g R p)[g.o+i]?=some (.int .u64 (rat R i)):=by
 rw[Ke g a aQ b];unfold rat;rw[aaV bT,acS,Zv aQ];rfl
theorem Uf(g:Gc)(a:R.length=8)(b:g.o<=g.D.size):(pC g R p)[g.o+8]?=some (.int .i64 p):=by
 rw[Ke g a aQ b,aaJ bT];simp[a]
theorem Px(g:Gc)(a:R.length=8)(b:g.o<=g.D.size)(hi:i<=7)(v:Int):(pC g R p).setIfInBounds (g.o+i) (.int .u64 v)=pC g (R.set i v) p:=by
 refine YO g a aQ b ?_;rw[acA _ _ bT,ab6]
theorem Uz(g:Gc)(a:R.length=8)(b:g.o<=g.D.size)(q:Int):(pC g R p).setIfInBounds (g.o+8) (.int .i64 q)=pC g R q:=by
 refine YO g a aQ b ?_;rw[aaQ _ _ bT];simp[a]
theorem FO(h:EY R)(i:Nat):0<=rat R i/\rat R i<18446744073709551616:=by
 unfold rat;cases a:R[i]? with
 |none=>simp
 |some v=>exact h.2 v (abV a)
theorem FZ(h:EY R)(i:Nat){v:Int}(a:0<=v)(h1:v<18446744073709551616):EY (R.set i v):=by
 refine⟨by simpa using h.1,λu hu=>?_⟩;rcases abC hu with hu|rfl
 .exact h.2 u hu
 .exact⟨a,h1⟩
structure Mq(F:Nat->Prop)(w:aA)(gt gf:Nat)(gc:Gc)(A:Option aJ)(c:Nat)(L:List En)(h m:Int)(T:Int->Tt)(st:St):Prop where
 tb:Tb w gt A c L h m
 fm:Fm w gf st.s
 cp:bF w gc.b 139 (pC gc st.R st.pc)
 rg:EY st.R
 og:gc.o<=gc.D.size
 C4:qD L
 len:L.length<=16
 tt:nD L=T
 tf:gt≠gf
 tc:gt≠gc.b
 fc:gf≠gc.b
 af:Go.Proofs.YtacgiflhgdaeaaaGreat.aY A≠some gf
 ac:Go.Proofs.YtacgiflhgdaeaaaGreat.aY A≠some gc.b
 off:∀i,F i->i<w.heap.size/\i≠gt/\i≠gf/\i≠gc.b/\Go.Proofs.YtacgiflhgdaeaaaGreat.aY A≠some i
def Mo(F:Nat->Prop)(w:aA)(gt gf:Nat)(gc:Gc)(T:Int->Tt)(st:St):Prop:=∃A c L h m,Mq F w gt gf gc A c L h m T st
variable{G:Nat->Prop}{s':dX}{A':Option aJ}{c':Nat}{L':List En}{h' m':Int}{ja:Int->Tt}
section
variable{F:Nat->Prop}{w w':aA}{gt gf:Nat}{gc:Gc}{A:Option aJ}{c:Nat}{L:List En}{h m:Int}{T:Int->Tt}{st:St}
theorem Mq.keep(q:Mq F w gt gf gc A c L h m T st)(hb:aD w w w'):Mq F w' gt gf gc A c L h m T st:=
 ⟨q.tb.keep hb,q.fm.keep hb,q.cp.keep hb,q.rg,q.og,q.C4,q.len,q.tt,q.tf,q.tc,q.fc,q.af,q.ac,λi hi=>⟨Zy (q.off i hi).1 hb.size,(q.off i hi).2⟩⟩
theorem Mo.keep(q:Mo F w gt gf gc T st)(hb:aD w w w'):Mo F w' gt gf gc T st:=by
 obtain⟨A,c,L,h,m,q⟩:=q;exact⟨A,c,L,h,m,q.keep hb⟩
theorem Mo.lt(q:Mo F w gt gf gc T st):∀i,F i->i<w.heap.size:=λi hi=>by
 obtain⟨A,c,L,h,m,q⟩:=q;exact(q.off i hi).1
theorem Mo.less(q:Mo F w gt gf gc T st)(a:∀i,G i->F i):Mo G w gt gf gc T st:=by
 obtain⟨A,c,L,h,m,q⟩:=q;exact⟨A,c,L,h,m,q.tb,q.fm,q.cp,q.rg,q.og,q.C4,q.len,q.tt,q.tf,q.tc,q.fc,q.af,q.ac,λi hi=>q.off i (a i hi)⟩
theorem Mo.box(q:Mo F w gt gf gc T st)(o:Obj):Mo (λi=>F i\/i=w.heap.size) (w.alloc o) gt gf gc T st:=by
 obtain⟨A,c,L,h,m,q⟩:=q;have k:=q.keep (aX w o);refine⟨A,c,L,h,m,k.tb,k.fm,k.cp,k.rg,k.og,k.C4,k.len,k.tt,k.tf,k.tc,k.fc,k.af,k.ac,λi hi=>?_⟩;rcases hi with hi|rfl
 .exact k.off i hi
 .exact⟨aT,by have:=q.tb.1.lt;omega,by have:=q.fm.at_.lt;omega,by have:=q.cp.lt;omega,λe=>by have:=(q.tb.JE _ e).2;omega⟩
theorem Mo.kp(q:Mo F w gt gf gc T st)(hb:aD w w w'):Kp F w w':=Kp.cB hb q.lt
theorem Mo.QY(q:Mo F w gt gf gc T st):EY st.R:=by
 obtain⟨A,c,L,h,m,q⟩:=q;exact q.rg
theorem Mo.c8(q:Mo F w gt gf gc T st):w.cell? (gc.b,gc.o+8)=some (.int .i64 st.pc):=by
 obtain⟨A,c,L,h,m,q⟩:=q;exact q.cp.cell (gc.o+8) _ (Uf gc q.rg.1 q.og)
theorem Mo.Kq(q:Mo F w gt gf gc T st)(hi:i<=7):w.cell? (gc.b,gc.o+i)=some (.int .u64 (rat st.R i)):=by
 obtain⟨A,c,L,h,m,q⟩:=q;exact q.cp.cell (gc.o+i) _ (Ra gc q.rg.1 q.og hi)
theorem Mo.frozen(q:Mo F w gt gf gc T st)(i:Nat):w.frozen? (gc.b,gc.o+i)=false:=by
 obtain⟨A,c,L,h,m,q⟩:=q;exact q.cp.frozen (gc.o+i)
theorem Mo.fr(q:Mo F w gt gf gc T st):Fm w gf st.s:=by
 obtain⟨A,c,L,h,m,q⟩:=q;exact q.fm
theorem Mo.qC(q:Mo F w gt gf gc T st):bF w gc.b 139 (pC gc st.R st.pc):=by
 obtain⟨A,c,L,h,m,q⟩:=q;exact q.cp
theorem Mo.og(q:Mo F w gt gf gc T st):gc.o<=gc.D.size:=by
 obtain⟨A,c,L,h,m,q⟩:=q;exact q.og
theorem Mo.drewN(q:Mo F w gt gf gc T st)(k:Nat):Mo F (w.drewN k) gt gf gc T st:=by
 obtain⟨A,c,L,h,m,q⟩:=q;exact⟨A,c,L,h,m,q.keep (fD (Below.refl _ w) k)⟩
theorem Mo.drew(q:Mo F w gt gf gc T st):Mo F w.drew gt gf gc T st:=q.drewN 1
theorem Mo.Qy(q:Mo F w gt gf gc T st)(i:Nat)(v:aC)(d:(pC gc st.R st.pc).setIfInBounds (gc.o+i) v=pC gc R' p')(f:EY R'):Mo F (w.setCell (gc.b,gc.o+i) v) gt gf gc T ⟨R',p',st.s⟩/\Kp F w (w.setCell (gc.b,gc.o+i) v):=by
 obtain⟨A,c,L,h,m,q⟩:=q;have a:=aZ (bK w gc.b) (gc.o+i) v;have hc:=q.cp.bX (gc.o+i) v;rw[d] at hc;refine⟨⟨A,c,L,h,m,q.tb.only a q.tc q.ac,⟨q.fm.n0,q.fm.t,q.fm.b,q.fm.at_.grown a (by simpa using q.fc)⟩,hc,f,q.og,q.C4,q.len,q.tt,q.tf,q.tc,q.fc,q.af,q.ac,λi hi=>⟨Zy (q.off i hi).1 a.size,(q.off i hi).2⟩⟩,Kp.grown a λi hi=>⟨(q.off i hi).1,λe=>(q.off i hi).2.2.2.1 (by injection e)⟩⟩
theorem Mo.vT(q:Mo F w gt gf gc T st)(hi:i<=7){v:Int}(a:0<=v)(h1:v<18446744073709551616):Mo F (w.setCell (gc.b,gc.o+i) (.int .u64 v)) gt gf gc T ⟨st.R.set i v,st.pc,st.s⟩/\Kp F w (w.setCell (gc.b,gc.o+i) (.int .u64 v)):=
 q.Qy i _ (Px gc q.QY.1 q.og hi v) (FZ q.QY i a h1)
theorem Mo.Xr(q:Mo F w gt gf gc T st)(p:Int):Mo F (w.setCell (gc.b,gc.o+8) p) gt gf gc T ⟨st.R,p,st.s⟩/\Kp F w (w.setCell (gc.b,gc.o+8) p):=
 q.Qy 8 _ (Uz gc q.QY.1 q.og p) q.QY
theorem Mo.Sq(q:Mo F w gt gf gc T st)(hf:Fm w' gf s')(a:w.grownBy w' (some gf)):Mo F w' gt gf gc T ⟨st.R,st.pc,s'⟩/\Kp F w w':=by
 obtain⟨A,c,L,h,m,q⟩:=q;exact⟨⟨A,c,L,h,m,q.tb.only a q.tf q.af,hf,q.cp.grown a (λe=>q.fc (by injection e with e;exact e.symm)),q.rg,q.og,q.C4,q.len,q.tt,q.tf,q.tc,q.fc,q.af,q.ac,λi hi=>⟨Zy (q.off i hi).1 a.size,(q.off i hi).2⟩⟩,Kp.grown a λi hi=>⟨(q.off i hi).1,λe=>(q.off i hi).2.2.1 (by injection e)⟩⟩
theorem Mq.Ft(q:Mq F w gt gf gc A c L h m T st)(n:Tb w' gt A' c' L' h' m')(hw:Tw w w' gt (Go.Proofs.YtacgiflhgdaeaaaGreat.aY A))(a:Go.Proofs.YtacgiflhgdaeaaaGreat.aY A'=Go.Proofs.YtacgiflhgdaeaaaGreat.aY A\/∀q,Go.Proofs.YtacgiflhgdaeaaaGreat.aY A'=some q->w.heap.size<=q)
 (hu:qD L') (hl:L'.length<=16) (o:nD L'=ja):Mo F w' gt gf gc ja st/\Kp F w w':=by
 have p:=hw.size;have k:∀i,i<w.heap.size->Go.Proofs.YtacgiflhgdaeaaaGreat.aY A≠some i->Go.Proofs.YtacgiflhgdaeaaaGreat.aY A'≠some i:=λi hi d e=>by
  rcases a with a|a
  .exact d (a.symm.trans e)
  .have:=a i e;omega
 refine⟨⟨A',c',L',h',m',n,⟨q.fm.n0,q.fm.t,q.fm.b,hw.aY q.fm.at_ q.tf.symm (acT q.af)⟩,hw.aY q.cp q.tc.symm (acT q.ac),q.rg,q.og,hu,hl,o,q.tf,q.tc,q.fc,k _ q.fm.at_.lt q.af,k _ q.cp.lt q.ac,λi hi=>?_⟩,⟨hw.os,hw.tape,hw.output,hw.size,λi hi=>?_⟩⟩
 .obtain⟨h1,f,j,l,g⟩:=q.off i hi;exact⟨aQ,f,j,l,k i h1 g⟩
 .obtain⟨h1,f,j,l,g⟩:=q.off i hi;exact hw.block i h1 f (acT g)
end
def gO(p:Int):Except (Int×Int) aC->aM
 | .ok v=> .returned v
 | .error z=> .panicked [{v:= .iface 77 (.agg #[z.1,p, .int .u64 z.2]),recovered:=false}]
def zH(t:Tt)(p:Int)(wr:Bool):aC:=match t p with
 |none=> .tuple #[aU, .int .i64 29]
 |some q=>if wr=true/\q.2=false then .tuple #[aU, .int .i64 23] else .tuple #[q.1,aU]
theorem Ll(F:Nat->Prop)(gt gf:Nat)(gc:Gc)(T:Int->Tt)(st:St)(env p:Int)(wr:Bool)(w:aA)(q:Mo F w gt gf gc T st):
 aG prog 277 #[.pointer gt,env,p,wr] w λe w'=>e= .returned (zH (T env) p wr)/\Mo F w' gt gf gc T st/\Kp F w w':=by
 obtain⟨A,c,L,h,m,q⟩:=q;have a:=Sr q.C4 env p;have b:=Bq q.C4 env p;have d:=Pq L env p;unfold lk at a b d;have hl:=q.len;have k:=q.tt;subst k;unfold zH;cases hf:fi L env p with
 |none=>
  rw[hf] at a b d;rw[Hk hf];refine(SM env p wr gt A c L h m w q.tb aQ hf).mono ?_;rintro e w' ⟨A',l,rfl,f,hw,g⟩;have:=q.Ft f hw g q.C4 q.len q.tt;exact⟨rfl,this.1,this.2⟩
 |some i=>
  obtain⟨hi,_,_⟩:=pP hf;have j:L[i]?=some L[i]:=Zv hi;rw[Gg hf j];rw[hf] at a b d;simp only[j,adT] at a b d;generalize L[i]=x at *;by_cases hc:wr=true/\x.write=false
  .simp only[Zz hc];obtain⟨rfl,hc⟩:=hc;refine(QR env p gt A c L h m i x w q.tb aQ hf j hc).mono ?_;rintro e w' ⟨A',l,rfl,f,hw,g⟩;have:=q.Ft f hw g q.C4 q.len q.tt;exact⟨rfl,this.1,this.2⟩
  .simp only[aaA hc];refine(R1 env p wr gt A c L h m i x w q.tb aQ hf j (λe=>by cases hb:x.write with|true=>rfl|false=>exact absurd ⟨e,hb⟩ hc)).mono ?_;rintro e w' ⟨A',l,rfl,f,hw,g⟩;have:=q.Ft f hw g b (by rw[d];exact q.len) a;exact⟨rfl,this.1,this.2⟩
theorem pU(f:Nat)(k x p:Int)(gc:Gc)(w:aA)(a:w.cell? (f,0)=some (.pointer (some ⟨gc.b,gc.o,none⟩)))(ca:w.cell? (gc.b,gc.o+8)=some (.int .i64 p)):aG prog 221 #[.pointer f,k, .int .u64 x] w λe w'=>e=gO p (.error (k,x))/\w=w':=
 I0 f gc.b gc.o k x p w a ca
structure Fg(w:aA)(f gt gf:Nat)(gc:Gc)(C:Option aJ)(cl cc:Nat)(env:Int):Prop where
 c0:w.cell? (f,0)=some (.pointer (some ⟨gc.b,gc.o,none⟩))
 c1:w.cell? (f,1)=some (.slice C cl cc)
 c2:w.cell? (f,2)=some (.int .i64 env)
 c3:w.cell? (f,3)=some (.pointer gt)
 c4:w.cell? (f,4)=some (.pointer gf)
variable{F:Nat->Prop}{w w':aA}{gt gf cl cc:Nat}{gc:Gc}
theorem Fg.kp{f:Nat}{C:Option aJ}{env:Int}(h:Fg w f gt gf gc C cl cc env)(k:Kp F w w')(hf:F f):Fg w' f gt gf gc C cl cc env:=
 ⟨k.cell h.c0 hf,k.cell h.c1 hf,k.cell h.c2 hf,k.cell h.c3 hf,k.cell h.c4 hf⟩
theorem Fg.keep{f:Nat}{C:Option aJ}{env:Int}(h:Fg w f gt gf gc C cl cc env)(hb:aD w w w'):Fg w' f gt gf gc C cl cc env:=
 ⟨bG hb h.c0,bG hb h.c1,bG hb h.c2,bG hb h.c3,bG hb h.c4⟩
def Oy(F:Nat->Prop)(gt gf:Nat)(gc:Gc)(T:Int->Tt)(st:St)(r:Except (Int×Int) aC)(w:aA)(e:aM)(w':aA):Prop:=e=gO st.pc r/\Mo F w' gt gf gc T st/\Kp F w w'
def vY(r:Except (Int×Int) Int)(k:IntKind):Except (Int×Int) aC:=match r with
 | .ok v=> .ok (.int k v)
 | .error z=> .error z
theorem N6(F:Nat->Prop)(f gt gf:Nat)(gc:Gc)(C:Option aJ)(cl cc:Nat)(env:Int)(T:Int->Tt)(st:St)(g:Int)(wr:Bool)(w:aA)(q:Mo F w gt gf gc T st)(hl:Fg w f gt gf gc C cl cc env)(hf:F f)(v:0<=g)(h1:g<18446744073709551616):
 aG prog 253 #[.pointer f, .int .u64 g,wr] w (Oy F gt gf gc T st (vY (JQ (T env) g wr) .i64) w):=by
 have i:=λW (s:Mo F W gt gf gc T st/\Kp F w W)=>(Ll F gt gf gc T st env (g /16) wr W s.1).mono (λe w' ⟨he,hq,hk⟩=>And.intro he (And.intro hq (s.2.trans hk)))
 have HQ:=aP q;unfold JQ;have c2:=hl.c2;have c3:=hl.c3;have t:aH (Fg w f gt gf gc C cl cc env):=hl;have j:aH (F f):=hf;have y:IntKind.i64.wrap (g /16)=g /16:=by rw[IntKind.wrap_i64];omega
 clear hl hf q;cases p:T env (g /16) with
 |none=>
  have k:zH (T env) (g /16) wr= .tuple #[aU, .int .i64 29]:=by unfold zH;rw[p]
  rw[k] at i;have n:aH (∀W,(Mo F W gt gf gc T st/\Kp F w W)->aG prog 277 #[.pointer gt,env, .int .i64 (g /16),wr] W λe w'=>e= .returned (.tuple #[aU, .int .i64 29])/\(Mo F w' gt gf gc T st/\Kp F w w')):=i;clear i k;simp only[vY];go_enter func253,ntmps253
  go_wp2_with fail
  (have a:=vO (C:=λW=>Mo F W gt gf gc T st/\Kp F w W) (λW h=>h.2.cell c2 j.o);have b:=vO (C:=λW=>Mo F W gt gf gc T st/\Kp F w W) (λW h=>h.2.cell c3 j.o);haveI ncls_:Nonempty (GG (λW=>Mo F W gt gf gc T st/\Kp F w W)):=⟨⟨_,⟨HQ.o.drew,(Kp.refl F w).drew⟩⟩⟩;refine xJ (λW=>Mo F W gt gf gc T st/\Kp F w W) (⟨HQ.o.drew,(Kp.refl F w).drew⟩) aV aV ?_;(repeat (go_big_quiet_step ((go_at_call 277;with_reducible exact I5 n.o))));refine wpQuiet_nil ?_;clear ncls_;clear a b;intro r d;have hC:=ME d;clear d)
  obtain⟨hq,hk⟩:=hC;have l:=aP (t.o.kp hk j.o);clear c2 c3;have c0:=l.o.c0;have c8:=hq.c8;go_wp2_with fail
  refine(pU f 5 g st.pc gc r c0 c8).mono ?_;rintro e u ⟨rfl,rfl⟩;simp only[bodyPost,gO];exact⟨trivial,rfl,hq,hk⟩
 |some x=>
  simp only;by_cases hc:wr=true/\x.2=false
  .rw[Zz hc];have k:zH (T env) (g /16) wr= .tuple #[aU, .int .i64 23]:=by unfold zH;rw[p];simp only;rw[Zz hc]
   rw[k] at i;have n:aH (∀W,(Mo F W gt gf gc T st/\Kp F w W)->aG prog 277 #[.pointer gt,env, .int .i64 (g /16),wr] W λe w'=>e= .returned (.tuple #[aU, .int .i64 23])/\(Mo F w' gt gf gc T st/\Kp F w w')):=i;clear i k;clear hc;simp only[vY];go_enter func253,ntmps253
   go_wp2_with fail
   (have a:=vO (C:=λW=>Mo F W gt gf gc T st/\Kp F w W) (λW h=>h.2.cell c2 j.o);have b:=vO (C:=λW=>Mo F W gt gf gc T st/\Kp F w W) (λW h=>h.2.cell c3 j.o);haveI ncls_:Nonempty (GG (λW=>Mo F W gt gf gc T st/\Kp F w W)):=⟨⟨_,⟨HQ.o.drew,(Kp.refl F w).drew⟩⟩⟩;refine xJ (λW=>Mo F W gt gf gc T st/\Kp F w W) (⟨HQ.o.drew,(Kp.refl F w).drew⟩) aV aV ?_;(repeat (go_big_quiet_step ((go_at_call 277;with_reducible exact I5 n.o))));refine wpQuiet_nil ?_;clear ncls_;clear a b;intro r d;have hC:=ME d;clear d)
   obtain⟨hq,hk⟩:=hC;have l:=aP (t.o.kp hk j.o);clear c2 c3;have c0:=l.o.c0;have c8:=hq.c8;go_wp2_with fail
   refine(pU f 6 g st.pc gc r c0 c8).mono ?_;rintro e u ⟨rfl,rfl⟩;simp only[bodyPost,gO];exact⟨trivial,rfl,hq,hk⟩
  .rw[aaA hc];have k:zH (T env) (g /16) wr= .tuple #[x.1,aU]:=by unfold zH;rw[p];simp only;rw[aaA hc]
   rw[k] at i;have n:aH (∀W,(Mo F W gt gf gc T st/\Kp F w W)->aG prog 277 #[.pointer gt,env, .int .i64 (g /16),wr] W λe w'=>e= .returned (.tuple #[x.1,aU])/\(Mo F w' gt gf gc T st/\Kp F w w')):=i;clear i k;clear hc p;simp only[vY];go_enter func253,ntmps253
   go_wp2_with fail
   (have a:=vO (C:=λW=>Mo F W gt gf gc T st/\Kp F w W) (λW h=>h.2.cell c2 j.o);have b:=vO (C:=λW=>Mo F W gt gf gc T st/\Kp F w W) (λW h=>h.2.cell c3 j.o);haveI ncls_:Nonempty (GG (λW=>Mo F W gt gf gc T st/\Kp F w W)):=⟨⟨_,⟨HQ.o.drew,(Kp.refl F w).drew⟩⟩⟩;refine xJ (λW=>Mo F W gt gf gc T st/\Kp F w W) (⟨HQ.o.drew,(Kp.refl F w).drew⟩) aV aV ?_;(repeat (go_big_quiet_step ((go_at_call 277;with_reducible exact I5 n.o))));refine wpQuiet_nil ?_;clear ncls_;clear a b;intro r d;have hC:=ME d;clear d)
   obtain⟨hq,hk⟩:=hC;clear c2 c3;go_wp2_with fail
   go_ret
   exact⟨rfl,hq,hk⟩
end Pa.Cp
end
end
section
open Go.RowKit Go.Lib
open Fr (dX Fm fL rO iW zG wU VO)
namespace Pa.Cp
def QT(r:Except (Int×Int) dX):Except (Int×Int) aC:=match r with
 | .ok _=> .ok (.tuple #[])
 | .error z=> .error z
def Ej(st:St)(r:Except (Int×Int) dX):St:=match r with
 | .ok s=>⟨st.R,st.pc,s⟩
 | .error _=>st
def Xs(F:Nat->Prop)(gt gf:Nat)(gc:Gc)(T:Int->Tt)(st:St)(r:Except (Int×Int) dX)(w:aA)(e:aM)(w':aA):Prop:=e=gO st.pc (QT r)/\Mo F w' gt gf gc T (Ej st r)/\Kp F w w'
theorem SO(F:Nat->Prop)(f gt gf:Nat)(gc:Gc)(C:Option aJ)(cl cc:Nat)(env:Int)(T:Int->Tt)(st:St)(a:Int)(w:aA)(q:Mo F w gt gf gc T st)(hl:Fg w f gt gf gc C cl cc env)(hf:F f)(l:0<=a)(h1:a<18446744073709551616):
 aG prog 222 #[.pointer f, .int .u64 a] w (Oy F gt gf gc T st (vY (GU (T env) st.s a) .u64) w):=by
 have c:=aP (N6 F f gt gf gc C cl cc env T st a false w q hl hf l h1);have i:aH (Fg w f gt gf gc C cl cc env):=hl;have j:aH (F f):=hf;have n:IntKind.i64.wrap (a%16)=a%16:=by rw[IntKind.wrap_i64];omega
 clear hl hf;unfold GU;cases d:JQ (T env) a false with
 |error z=>
  rw[d] at c;simp only[vY] at c⊢;go_enter func222,ntmps222
  go_wp2_with fail
  refine c.o.mono ?_;rintro e g ⟨rfl,hq,hk⟩;simp only[gO];go_wp2_with fail
  simp only[bodyPost,gO];exact⟨trivial,rfl,hq,hk⟩
 |ok fr=>
  rw[d] at c;simp only[vY] at c;simp only;by_cases hb:fL st.s fr (a%16)=0
  .rw[Zz hb];simp only[vY];go_enter func222,ntmps222
   go_wp2_with fail
   refine c.o.mono ?_;rintro e g ⟨rfl,hq,hk⟩;simp only[gO];have b:=aP (i.o.kp hk j.o);have c4:=b.o.c4;have h:=aP (zG st.s gf fr (a%16) g hq.fr);rw[hb] at h;go_wp2_with fail
   refine h.o.mono ?_;rintro e k ⟨rfl,rfl⟩;go_wp2_with fail
   go_ret
   exact⟨rfl,hq,hk⟩
  .rw[aaA hb];simp only[vY];go_enter func222,ntmps222
   go_wp2_with fail
   refine c.o.mono ?_;rintro e g ⟨rfl,hq,hk⟩;simp only[gO];have b:=aP (i.o.kp hk j.o);have c4:=b.o.c4;have c0:=b.o.c0;have c8:=hq.c8;have h:=aP (zG st.s gf fr (a%16) g hq.fr);have m:(fL st.s fr (a%16) !=0)=true:=by simp[hb]
   generalize fL st.s fr (a%16)=z at *;clear hb;go_wp2_with fail
   refine h.o.mono ?_;rintro e k ⟨rfl,rfl⟩;go_wp2_with fail
   refine(pU f 5 a st.pc gc g c0 c8).mono ?_;rintro e k ⟨rfl,rfl⟩;simp only[bodyPost,gO];exact⟨trivial,rfl,hq,hk⟩
theorem RK(F:Nat->Prop)(f gt gf:Nat)(gc:Gc)(C:Option aJ)(cl cc:Nat)(env:Int)(T:Int->Tt)(st:St)(a v:Int)(w:aA)(q:Mo F w gt gf gc T st)(hl:Fg w f gt gf gc C cl cc env)(hf:F f)(t:0<=a)(h1:a<18446744073709551616)(v0:0<=v)(v1:v<18446744073709551616):
 aG prog 223 #[.pointer f, .int .u64 a, .int .u64 v] w (Xs F gt gf gc T st (stM (T env) st.s a v) w):=by
 have g:=aP (N6 F f gt gf gc C cl cc env T st a true w q hl hf t h1);have p:aH (Fg w f gt gf gc C cl cc env):=hl;have m:aH (F f):=hf;have x:IntKind.i64.wrap (a%16)=a%16:=by rw[IntKind.wrap_i64];omega
 clear hl hf;unfold stM;cases h:JQ (T env) a true with
 |error z=>
  rw[h] at g;simp only[vY] at g;go_enter func223,ntmps223
  go_wp2_with fail
  refine g.o.mono ?_;rintro e l ⟨rfl,hq,hk⟩;simp only[gO];go_wp2_with fail
  simp only[bodyPost,gO];exact⟨trivial,rfl,hq,hk⟩
 |ok fr=>
  rw[h] at g;simp only[vY] at g;simp only;by_cases hb:fL st.s fr (a%16)=0
  .rw[Zz hb];go_enter func223,ntmps223
   go_wp2_with fail
   refine g.o.mono ?_;rintro e l ⟨rfl,hq,hk⟩;simp only[gO];have b:=aP (p.o.kp hk m.o);have c4:=b.o.c4;have i:=aP (wU st.s gf fr (a%16) (v%256) l hq.fr);rw[hb] at i;go_wp2_with fail
   refine aR i ?_;rintro e r ⟨rfl,c,d⟩;have j:=aP (hq.Sq c d);go_wp2_with fail
   go_end0
   exact⟨rfl,j.o.1,hk.trans j.o.2⟩
  .rw[aaA hb];go_enter func223,ntmps223
   go_wp2_with fail
   refine g.o.mono ?_;rintro e l ⟨rfl,hq,hk⟩;simp only[gO];have b:=aP (p.o.kp hk m.o);have c4:=b.o.c4;have i:=aP (wU st.s gf fr (a%16) (v%256) l hq.fr);have u:(fL st.s fr (a%16) !=0)=true:=by simp[hb]
   have k:iW st.s fr (a%16) (v%256)=st.s:=by unfold iW;rw[aaA hb]
   rw[k] at i;generalize fL st.s fr (a%16)=z at *;clear hb k;go_wp2_with fail
   refine aR i ?_;rintro e r ⟨rfl,c,d⟩;have hp:=hq.Sq c d;have n:=aP (b.o.kp hp.2 m.o);have c0:=n.o.c0;have c8:=hp.1.c8;have j:=aP hp;clear hp c d c4;go_wp2_with fail
   refine(pU f 5 a st.pc gc r c0 c8).mono ?_;rintro e y ⟨rfl,rfl⟩;simp only[bodyPost,gO];exact⟨trivial,rfl,j.o.1,hk.trans j.o.2⟩
theorem Gj(f:Nat)(b c:Int)(w:aA)(b0:0<=b)(b1:b<18446744073709551616)(c0:0<=c)(c1:c<18446744073709551616):aG prog 224 #[.pointer f, .int .i64 2, .int .u64 b, .int .u64 c] w λe w'=>e= .returned (.int .u64 (rk 2 b c))/\w=w':=by
 simp only[rk,Nat.reduceEqDiff,abI,aaY];go_enter func224,ntmps224
 go_wp2_with fail
 go_ret
 exact⟨rfl,rfl⟩
theorem Hm(f:Nat)(b c:Int)(w:aA)(b0:0<=b)(b1:b<18446744073709551616)(c0:0<=c)(c1:c<18446744073709551616):aG prog 224 #[.pointer f, .int .i64 3, .int .u64 b, .int .u64 c] w λe w'=>e= .returned (.int .u64 (rk 3 b c))/\w=w':=by
 simp only[rk,Nat.reduceEqDiff,abI,aaY];go_enter func224,ntmps224
 go_wp2_with fail
 go_ret
 exact⟨rfl,rfl⟩
theorem Ij(f:Nat)(b c:Int)(w:aA)(b0:0<=b)(b1:b<18446744073709551616)(c0:0<=c)(c1:c<18446744073709551616):aG prog 224 #[.pointer f, .int .i64 4, .int .u64 b, .int .u64 c] w λe w'=>e= .returned (.int .u64 (rk 4 b c))/\w=w':=by
 simp only[rk,Nat.reduceEqDiff,abI,aaY];go_enter func224,ntmps224
 go_wp2_with fail
 go_ret
 exact⟨rfl,rfl⟩
theorem Ef(f:Nat)(b c:Int)(w:aA)(b0:0<=b)(b1:b<18446744073709551616)(c0:0<=c)(c1:c<18446744073709551616)(hc:¬c=0):aG prog 224 #[.pointer f, .int .i64 5, .int .u64 b, .int .u64 c] w λe w'=>e= .returned (.int .u64 (rk 5 b c))/\w=w':=by
 simp only[rk,Nat.reduceEqDiff,abI,aaY];go_enter func224,ntmps224
 go_wp2_with fail
 go_ret
 exact⟨rfl,rfl⟩
theorem Hx(f:Nat)(b c:Int)(w:aA)(b0:0<=b)(b1:b<18446744073709551616)(c0:0<=c)(c1:c<18446744073709551616):aG prog 224 #[.pointer f, .int .i64 6, .int .u64 b, .int .u64 c] w λe w'=>e= .returned (.int .u64 (rk 6 b c))/\w=w':=by
 simp only[rk,Nat.reduceEqDiff,abI,aaY];go_enter func224,ntmps224
 go_wp2_with fail
 go_ret
 exact⟨rfl,rfl⟩
theorem Fv(f:Nat)(b c:Int)(w:aA)(b0:0<=b)(b1:b<18446744073709551616)(c0:0<=c)(c1:c<18446744073709551616):aG prog 224 #[.pointer f, .int .i64 7, .int .u64 b, .int .u64 c] w λe w'=>e= .returned (.int .u64 (rk 7 b c))/\w=w':=by
 simp only[rk,Nat.reduceEqDiff,abI,aaY];go_enter func224,ntmps224
 go_wp2_with fail
 go_ret
 exact⟨rfl,rfl⟩
theorem Gt(f:Nat)(b c:Int)(w:aA)(b0:0<=b)(b1:b<18446744073709551616)(c0:0<=c)(c1:c<18446744073709551616):aG prog 224 #[.pointer f, .int .i64 8, .int .u64 b, .int .u64 c] w λe w'=>e= .returned (.int .u64 (rk 8 b c))/\w=w':=by
 simp only[rk,Nat.reduceEqDiff,abI,aaY];go_enter func224,ntmps224
 go_wp2_with fail
 go_ret
 exact⟨rfl,rfl⟩
theorem Hu(f:Nat)(b c:Int)(w:aA)(b0:0<=b)(b1:b<18446744073709551616)(c0:0<=c)(c1:c<18446744073709551616):aG prog 224 #[.pointer f, .int .i64 9, .int .u64 b, .int .u64 c] w λe w'=>e= .returned (.int .u64 (rk 9 b c))/\w=w':=by
 simp only[rk,Nat.reduceEqDiff,abI,aaY];go_enter func224,ntmps224
 go_wp2_with fail
 go_ret
 exact⟨rfl,rfl⟩
theorem ZR(f:Nat)(b c:Int)(w:aA)(b0:0<=b)(b1:b<18446744073709551616)(c0:0<=c)(c1:c<18446744073709551616):aG prog 224 #[.pointer f, .int .i64 10, .int .u64 b, .int .u64 c] w λe w'=>e= .returned (.int .u64 (rk 10 b c))/\w=w':=by
 simp only[rk,Nat.reduceEqDiff,abI,aaY];go_enter func224,ntmps224
 go_wp2_with fail
 go_ret
 exact⟨rfl,rfl⟩
theorem ZE(f:Nat)(b c:Int)(w:aA)(b0:0<=b)(b1:b<18446744073709551616)(c0:0<=c)(c1:c<18446744073709551616):aG prog 224 #[.pointer f, .int .i64 11, .int .u64 b, .int .u64 c] w λe w'=>e= .returned (.int .u64 (rk 11 b c))/\w=w':=by
 simp only[rk,Nat.reduceEqDiff,abI,aaY];go_enter func224,ntmps224
 go_wp2_with fail
 all_goals go_ret
 all_goals exact⟨rfl,rfl⟩
end Pa.Cp
end
section
open Go.RowKit Go.Lib
open dF (Tb)
open Fr (dX Fm)
section
namespace Pa.Cp
variable{F:Nat->Prop}{w:aA}{gt gf:Nat}{gc:Gc}
theorem Mo.o{T:Int->Tt}{st:St}(q:Mo F w gt gf gc T st){p:aJ}(hp:F p.block)(v:aC):Mo F (w.setCell p v) gt gf gc T st:=by
 obtain⟨A,c,L,h,m,q⟩:=q;obtain⟨_,o1,o2,o3,j⟩:=q.off _ hp;have d:w.grownBy (w.setCell p v) (some p.block):=⟨rfl,rfl,rfl,by simp[World.setCell],λk _ g=>Below.heap_setCell w p v k (λe=>g (by rw[e]))⟩
 exact⟨A,c,L,h,m,q.tb.only d (acT o1) j,⟨q.fm.n0,q.fm.t,q.fm.b,q.fm.at_.grown d (by simpa using acT o2)⟩,q.cp.grown d (by simpa using acT o3),q.rg,q.og,q.C4,q.len,q.tt,q.tf,q.tc,q.fc,q.af,q.ac,λi hi=>⟨Zy (q.off i hi).1 d.size,(q.off i hi).2⟩⟩
theorem _root_.Go.Proofs.YtacgiflhgdaeaaaGreat.Kp.Gy{a:aA}(h:Kp F a w)(hF:∀i,F i->i<a.heap.size){p:aJ}(hp:a.heap.size<=p.block)(v:aC):Kp F a (w.setCell p v):=
 ⟨h.os,h.tape,h.output,by simpa[World.setCell] using h.size,λi hi=>(Below.heap_setCell w p v i (by have:=hF i hi;omega)).trans (h.block i hi)⟩
def Rs(F:Nat->Prop)(gt gf:Nat)(gc:Gc)(T:Int->Tt)(st:St)(r:Except (Int×Int) (St×Tp))(w:aA)(e:aM)(w':aA):Prop:=match r with
 | .error z=>e=gO st.pc (.error z)/\Mo F w' gt gf gc T st/\Kp F w w'
 | .ok y=>e= .returned (.tuple #[y.1.pc, .agg #[y.2.k,y.2.p, .int .u64 y.2.x]])/\Mo F w' gt gf gc T ⟨y.1.R,st.pc,y.1.s⟩/\Kp F w w'
theorem lB(x:Int):0<=IntKind.u64.wrap x/\IntKind.u64.wrap x<18446744073709551616:=by rw[IntKind.wrap_u64];omega
theorem sN(op:Nat){b c:Int}(hb:0<=b/\b<18446744073709551616)(hc:0<=c/\c<18446744073709551616):0<=rk op b c/\rk op b c<18446744073709551616:=by
 have hd:∀d:Int,0<d->0<=b /d/\b /d<18446744073709551616:=λd hd=>⟨Int.ediv_nonneg hb.1 aQ,Int.lt_of_le_of_lt (Int.ediv_le_self _ hb.1) hb.2⟩
 unfold rk;split
 .exact lB _
 .split
  .exact lB _
  .split
   .exact lB _
   .split
    .rcases Int.lt_or_eq_of_le hc.1 with h|h
     .exact hd c h
     .rw[<-h];simp
    .split
     .exact lB _
     .split
      .exact lB _
      .split
       .exact lB _
       .split
        .exact lB _
        .split
         .exact hd _ (Int.pow_pos cC)
         .split <;> simp
theorem Cn(f:Nat)(b:Int)(gc:Gc)(p:Int)(w:aA)(d:w.cell? (f,0)=some (.pointer (some ⟨gc.b,gc.o,none⟩)))(ca:w.cell? (gc.b,gc.o+8)=some (.int .i64 p)):aG prog 224 #[.pointer f, .int .i64 5, .int .u64 b,bC] w λe w'=>e=gO p (.error (4,0))/\w=w':=by
 go_enter func224,ntmps224
 go_wp2_with fail
 refine(pU f 4 0 p gc w d ca).mono ?_;rintro e g ⟨rfl,rfl⟩;simp only[gO];go_wp2_with fail
 simp only[bodyPost,gO];refine⟨trivial,?_⟩;first|exact⟨trivial,rfl⟩|exact⟨rfl,rfl⟩|simp
def dU(w:aA)(b:Nat)(k p x:Int):aA:=((w.setCell (b,0) k).setCell (b,1) p).setCell (b,2) (.int .u64 x)
variable{b:Nat}
theorem Mo.ID{T:Int->Tt}{st:St}(q:Mo F w gt gf gc T st)(hp:F b)(k p x:Int):Mo F (dU w b k p x) gt gf gc T st:=((q.o (p:=⟨b,0,none⟩) hp _).o (p:=⟨b,1,none⟩) hp _).o (p:=⟨b,2,none⟩) hp _
theorem _root_.Go.Proofs.YtacgiflhgdaeaaaGreat.Kp.IE{a:aA}(h:Kp F a w)(hF:∀i,F i->i<a.heap.size)(hp:a.heap.size<=b)(k p x:Int):Kp F a (dU w b k p x):=((h.Gy hF (p:=⟨b,0,none⟩) hp _).Gy hF (p:=⟨b,1,none⟩) hp _).Gy hF (p:=⟨b,2,none⟩) hp _
variable{ad:Int}
theorem On{t:Tt}{s:dX}{v:Int}(h:GU t s ad= .ok v):0<=v/\v<18446744073709551616:=by
 unfold GU at h;split at h
 .cases h
 .split at h
  .injection h with h;rw[<-h];exact lB _
  .cases h
structure Vy(F:Nat->Prop)(f gt gf:Nat)(gc:Gc)(C:Option aJ)(cl cc:Nat)(env:Int)(T:Int->Tt)(st:St)(a b c k:Nat)(w:aA):Prop where
 q:Mo F w gt gf gc T st
 hl:Fg w f gt gf gc C cl cc env
 hf:F f
 ha:a<=7
 hb:b<=7
 hc:c<=7
 hk:k<=17592186044415
 p0:0<=st.pc
 p1:st.pc<9223372036854775807
structure Zg(F F2:Nat->Prop)(f gt gf:Nat)(gc:Gc)(C:Option aJ)(cl cc:Nat)(env:Int)(T:Int->Tt)(st:St)(a b c k:Nat)(o:Int)(w w1:aA):Prop where
 q2:Mo F2 w1 gt gf gc T st
 hs:aH ((∀i,F i->F2 i)/\F2 w.heap.size/\F2 (w.heap.size+1)/\∀i,F i->i<w.heap.size)
 hb:aH (Kp F w w1)
 bt:bF w1 (w.heap.size+1) 77 #[aU,aU,bC]
 hl:aH (Fg w1 f gt gf gc C cl cc env)
 hf:aH (F2 f)
 cf0:w1.cell? (f,0)=some (.pointer (some ⟨gc.b,gc.o,none⟩))
 q8:w1.cell? (gc.b,gc.o+8)=some (.int .i64 st.pc)
 qa:w1.cell? (gc.b,gc.o+a)=some (.int .u64 (rat st.R a))
 qb:w1.cell? (gc.b,gc.o+b)=some (.int .u64 (rat st.R b))
 qc:w1.cell? (gc.b,gc.o+c)=some (.int .u64 (rat st.R c))
 i0:w1.cell? (w.heap.size,0)=some (.int .i64 o)
 i1:w1.cell? (w.heap.size,1)=some (.int .i64 a)
 i2:w1.cell? (w.heap.size,2)=some (.int .i64 b)
 i3:w1.cell? (w.heap.size,3)=some (.int .i64 c)
 i4:w1.cell? (w.heap.size,4)=some (.int .u64 k)
 g0:w1.frozen? (gc.b,gc.o+a)=false
 bd:(0:Int)<=a/\(a:Int)<8/\(0:Int)<=b/\(b:Int)<8/\(0:Int)<=c/\(c:Int)<8
 ra:0<=rat st.R a/\rat st.R a<18446744073709551616
 rb:0<=rat st.R b/\rat st.R b<18446744073709551616
 rc:0<=rat st.R c/\rat st.R c<18446744073709551616
variable{g:Nat}{F2:Nat->Prop}{w0 W:aA}
section
variable{F:Nat->Prop}{f gt gf:Nat}{gc:Gc}{C:Option aJ}{cl cc:Nat}{env:Int}{T:Int->Tt}{st:St}{a b c k:Nat}{w:aA}
theorem gR(o:Int)(P:Vy F f gt gf gc C cl cc env T st a b c k w):∃e,Zg F e f gt gf gc C cl cc env T st a b c k o w ((w.alloc (aI #[o,a,b,c, .int .u64 k] 365)).alloc (aI #[aU,aU,bC] 77)):=by
 have q2:=(P.q.box (aI #[o,a,b,c, .int .u64 k] 365)).box (aI #[aU,aU,bC] 77);have d:=(aX w (aI #[o,a,b,c, .int .u64 k] 365)).alloc aT (aI #[aU,aU,bC] 77);have bi:=(bF.new w 365 #[o,a,b,c, .int .u64 k]).alloc (aI #[aU,aU,bC] 77);have hl:=P.hl.keep d;exact⟨_,q2,⟨λi hi=> .inl (.inl hi), .inl (.inr rfl), .inr aT,P.q.lt⟩,Kp.cB d P.q.lt,bF.fI _ _ _ aT,hl, .inl (.inl P.hf),hl.c0,q2.c8,q2.Kq P.ha,q2.Kq P.hb,q2.Kq P.hc,bi.cell 0 _ rfl,bi.cell 1 _ rfl,bi.cell 2 _ rfl,bi.cell 3 _ rfl,bi.cell 4 _ rfl,q2.frozen a,by have:=P.ha;have:=P.hb;have:=P.hc;omega,FO q2.QY a,FO q2.QY b,FO q2.QY c⟩
theorem jX(h:bF w g 77 #[aU,aU,bC]):w.cell? (g,0)=some (.int .i64 0)/\w.cell? (g,1)=some (.int .i64 0)/\w.cell? (g,2)=some (.int .u64 0)/\w.frozen? (g,0)=false/\w.frozen? (g,1)=false/\w.frozen? (g,2)=false:=
 ⟨h.cell 0 _ rfl,h.cell 1 _ rfl,h.cell 2 _ rfl,h.frozen 0,h.frozen 1,h.frozen 2⟩
theorem jP(hm:Mo F2 W gt gf gc T st/\Kp F2 w0 W)(hs:(∀i,F i->F2 i)/\F2 w.heap.size/\F2 (w.heap.size+1)/\∀i,F i->i<w.heap.size)(hk:Kp F w w0)(x y z:Int):Mo F (dU W (w.heap.size+1) x y z) gt gf gc T st/\Kp F w (dU W (w.heap.size+1) x y z):=
 ⟨(hm.1.ID hs.2.2.1 _ _ _).less hs.1,(hk.trans (hm.2.mono hs.1)).IE hs.2.2.2 aQ _ _ _⟩
def gW(F:Nat->Prop)(f gt gf:Nat)(gc:Gc)(env:Int)(T:Int->Tt)(st:St)(a b c k:Nat)(w:aA)(o:Int)(op:Nat):Prop:=
 aG prog 176 #[.pointer f, .agg #[o,a,b,c, .int .u64 k]] w (Rs F gt gf gc T st (kW (T env) ⟨op,a,b,c,k⟩ st) w)
end
end Pa.Cp
end
namespace Pa.Cp
section
variable{F:Nat->Prop}{f gt gf:Nat}{gc:Gc}{C:Option aJ}{cl cc:Nat}{env:Int}{T:Int->Tt}{st:St}{a b c k:Nat}{w:aA}(P:Vy F f gt gf gc C cl cc env T st a b c k w)
include P
theorem Nz:gW F f gt gf gc env T st a b c k w 0 0:=by
 unfold gW;obtain⟨j,Q⟩:=gR 0 P;have cf0:=P.hl.c0;have q8:=P.q.c8;have d:gc.b<w.heap.size:=P.q.qC.lt;have g:f<w.heap.size:=P.q.lt f P.hf;have p0:=P.p0;have p1:=P.p1;have hk:=P.hk;simp only[kW,Nat.reduceEqDiff,abI,aaY,acI,ab7];go_enter func176,ntmps176
 go_wp2_with fail
 generalize ((w.alloc (aI #[aU,a,b,c, .int .u64 k] 365)).alloc (aI #[aU,aU,bC] 77))=w1 at *;clear cf0 q8;obtain⟨q2,h,i,bt,l,m,cf0,q8,qa,qb,qc,i0,i1,i2,i3,i4,g0,⟨a0,n,b0,b1,c0,c1⟩,ra,rb,rc⟩:=Q;go_quiet (fail)
 obtain⟨p,r,s,l0,l1,t⟩:=jX bt;go_wp2_with fail
 refine(pU f 2 0 st.pc gc _ (by exact cf0) (by exact q8)).mono ?_;rintro e u ⟨rfl,rfl⟩;simp only[bodyPost,gO];exact⟨trivial,rfl,(q2.drewN nq).less h.o.1,i.o.drewN nq⟩
theorem Pz:gW F f gt gf gc env T st a b c k w 1 1:=by
 unfold gW;obtain⟨l,Q⟩:=gR 1 P;have cf0:=P.hl.c0;have q8:=P.q.c8;have d:gc.b<w.heap.size:=P.q.qC.lt;have e:f<w.heap.size:=P.q.lt f P.hf;have p0:=P.p0;have p1:=P.p1;have hk:=P.hk;simp only[kW,Nat.reduceEqDiff,abI,aaY,acI,ab7];go_enter func176,ntmps176
 go_wp2_with fail
 generalize ((w.alloc (aI #[.int .i64 1,a,b,c, .int .u64 k] 365)).alloc (aI #[aU,aU,bC] 77))=g at *;clear cf0 q8;obtain⟨q2,h,i,bt,m,n,cf0,q8,qa,qb,qc,i0,i1,i2,i3,i4,g0,⟨a0,p,b0,b1,c0,c1⟩,ra,rb,rc⟩:=Q;go_quiet (fail)
 obtain⟨r,s,t,l0,l1,u⟩:=jX bt;go_wp2_with fail
 have j:=aP (Mo.vT (q2.drewN nq) P.ha (v:=(k:Int)) (by have:=P.hk;omega) (by have:=P.hk;omega));change bodyPost _ _ _ _ _ (dU ((g.drewN nq).setCell (gc.b,gc.o+a) (.int .u64 k)) (w.heap.size+1) 0 0 0)
 exact bodyPost_ret (v:= .tuple #[.int .i64 (st.pc+1), .agg #[aU,aU,bC]]) (by simp[results,results176,go_sem,dU, *]) rfl ⟨rfl,jP j.o h.o (i.o.drewN nq) _ _ _⟩
theorem Nl:gW F f gt gf gc env T st a b c k w 14 14:=by
 unfold gW;obtain⟨e,Q⟩:=gR 14 P;have cf0:=P.hl.c0;have q8:=P.q.c8;have g:gc.b<w.heap.size:=P.q.qC.lt;have h:f<w.heap.size:=P.q.lt f P.hf;have p0:=P.p0;have p1:=P.p1;have hk:=P.hk;simp only[kW,Nat.reduceEqDiff,abI,aaY,acI,ab7];go_enter func176,ntmps176
 go_wp2_with fail
 generalize ((w.alloc (aI #[.int .i64 14,a,b,c, .int .u64 k] 365)).alloc (aI #[aU,aU,bC] 77))=d at *;clear cf0 q8;obtain⟨q2,i,j,bt,m,n,cf0,q8,qa,qb,qc,i0,i1,i2,i3,i4,g0,⟨a0,p,b0,b1,c0,c1⟩,ra,rb,rc⟩:=Q;go_quiet (fail)
 obtain⟨r,s,t,l0,l1,u⟩:=jX bt;go_wp2_with fail
 have l:=bN (q2.drewN nq) (Kp.refl e (d.drewN nq));change bodyPost _ _ _ _ _ (dU (d.drewN nq) (w.heap.size+1) 0 0 0)
 exact bodyPost_ret (v:= .tuple #[k, .agg #[aU,aU,bC]]) (by simp[results,results176,go_sem,dU, *]) rfl ⟨rfl,jP l.o i.o (j.o.drewN nq) _ _ _⟩
theorem WM(d:rat st.R a=0):gW F f gt gf gc env T st a b c k w 15 15:=by
 unfold gW;obtain⟨g,Q⟩:=gR 15 P;have cf0:=P.hl.c0;have q8:=P.q.c8;have h:gc.b<w.heap.size:=P.q.qC.lt;have i:f<w.heap.size:=P.q.lt f P.hf;have p0:=P.p0;have p1:=P.p1;have hk:=P.hk;simp only[kW,Nat.reduceEqDiff,abI,aaY,acI,ab7];rw[Zz d];replace d:=aP d;go_enter func176,ntmps176
 go_wp2_with fail
 generalize ((w.alloc (aI #[.int .i64 15,a,b,c, .int .u64 k] 365)).alloc (aI #[aU,aU,bC] 77))=e at *;clear cf0 q8;obtain⟨q2,j,l,bt,n,p,cf0,q8,qa,qb,qc,i0,i1,i2,i3,i4,g0,⟨a0,r,b0,b1,c0,c1⟩,ra,rb,rc⟩:=Q;rw[d.o] at qa;go_quiet (fail)
 obtain⟨s,t,u,l0,l1,x⟩:=jX bt;go_wp2_with fail
 have m:=bN (q2.drewN nq) (Kp.refl g (e.drewN nq));change bodyPost _ _ _ _ _ (dU (e.drewN nq) (w.heap.size+1) 0 0 0)
 exact bodyPost_ret (v:= .tuple #[.int .i64 (st.pc+1), .agg #[aU,aU,bC]]) (by simp[results,results176,go_sem,dU, *]) rfl ⟨rfl,jP m.o j.o (l.o.drewN nq) _ _ _⟩
theorem UY(d:¬rat st.R a=0):gW F f gt gf gc env T st a b c k w 15 15:=by
 unfold gW;obtain⟨g,Q⟩:=gR 15 P;have cf0:=P.hl.c0;have q8:=P.q.c8;have h:gc.b<w.heap.size:=P.q.qC.lt;have i:f<w.heap.size:=P.q.lt f P.hf;have p0:=P.p0;have p1:=P.p1;have hk:=P.hk;simp only[kW,Nat.reduceEqDiff,abI,aaY,acI,ab7];rw[aaA d];replace d:=aP d;go_enter func176,ntmps176
 go_wp2_with fail
 generalize ((w.alloc (aI #[.int .i64 15,a,b,c, .int .u64 k] 365)).alloc (aI #[aU,aU,bC] 77))=e at *;clear cf0 q8;obtain⟨q2,j,l,bt,p,r,cf0,q8,qa,qb,qc,i0,i1,i2,i3,i4,g0,⟨a0,s,b0,b1,c0,c1⟩,ra,rb,rc⟩:=Q;go_quiet (fail)
 obtain⟨t,u,x,l0,l1,y⟩:=jX bt;have m:=d.o;go_wp2_with fail
 have n:=bN (q2.drewN nq) (Kp.refl g (e.drewN nq));change bodyPost _ _ _ _ _ (dU (e.drewN nq) (w.heap.size+1) 0 0 0)
 exact bodyPost_ret (v:= .tuple #[k, .agg #[aU,aU,bC]]) (by simp[results,results176,go_sem,dU, *]) rfl ⟨rfl,jP n.o j.o (l.o.drewN nq) _ _ _⟩
theorem Nd:gW F f gt gf gc env T st a b c k w 17 17:=by
 unfold gW;obtain⟨l,Q⟩:=gR 17 P;have cf0:=P.hl.c0;have q8:=P.q.c8;have d:gc.b<w.heap.size:=P.q.qC.lt;have e:f<w.heap.size:=P.q.lt f P.hf;have p0:=P.p0;have p1:=P.p1;have hk:=P.hk;simp only[kW,Nat.reduceEqDiff,abI,aaY,acI,ab7];go_enter func176,ntmps176
 go_wp2_with fail
 generalize ((w.alloc (aI #[.int .i64 17,a,b,c, .int .u64 k] 365)).alloc (aI #[aU,aU,bC] 77))=g at *;clear cf0 q8;obtain⟨q2,h,i,bt,m,n,cf0,q8,qa,qb,qc,i0,i1,i2,i3,i4,g0,⟨a0,p,b0,b1,c0,c1⟩,ra,rb,rc⟩:=Q;go_quiet (fail)
 obtain⟨r,s,t,l0,l1,u⟩:=jX bt;go_wp2_with fail
 have j:=aP (Mo.vT (q2.drewN nq) P.ha (v:=st.pc+1) (by have:=P.p0;omega) (by have:=P.p1;omega));change bodyPost _ _ _ _ _ (dU ((g.drewN nq).setCell (gc.b,gc.o+a) (.int .u64 (st.pc+1))) (w.heap.size+1) 0 0 0)
 exact bodyPost_ret (v:= .tuple #[k, .agg #[aU,aU,bC]]) (by simp[results,results176,go_sem,dU, *]) rfl ⟨rfl,jP j.o h.o (i.o.drewN nq) _ _ _⟩
theorem Fz(d:17592186044415<rat st.R a):gW F f gt gf gc env T st a b c k w 18 18:=by
 unfold gW;obtain⟨m,Q⟩:=gR 18 P;have cf0:=P.hl.c0;have q8:=P.q.c8;have g:gc.b<w.heap.size:=P.q.qC.lt;have h:f<w.heap.size:=P.q.lt f P.hf;have p0:=P.p0;have p1:=P.p1;have hk:=P.hk;simp only[kW,Nat.reduceEqDiff,abI,aaY,acI,ab7];rw[Zz d];replace d:=aP d;go_enter func176,ntmps176
 go_wp2_with fail
 generalize ((w.alloc (aI #[.int .i64 18,a,b,c, .int .u64 k] 365)).alloc (aI #[aU,aU,bC] 77))=w1 at *;clear cf0 q8;obtain⟨q2,i,j,bt,n,p,cf0,q8,qa,qb,qc,i0,i1,i2,i3,i4,g0,⟨a0,r,b0,b1,c0,c1⟩,ra,rb,rc⟩:=Q;go_quiet (fail)
 obtain⟨s,t,u,l0,l1,v⟩:=jX bt;have l:=d.o;go_wp2_with fail
 refine(pU f 3 (rat st.R a) st.pc gc _ (by exact cf0) (by exact q8)).mono ?_;rintro e x ⟨rfl,rfl⟩;simp only[bodyPost,gO];exact⟨trivial,rfl,(q2.drewN nq).less i.o.1,j.o.drewN nq⟩
theorem Gh(d:¬17592186044415<rat st.R a):gW F f gt gf gc env T st a b c k w 18 18:=by
 unfold gW;obtain⟨g,Q⟩:=gR 18 P;have cf0:=P.hl.c0;have q8:=P.q.c8;have h:gc.b<w.heap.size:=P.q.qC.lt;have i:f<w.heap.size:=P.q.lt f P.hf;have p0:=P.p0;have p1:=P.p1;have hk:=P.hk;simp only[kW,Nat.reduceEqDiff,abI,aaY,acI,ab7];rw[aaA d];replace d:=aP d;go_enter func176,ntmps176
 go_wp2_with fail
 generalize ((w.alloc (aI #[.int .i64 18,a,b,c, .int .u64 k] 365)).alloc (aI #[aU,aU,bC] 77))=e at *;clear cf0 q8;obtain⟨q2,j,l,bt,p,r,cf0,q8,qa,qb,qc,i0,i1,i2,i3,i4,g0,⟨a0,s,b0,b1,c0,c1⟩,ra,rb,rc⟩:=Q;go_quiet (fail)
 obtain⟨t,u,x,l0,l1,y⟩:=jX bt;have m:=d.o;go_wp2_with fail
 have n:=bN (q2.drewN nq) (Kp.refl g (e.drewN nq));change bodyPost _ _ _ _ _ (dU (e.drewN nq) (w.heap.size+1) 0 0 0)
 exact bodyPost_ret (v:= .tuple #[.int .i64 (rat st.R a), .agg #[aU,aU,bC]]) (by simp[results,results176,go_sem,dU, *]) rfl ⟨rfl,jP n.o j.o (l.o.drewN nq) _ _ _⟩
theorem Kt(d:rat st.R c=0):gW F f gt gf gc env T st a b c k w 5 5:=by
 unfold gW;obtain⟨m,Q⟩:=gR 5 P;have cf0:=P.hl.c0;have q8:=P.q.c8;have h:gc.b<w.heap.size:=P.q.qC.lt;have i:f<w.heap.size:=P.q.lt f P.hf;have p0:=P.p0;have p1:=P.p1;have hk:=P.hk;simp only[kW,Nat.reduceEqDiff,abI,aaY,acI,ab7];rw[Zz d];replace d:=aP d;go_enter func176,ntmps176
 go_wp2_with fail
 generalize ((w.alloc (aI #[.int .i64 5,a,b,c, .int .u64 k] 365)).alloc (aI #[aU,aU,bC] 77))=w1 at *;clear cf0 q8;obtain⟨q2,j,l,bt,n,p,cf0,q8,qa,qb,qc,i0,i1,i2,i3,i4,g0,⟨a0,r,b0,b1,c0,c1⟩,ra,rb,rc⟩:=Q;rw[d.o] at qc;go_quiet (fail)
 obtain⟨s,t,u,l0,l1,v⟩:=jX bt;have g:=cf0;go_wp2_with fail
 refine(Cn f (rat st.R b) gc st.pc _ (by exact cf0) (by exact q8)).mono ?_;rintro e x ⟨rfl,rfl⟩;simp only[gO];go_wp2_with fail
 simp only[bodyPost,gO];exact⟨trivial,rfl,(q2.drewN nq).less j.o.1,l.o.drewN nq⟩
theorem Mx(g:¬rat st.R c=0):gW F f gt gf gc env T st a b c k w 5 5:=by
 unfold gW;obtain⟨p,Q⟩:=gR 5 P;have cf0:=P.hl.c0;have q8:=P.q.c8;have h:gc.b<w.heap.size:=P.q.qC.lt;have i:f<w.heap.size:=P.q.lt f P.hf;have p0:=P.p0;have p1:=P.p1;have hk:=P.hk;simp only[kW,Nat.reduceEqDiff,abI,aaY,acI,ab7];rw[aaA g];replace g:=aP g;go_enter func176,ntmps176
 go_wp2_with fail
 generalize ((w.alloc (aI #[.int .i64 5,a,b,c, .int .u64 k] 365)).alloc (aI #[aU,aU,bC] 77))=j at *;clear cf0 q8;obtain⟨q2,l,m,bt,r,s,cf0,q8,qa,qb,qc,i0,i1,i2,i3,i4,g0,⟨a0,t,b0,b1,c0,c1⟩,ra,rb,rc⟩:=Q;go_quiet (fail)
 obtain⟨u,x,y,l0,l1,z⟩:=jX bt;go_wp2_with(go_at_call 224;refine(Ef f (rat st.R b) (rat st.R c) _ rb.1 rb.2 rc.1 rc.2 g.o).mono ?_;rintro e A ⟨rfl,rfl⟩)
 have d:=sN 5 rb rc;have n:=aP (Mo.vT (q2.drewN nq) P.ha (v:=rk 5 (rat st.R b) (rat st.R c)) d.1 d.2);change bodyPost _ _ _ _ _ (dU ((j.drewN nq).setCell (gc.b,gc.o+a) (.int .u64 (rk 5 (rat st.R b) (rat st.R c)))) (w.heap.size+1) 0 0 0)
 exact bodyPost_ret (v:= .tuple #[.int .i64 (st.pc+1), .agg #[aU,aU,bC]]) (by simp[results,results176,go_sem,dU, *]) rfl ⟨rfl,jP n.o l.o (m.o.drewN nq) _ _ _⟩
theorem Cs(z:Int×Int)(i:GU (T env) st.s (vA (rat st.R b) k)= .error z):gW F f gt gf gc env T st a b c k w 12 12:=by
 unfold gW;obtain⟨l,Q⟩:=gR 12 P;have cf0:=P.hl.c0;have q8:=P.q.c8;have m:gc.b<w.heap.size:=P.q.qC.lt;have n:f<w.heap.size:=P.q.lt f P.hf;have p0:=P.p0;have p1:=P.p1;have hk:=P.hk;simp only[kW,Nat.reduceEqDiff,abI,aaY,acI,ab7];rw[i];simp only;replace i:=aP i;go_enter func176,ntmps176
 go_wp2_with fail
 generalize ((w.alloc (aI #[.int .i64 12,a,b,c, .int .u64 k] 365)).alloc (aI #[aU,aU,bC] 77))=p at *;clear cf0 q8;obtain⟨q2,j,r,bt,g,t,cf0,q8,qa,qb,qc,i0,i1,i2,i3,i4,g0,⟨a0,u,b0,b1,c0,c1⟩,ra,rb,rc⟩:=Q;go_quiet (fail)
 obtain⟨v,x,y,l0,l1,A⟩:=jX bt;have h:=lB (rat st.R b+k);have d:=SO l f gt gf gc C cl cc env T st (vA (rat st.R b) k) (p.drewN nq) (q2.drewN nq) ⟨g.o.c0,g.o.c1,g.o.c2,g.o.c3,g.o.c4⟩ t.o h.1 h.2;rw[i.o] at d;simp only[vY] at d;unfold vA at d;replace d:=aP d;go_wp2_with fail
 refine d.o.mono ?_;rintro e B ⟨rfl,hq,hk⟩;simp only[gO];go_wp2_with fail
 simp only[bodyPost,gO];exact⟨trivial,rfl,hq.less j.o.1,(r.o.drewN nq).trans (hk.mono j.o.1)⟩
theorem Hy(v:Int)(g:GU (T env) st.s (vA (rat st.R b) k)= .ok v):gW F f gt gf gc env T st a b c k w 12 12:=by
 unfold gW;obtain⟨u,Q⟩:=gR 12 P;have cf0:=P.hl.c0;have q8:=P.q.c8;have x:gc.b<w.heap.size:=P.q.qC.lt;have y:f<w.heap.size:=P.q.lt f P.hf;have p0:=P.p0;have p1:=P.p1;have hk:=P.hk;simp only[kW,Nat.reduceEqDiff,abI,aaY,acI,ab7];rw[g];simp only;replace g:=aP g;go_enter func176,ntmps176
 go_wp2_with fail
 generalize ((w.alloc (aI #[.int .i64 12,a,b,c, .int .u64 k] 365)).alloc (aI #[aU,aU,bC] 77))=z at *;clear cf0 q8;obtain⟨q2,j,A,bt,h,B,cf0,q8,qa,qb,qc,i0,i1,i2,i3,i4,g0,⟨a0,I,b0,b1,c0,c1⟩,ra,rb,rc⟩:=Q;go_quiet (fail)
 obtain⟨m,n,p,l0,l1,r⟩:=jX bt;have i:=lB (rat st.R b+k);have d:=SO u f gt gf gc C cl cc env T st (vA (rat st.R b) k) (z.drewN nq) (q2.drewN nq) ⟨h.o.c0,h.o.c1,h.o.c2,h.o.c3,h.o.c4⟩ B.o i.1 i.2;rw[g.o] at d;simp only[vY] at d;unfold vA at d;replace d:=aP d;go_wp2_with fail
 refine d.o.mono ?_;rintro e D ⟨rfl,hq,hk⟩;simp only[gO];have l:=hk.aY (bt.drewN nq) j.o.2.2.1;clear m n p l0 l1 r bt;obtain⟨m,n,p,l0,l1,r⟩:=jX l;have t:=On g.o;have E:=hq.Kq P.ha;have G:=hq.frozen a;go_wp2_with fail
 have H:=aP (Mo.vT hq P.ha (v:=v) t.1 t.2);change bodyPost _ _ _ _ _ (dU (D.setCell (gc.b,gc.o+a) (.int .u64 v)) (w.heap.size+1) 0 0 0)
 exact bodyPost_ret (v:= .tuple #[.int .i64 (st.pc+1), .agg #[aU,aU,bC]]) (by simp[results,results176,go_sem,dU, *]) rfl ⟨rfl,jP H.o j.o ((A.o.drewN nq).trans (hk.mono j.o.1)) _ _ _⟩
theorem X2(z:Int×Int)(p:stM (T env) st.s (vA (rat st.R b) k) (rat st.R a)= .error z):gW F f gt gf gc env T st a b c k w 13 13:=by
 unfold gW;obtain⟨I,Q⟩:=gR 13 P;have cf0:=P.hl.c0;have q8:=P.q.c8;have J:gc.b<w.heap.size:=P.q.qC.lt;have K:f<w.heap.size:=P.q.lt f P.hf;have p0:=P.p0;have p1:=P.p1;have hk:=P.hk;simp only[kW,Nat.reduceEqDiff,abI,aaY,acI,ab7];rw[p];simp only;replace p:=aP p;go_enter func176,ntmps176
 go_wp2_with fail
 generalize ((w.alloc (aI #[.int .i64 13,a,b,c, .int .u64 k] 365)).alloc (aI #[aU,aU,bC] 77))=g at *;clear cf0 q8;obtain⟨q2,r,B,bt,l,L,cf0,q8,qa,qb,qc,i0,i1,i2,i3,i4,g0,⟨a0,O,b0,b1,c0,c1⟩,ra,rb,rc⟩:=Q;go_quiet (fail)
 obtain⟨D,E,G,l0,l1,H⟩:=jX bt;have m:=lB (rat st.R b+k);have h:=aP (λW M hF=>RK I f gt gf gc C cl cc env T st (vA (rat st.R b) k) (rat st.R a) W M hF L.o m.1 m.2 ra.1 ra.2);rw[p.o] at h;unfold vA at h;go_wp2_with fail
 have n:=q2.drewN nq;have i:Kp F w (g.drewN nq):=B.o.drewN nq;have j:bF (g.drewN nq) (w.heap.size+1) 77 #[aU,aU,bC]:=bt;have d:aH (Fg (g.drewN nq) f gt gf gc C cl cc env):=⟨l.o.c0,l.o.c1,l.o.c2,l.o.c3,l.o.c4⟩
 have t:(g.drewN nq).cell? (f,0)=some (.pointer (some ⟨gc.b,gc.o,none⟩)):=cf0;have u:(g.drewN nq).cell? (gc.b,gc.o+8)=some (.int .i64 st.pc):=q8;have v:(g.drewN nq).cell? (gc.b,gc.o+a)=some (.int .u64 (rat st.R a)):=qa;have x:(g.drewN nq).cell? (w.heap.size,4)=some (.int .u64 k):=i4;clear D E G l0 l1 H bt cf0 q8 qa qb qc i0 i1 i2 i3 i4 g0 q2 B l;generalize g.drewN nq=wd at *;go_still_tail 8,aV
 change wpList _ _ _ _ _ wd.drew
 have y:=n.drew;have A:Fg wd.drew f gt gf gc C cl cc env:=⟨d.o.c0,d.o.c1,d.o.c2,d.o.c3,d.o.c4⟩
 replace i:Kp F w wd.drew:=i.drew;replace j:bF wd.drew (w.heap.size+1) 77 #[aU,aU,bC]:=j;clear n d t u v x;generalize wd.drew=N at *;go_wp2_with(go_at_call 223;refine(h.o N y A).mono ?_;rintro e S ⟨rfl,hq,hk⟩;simp only[QT,gO];obtain⟨D,E,G,l0,l1,H⟩:=jX (hk.aY j r.o.2.2.1))
 simp only[QT,Ej] at hq;go_wp2_with fail
 simp only[bodyPost,gO];exact⟨trivial,rfl,hq.less r.o.1,i.trans (hk.mono r.o.1)⟩
theorem Y0(s:dX)(p:stM (T env) st.s (vA (rat st.R b) k) (rat st.R a)= .ok s):gW F f gt gf gc env T st a b c k w 13 13:=by
 unfold gW;obtain⟨B,Q⟩:=gR 13 P;have cf0:=P.hl.c0;have q8:=P.q.c8;have K:gc.b<w.heap.size:=P.q.qC.lt;have L:f<w.heap.size:=P.q.lt f P.hf;have p0:=P.p0;have p1:=P.p1;have hk:=P.hk;simp only[kW,Nat.reduceEqDiff,abI,aaY,acI,ab7];rw[p];simp only;replace p:=aP p;go_enter func176,ntmps176
 go_wp2_with fail
 generalize ((w.alloc (aI #[.int .i64 13,a,b,c, .int .u64 k] 365)).alloc (aI #[aU,aU,bC] 77))=g at *;clear cf0 q8;obtain⟨q2,r,D,bt,l,M,cf0,q8,qa,qb,qc,i0,i1,i2,i3,i4,g0,⟨a0,U,b0,b1,c0,c1⟩,ra,rb,rc⟩:=Q;go_quiet (fail)
 obtain⟨E,G,H,l0,l1,I⟩:=jX bt;have m:=lB (rat st.R b+k);have h:=aP (λW N hF=>RK B f gt gf gc C cl cc env T st (vA (rat st.R b) k) (rat st.R a) W N hF M.o m.1 m.2 ra.1 ra.2);rw[p.o] at h;unfold vA at h;go_wp2_with fail
 have n:=q2.drewN nq;have i:Kp F w (g.drewN nq):=D.o.drewN nq;have j:bF (g.drewN nq) (w.heap.size+1) 77 #[aU,aU,bC]:=bt;have d:aH (Fg (g.drewN nq) f gt gf gc C cl cc env):=⟨l.o.c0,l.o.c1,l.o.c2,l.o.c3,l.o.c4⟩
 have t:(g.drewN nq).cell? (f,0)=some (.pointer (some ⟨gc.b,gc.o,none⟩)):=cf0;have u:(g.drewN nq).cell? (gc.b,gc.o+8)=some (.int .i64 st.pc):=q8;have x:(g.drewN nq).cell? (gc.b,gc.o+a)=some (.int .u64 (rat st.R a)):=qa;have y:(g.drewN nq).cell? (w.heap.size,4)=some (.int .u64 k):=i4;clear E G H l0 l1 I bt cf0 q8 qa qb qc i0 i1 i2 i3 i4 g0 q2 D l;generalize g.drewN nq=wd at *;go_still_tail 8,aV
 change wpList _ _ _ _ _ wd.drew
 have z:=n.drew;have A:Fg wd.drew f gt gf gc C cl cc env:=⟨d.o.c0,d.o.c1,d.o.c2,d.o.c3,d.o.c4⟩
 replace i:Kp F w wd.drew:=i.drew;replace j:bF wd.drew (w.heap.size+1) 77 #[aU,aU,bC]:=j;clear n d t u x y;generalize wd.drew=O at *;go_wp2_with(go_at_call 223;refine(h.o O z A).mono ?_;rintro e J ⟨rfl,hq,hk⟩;simp only[QT,gO];obtain⟨E,G,H,l0,l1,I⟩:=jX (hk.aY j r.o.2.2.1))
 simp only[QT,Ej] at hq;have S:=bN hq (Kp.refl B J);change bodyPost _ _ _ _ _ (dU J (w.heap.size+1) 0 0 0)
 exact bodyPost_ret (v:= .tuple #[.int .i64 (st.pc+1), .agg #[aU,aU,bC]]) (by simp[results,results176,go_sem,dU, *]) rfl ⟨rfl,jP S.o r.o (i.trans (hk.mono r.o.1)) _ _ _⟩
theorem Rp:gW F f gt gf gc env T st a b c k w 16 16:=by
 unfold gW;obtain⟨B,Q⟩:=gR 16 P;have cf0:=P.hl.c0;have q8:=P.q.c8;have D:gc.b<w.heap.size:=P.q.qC.lt;have E:f<w.heap.size:=P.q.lt f P.hf;have p0:=P.p0;have p1:=P.p1;have hk:=P.hk;simp only[kW,Nat.reduceEqDiff,abI,aaY,acI,ab7];go_enter func176,ntmps176
 go_wp2_with fail
 generalize ((w.alloc (aI #[.int .i64 16,a,b,c, .int .u64 k] 365)).alloc (aI #[aU,aU,bC] 77))=d at *;clear cf0 q8;obtain⟨q2,G,t,bt,g,I,cf0,q8,qa,qb,qc,i0,i1,i2,i3,i4,g0,⟨a0,J,b0,b1,c0,c1⟩,ra,rb,rc⟩:=Q;go_quiet (fail)
 obtain⟨u,x,y,l0,l1,z⟩:=jX bt;go_wp2_with fail
 have h:=q2.drewN nq;have e:Kp F w (d.drewN nq):=t.o.drewN nq;have i:bF (d.drewN nq) (w.heap.size+1) 77 #[aU,aU,bC]:=bt;have l:aH (Fg (d.drewN nq) f gt gf gc C cl cc env):=⟨g.o.c0,g.o.c1,g.o.c2,g.o.c3,g.o.c4⟩
 have m:(d.drewN nq).cell? (f,0)=some (.pointer (some ⟨gc.b,gc.o,none⟩)):=cf0;have n:(d.drewN nq).cell? (gc.b,gc.o+8)=some (.int .i64 st.pc):=q8;have p:(d.drewN nq).cell? (gc.b,gc.o+a)=some (.int .u64 (rat st.R a)):=qa;have r:(d.drewN nq).cell? (w.heap.size,4)=some (.int .u64 k):=i4;clear u x y l0 l1 z bt cf0 q8 qa qb qc i0 i1 i2 i3 i4 g0 q2 t g;generalize d.drewN nq=wd at *;go_still_tail 13,aV
 change wpList _ _ _ _ _ wd.drew
 have j:bF wd.drew (w.heap.size+1) 77 #[aU,aU,bC]:=i;obtain⟨u,x,y,l0,l1,z⟩:=jX j;have s:=h.drew;replace e:Kp F w wd.drew:=e.drew;clear h l m n p r i j;generalize wd.drew=A at *;go_wp2_with fail
 have H:=bN s (Kp.refl B A);change bodyPost _ _ _ _ _ (dU A (w.heap.size+1) (1) (st.pc) (rat st.R a))
 exact bodyPost_ret (v:= .tuple #[.int .i64 (st.pc+1), .agg #[.int .i64 (1), .int .i64 (st.pc), .int .u64 (rat st.R a)]]) (by simp[results,results176,go_sem,dU, *]) rfl ⟨rfl,jP H.o G.o e _ _ _⟩
theorem Xk:gW F f gt gf gc env T st a b c k w 2 2:=by
 unfold gW;obtain⟨n,Q⟩:=gR 2 P;have cf0:=P.hl.c0;have q8:=P.q.c8;have g:gc.b<w.heap.size:=P.q.qC.lt;have h:f<w.heap.size:=P.q.lt f P.hf;have p0:=P.p0;have p1:=P.p1;have hk:=P.hk;simp only[kW,Nat.reduceEqDiff,abI,aaY,acI,ab7];go_enter func176,ntmps176
 go_wp2_with fail
 generalize ((w.alloc (aI #[.int .i64 2,a,b,c, .int .u64 k] 365)).alloc (aI #[aU,aU,bC] 77))=i at *;clear cf0 q8;obtain⟨q2,j,l,bt,p,r,cf0,q8,qa,qb,qc,i0,i1,i2,i3,i4,g0,⟨a0,s,b0,b1,c0,c1⟩,ra,rb,rc⟩:=Q;go_quiet (fail)
 obtain⟨t,u,x,l0,l1,y⟩:=jX bt;go_wp2_with(go_at_call 224;refine(Gj f (rat st.R b) (rat st.R c) _ rb.1 rb.2 rc.1 rc.2).mono ?_;rintro e z ⟨rfl,rfl⟩)
 have d:=sN 2 rb rc;have m:=aP (Mo.vT (q2.drewN nq) P.ha (v:=rk 2 (rat st.R b) (rat st.R c)) d.1 d.2);change bodyPost _ _ _ _ _ (dU ((i.drewN nq).setCell (gc.b,gc.o+a) (.int .u64 (rk 2 (rat st.R b) (rat st.R c)))) (w.heap.size+1) 0 0 0)
 exact bodyPost_ret (v:= .tuple #[.int .i64 (st.pc+1), .agg #[aU,aU,bC]]) (by simp[results,results176,go_sem,dU, *]) rfl ⟨rfl,jP m.o j.o (l.o.drewN nq) _ _ _⟩
theorem Xn:gW F f gt gf gc env T st a b c k w 3 3:=by
 unfold gW;obtain⟨n,Q⟩:=gR 3 P;have cf0:=P.hl.c0;have q8:=P.q.c8;have g:gc.b<w.heap.size:=P.q.qC.lt;have h:f<w.heap.size:=P.q.lt f P.hf;have p0:=P.p0;have p1:=P.p1;have hk:=P.hk;simp only[kW,Nat.reduceEqDiff,abI,aaY,acI,ab7];go_enter func176,ntmps176
 go_wp2_with fail
 generalize ((w.alloc (aI #[.int .i64 3,a,b,c, .int .u64 k] 365)).alloc (aI #[aU,aU,bC] 77))=i at *;clear cf0 q8;obtain⟨q2,j,l,bt,p,r,cf0,q8,qa,qb,qc,i0,i1,i2,i3,i4,g0,⟨a0,s,b0,b1,c0,c1⟩,ra,rb,rc⟩:=Q;go_quiet (fail)
 obtain⟨t,u,x,l0,l1,y⟩:=jX bt;go_wp2_with(go_at_call 224;refine(Hm f (rat st.R b) (rat st.R c) _ rb.1 rb.2 rc.1 rc.2).mono ?_;rintro e z ⟨rfl,rfl⟩)
 have d:=sN 3 rb rc;have m:=aP (Mo.vT (q2.drewN nq) P.ha (v:=rk 3 (rat st.R b) (rat st.R c)) d.1 d.2);change bodyPost _ _ _ _ _ (dU ((i.drewN nq).setCell (gc.b,gc.o+a) (.int .u64 (rk 3 (rat st.R b) (rat st.R c)))) (w.heap.size+1) 0 0 0)
 exact bodyPost_ret (v:= .tuple #[.int .i64 (st.pc+1), .agg #[aU,aU,bC]]) (by simp[results,results176,go_sem,dU, *]) rfl ⟨rfl,jP m.o j.o (l.o.drewN nq) _ _ _⟩
theorem Wv:gW F f gt gf gc env T st a b c k w 4 4:=by
 unfold gW;obtain⟨n,Q⟩:=gR 4 P;have cf0:=P.hl.c0;have q8:=P.q.c8;have g:gc.b<w.heap.size:=P.q.qC.lt;have h:f<w.heap.size:=P.q.lt f P.hf;have p0:=P.p0;have p1:=P.p1;have hk:=P.hk;simp only[kW,Nat.reduceEqDiff,abI,aaY,acI,ab7];go_enter func176,ntmps176
 go_wp2_with fail
 generalize ((w.alloc (aI #[.int .i64 4,a,b,c, .int .u64 k] 365)).alloc (aI #[aU,aU,bC] 77))=i at *;clear cf0 q8;obtain⟨q2,j,l,bt,p,r,cf0,q8,qa,qb,qc,i0,i1,i2,i3,i4,g0,⟨a0,s,b0,b1,c0,c1⟩,ra,rb,rc⟩:=Q;go_quiet (fail)
 obtain⟨t,u,x,l0,l1,y⟩:=jX bt;go_wp2_with(go_at_call 224;refine(Ij f (rat st.R b) (rat st.R c) _ rb.1 rb.2 rc.1 rc.2).mono ?_;rintro e z ⟨rfl,rfl⟩)
 have d:=sN 4 rb rc;have m:=aP (Mo.vT (q2.drewN nq) P.ha (v:=rk 4 (rat st.R b) (rat st.R c)) d.1 d.2);change bodyPost _ _ _ _ _ (dU ((i.drewN nq).setCell (gc.b,gc.o+a) (.int .u64 (rk 4 (rat st.R b) (rat st.R c)))) (w.heap.size+1) 0 0 0)
 exact bodyPost_ret (v:= .tuple #[.int .i64 (st.pc+1), .agg #[aU,aU,bC]]) (by simp[results,results176,go_sem,dU, *]) rfl ⟨rfl,jP m.o j.o (l.o.drewN nq) _ _ _⟩
theorem Yd:gW F f gt gf gc env T st a b c k w 6 6:=by
 unfold gW;obtain⟨n,Q⟩:=gR 6 P;have cf0:=P.hl.c0;have q8:=P.q.c8;have g:gc.b<w.heap.size:=P.q.qC.lt;have h:f<w.heap.size:=P.q.lt f P.hf;have p0:=P.p0;have p1:=P.p1;have hk:=P.hk;simp only[kW,Nat.reduceEqDiff,abI,aaY,acI,ab7];go_enter func176,ntmps176
 go_wp2_with fail
 generalize ((w.alloc (aI #[.int .i64 6,a,b,c, .int .u64 k] 365)).alloc (aI #[aU,aU,bC] 77))=i at *;clear cf0 q8;obtain⟨q2,j,l,bt,p,r,cf0,q8,qa,qb,qc,i0,i1,i2,i3,i4,g0,⟨a0,s,b0,b1,c0,c1⟩,ra,rb,rc⟩:=Q;go_quiet (fail)
 obtain⟨t,u,x,l0,l1,y⟩:=jX bt;go_wp2_with(go_at_call 224;refine(Hx f (rat st.R b) (rat st.R c) _ rb.1 rb.2 rc.1 rc.2).mono ?_;rintro e z ⟨rfl,rfl⟩)
 have d:=sN 6 rb rc;have m:=aP (Mo.vT (q2.drewN nq) P.ha (v:=rk 6 (rat st.R b) (rat st.R c)) d.1 d.2);change bodyPost _ _ _ _ _ (dU ((i.drewN nq).setCell (gc.b,gc.o+a) (.int .u64 (rk 6 (rat st.R b) (rat st.R c)))) (w.heap.size+1) 0 0 0)
 exact bodyPost_ret (v:= .tuple #[.int .i64 (st.pc+1), .agg #[aU,aU,bC]]) (by simp[results,results176,go_sem,dU, *]) rfl ⟨rfl,jP m.o j.o (l.o.drewN nq) _ _ _⟩
theorem Xb:gW F f gt gf gc env T st a b c k w 7 7:=by
 unfold gW;obtain⟨n,Q⟩:=gR 7 P;have cf0:=P.hl.c0;have q8:=P.q.c8;have g:gc.b<w.heap.size:=P.q.qC.lt;have h:f<w.heap.size:=P.q.lt f P.hf;have p0:=P.p0;have p1:=P.p1;have hk:=P.hk;simp only[kW,Nat.reduceEqDiff,abI,aaY,acI,ab7];go_enter func176,ntmps176
 go_wp2_with fail
 generalize ((w.alloc (aI #[.int .i64 7,a,b,c, .int .u64 k] 365)).alloc (aI #[aU,aU,bC] 77))=i at *;clear cf0 q8;obtain⟨q2,j,l,bt,p,r,cf0,q8,qa,qb,qc,i0,i1,i2,i3,i4,g0,⟨a0,s,b0,b1,c0,c1⟩,ra,rb,rc⟩:=Q;go_quiet (fail)
 obtain⟨t,u,x,l0,l1,y⟩:=jX bt;go_wp2_with(go_at_call 224;refine(Fv f (rat st.R b) (rat st.R c) _ rb.1 rb.2 rc.1 rc.2).mono ?_;rintro e z ⟨rfl,rfl⟩)
 have d:=sN 7 rb rc;have m:=aP (Mo.vT (q2.drewN nq) P.ha (v:=rk 7 (rat st.R b) (rat st.R c)) d.1 d.2);change bodyPost _ _ _ _ _ (dU ((i.drewN nq).setCell (gc.b,gc.o+a) (.int .u64 (rk 7 (rat st.R b) (rat st.R c)))) (w.heap.size+1) 0 0 0)
 exact bodyPost_ret (v:= .tuple #[.int .i64 (st.pc+1), .agg #[aU,aU,bC]]) (by simp[results,results176,go_sem,dU, *]) rfl ⟨rfl,jP m.o j.o (l.o.drewN nq) _ _ _⟩
theorem Yc:gW F f gt gf gc env T st a b c k w 8 8:=by
 unfold gW;obtain⟨n,Q⟩:=gR 8 P;have cf0:=P.hl.c0;have q8:=P.q.c8;have g:gc.b<w.heap.size:=P.q.qC.lt;have h:f<w.heap.size:=P.q.lt f P.hf;have p0:=P.p0;have p1:=P.p1;have hk:=P.hk;simp only[kW,Nat.reduceEqDiff,abI,aaY,acI,ab7];go_enter func176,ntmps176
 go_wp2_with fail
 generalize ((w.alloc (aI #[.int .i64 8,a,b,c, .int .u64 k] 365)).alloc (aI #[aU,aU,bC] 77))=i at *;clear cf0 q8;obtain⟨q2,j,l,bt,p,r,cf0,q8,qa,qb,qc,i0,i1,i2,i3,i4,g0,⟨a0,s,b0,b1,c0,c1⟩,ra,rb,rc⟩:=Q;go_quiet (fail)
 obtain⟨t,u,x,l0,l1,y⟩:=jX bt;go_wp2_with(go_at_call 224;refine(Gt f (rat st.R b) (rat st.R c) _ rb.1 rb.2 rc.1 rc.2).mono ?_;rintro e z ⟨rfl,rfl⟩)
 have d:=sN 8 rb rc;have m:=aP (Mo.vT (q2.drewN nq) P.ha (v:=rk 8 (rat st.R b) (rat st.R c)) d.1 d.2);change bodyPost _ _ _ _ _ (dU ((i.drewN nq).setCell (gc.b,gc.o+a) (.int .u64 (rk 8 (rat st.R b) (rat st.R c)))) (w.heap.size+1) 0 0 0)
 exact bodyPost_ret (v:= .tuple #[.int .i64 (st.pc+1), .agg #[aU,aU,bC]]) (by simp[results,results176,go_sem,dU, *]) rfl ⟨rfl,jP m.o j.o (l.o.drewN nq) _ _ _⟩
theorem Wq:gW F f gt gf gc env T st a b c k w 9 9:=by
 unfold gW;obtain⟨n,Q⟩:=gR 9 P;have cf0:=P.hl.c0;have q8:=P.q.c8;have g:gc.b<w.heap.size:=P.q.qC.lt;have h:f<w.heap.size:=P.q.lt f P.hf;have p0:=P.p0;have p1:=P.p1;have hk:=P.hk;simp only[kW,Nat.reduceEqDiff,abI,aaY,acI,ab7];go_enter func176,ntmps176
 go_wp2_with fail
 generalize ((w.alloc (aI #[.int .i64 9,a,b,c, .int .u64 k] 365)).alloc (aI #[aU,aU,bC] 77))=i at *;clear cf0 q8;obtain⟨q2,j,l,bt,p,r,cf0,q8,qa,qb,qc,i0,i1,i2,i3,i4,g0,⟨a0,s,b0,b1,c0,c1⟩,ra,rb,rc⟩:=Q;go_quiet (fail)
 obtain⟨t,u,x,l0,l1,y⟩:=jX bt;go_wp2_with(go_at_call 224;refine(Hu f (rat st.R b) (rat st.R c) _ rb.1 rb.2 rc.1 rc.2).mono ?_;rintro e z ⟨rfl,rfl⟩)
 have d:=sN 9 rb rc;have m:=aP (Mo.vT (q2.drewN nq) P.ha (v:=rk 9 (rat st.R b) (rat st.R c)) d.1 d.2);change bodyPost _ _ _ _ _ (dU ((i.drewN nq).setCell (gc.b,gc.o+a) (.int .u64 (rk 9 (rat st.R b) (rat st.R c)))) (w.heap.size+1) 0 0 0)
 exact bodyPost_ret (v:= .tuple #[.int .i64 (st.pc+1), .agg #[aU,aU,bC]]) (by simp[results,results176,go_sem,dU, *]) rfl ⟨rfl,jP m.o j.o (l.o.drewN nq) _ _ _⟩
theorem Un:gW F f gt gf gc env T st a b c k w 10 10:=by
 unfold gW;obtain⟨n,Q⟩:=gR 10 P;have cf0:=P.hl.c0;have q8:=P.q.c8;have g:gc.b<w.heap.size:=P.q.qC.lt;have h:f<w.heap.size:=P.q.lt f P.hf;have p0:=P.p0;have p1:=P.p1;have hk:=P.hk;simp only[kW,Nat.reduceEqDiff,abI,aaY,acI,ab7];go_enter func176,ntmps176
 go_wp2_with fail
 generalize ((w.alloc (aI #[.int .i64 10,a,b,c, .int .u64 k] 365)).alloc (aI #[aU,aU,bC] 77))=i at *;clear cf0 q8;obtain⟨q2,j,l,bt,p,r,cf0,q8,qa,qb,qc,i0,i1,i2,i3,i4,g0,⟨a0,s,b0,b1,c0,c1⟩,ra,rb,rc⟩:=Q;go_quiet (fail)
 obtain⟨t,u,x,l0,l1,y⟩:=jX bt;go_wp2_with(go_at_call 224;refine(ZR f (rat st.R b) (rat st.R c) _ rb.1 rb.2 rc.1 rc.2).mono ?_;rintro e z ⟨rfl,rfl⟩)
 have d:=sN 10 rb rc;have m:=aP (Mo.vT (q2.drewN nq) P.ha (v:=rk 10 (rat st.R b) (rat st.R c)) d.1 d.2);change bodyPost _ _ _ _ _ (dU ((i.drewN nq).setCell (gc.b,gc.o+a) (.int .u64 (rk 10 (rat st.R b) (rat st.R c)))) (w.heap.size+1) 0 0 0)
 exact bodyPost_ret (v:= .tuple #[.int .i64 (st.pc+1), .agg #[aU,aU,bC]]) (by simp[results,results176,go_sem,dU, *]) rfl ⟨rfl,jP m.o j.o (l.o.drewN nq) _ _ _⟩
theorem Tz:gW F f gt gf gc env T st a b c k w 11 11:=by
 unfold gW;obtain⟨n,Q⟩:=gR 11 P;have cf0:=P.hl.c0;have q8:=P.q.c8;have g:gc.b<w.heap.size:=P.q.qC.lt;have h:f<w.heap.size:=P.q.lt f P.hf;have p0:=P.p0;have p1:=P.p1;have hk:=P.hk;simp only[kW,Nat.reduceEqDiff,abI,aaY,acI,ab7];go_enter func176,ntmps176
 go_wp2_with fail
 generalize ((w.alloc (aI #[.int .i64 11,a,b,c, .int .u64 k] 365)).alloc (aI #[aU,aU,bC] 77))=i at *;clear cf0 q8;obtain⟨q2,j,l,bt,p,r,cf0,q8,qa,qb,qc,i0,i1,i2,i3,i4,g0,⟨a0,s,b0,b1,c0,c1⟩,ra,rb,rc⟩:=Q;go_quiet (fail)
 obtain⟨t,u,x,l0,l1,y⟩:=jX bt;go_wp2_with(go_at_call 224;refine(ZE f (rat st.R b) (rat st.R c) _ rb.1 rb.2 rc.1 rc.2).mono ?_;rintro e z ⟨rfl,rfl⟩)
 have d:=sN 11 rb rc;have m:=aP (Mo.vT (q2.drewN nq) P.ha (v:=rk 11 (rat st.R b) (rat st.R c)) d.1 d.2);change bodyPost _ _ _ _ _ (dU ((i.drewN nq).setCell (gc.b,gc.o+a) (.int .u64 (rk 11 (rat st.R b) (rat st.R c)))) (w.heap.size+1) 0 0 0)
 exact bodyPost_ret (v:= .tuple #[.int .i64 (st.pc+1), .agg #[aU,aU,bC]]) (by simp[results,results176,go_sem,dU, *]) rfl ⟨rfl,jP m.o j.o (l.o.drewN nq) _ _ _⟩
end
end Pa.Cp
end
end Go.Proofs.YtacgiflhgdaeaaaGreat
