/- Texts laid as one. -/
import Derived.Defers
import Derived.Recover
import Derived.StillTailTactics
import Derived.Deep.DeepCutAuto
import Derived.Deep.CutBlock
import Derived.Shelf.Abstract
import Derived.MapKept
import Derived.Maps.OwnSet
import Derived.Maps.OwnOps
import Derived.Test.YtacgiflhgdaeaaaGreatWZ1
set_option linter.unusedVariables false
set_option linter.unusedSimpArgs false
set_option maxRecDepth 100000
set_option maxHeartbeats 20000000
namespace Go.Proofs.YtacgiflhgdaeaaaGreat
open Go.Proofs.Tryz
open Go renaming World->aA,Value->aC,Addr->aJ,Oper->aK,Ending->aM,TypeId->aN,Program->aO,Calls->aG
open Go.RowKit renaming Below->aD,Hid->aH,intOf->aL
open Go.Obj renaming cells->aI
section
open Go.RowKit
variable{r:Option Nat}{v:aC}{q:Nat}{cs:Array aC}{G:Nat->Prop}{W:aA}
section
structure Kp(F:Nat->Prop)(a w:aA):Prop where
 os:w.os=a.os
 tape:w.tape=a.tape
 output:w.output=a.output
 size:a.heap.size<=w.heap.size
 block:∀i,F i->w.heap[i]?=a.heap[i]?
section
variable{F:Nat->Prop}{a w w':aA}{g:Nat}
theorem Kp.refl(F:Nat->Prop)(w:aA):Kp F w w:=⟨rfl,rfl,rfl,abQ _,λ_ _=>rfl⟩
theorem Kp.trans(h:Kp F a w)(k:Kp F w w'):Kp F a w':=
 ⟨k.os.trans h.os,k.tape.trans h.tape,k.output.trans h.output,abX h.size k.size,λi hi=>(k.block i hi).trans (h.block i hi)⟩
theorem Kp.cD(h:aD a a w)(hF:∀b,F b->b<a.heap.size):Kp F a w:=⟨h.os,h.tape,h.output,h.size,λi hi=>h.block i (hF i hi)⟩
theorem Kp.grown(h:a.grownBy w r)(hF:∀b,F b->b<a.heap.size/\some b≠r):Kp F a w:=⟨h.os,h.tape,h.output,h.size,λi hi=>h.block i (hF i hi).1 (hF i hi).2⟩
theorem Kp.drew(h:Kp F a w):Kp F a w.drew:=⟨h.os,h.tape,h.output,h.size,h.block⟩
theorem Kp.drewN(h:Kp F a w)(n:Nat):Kp F a (w.drewN n):=⟨h.os,h.tape,h.output,h.size,h.block⟩
theorem Kp.cell(h:Kp F a w){p:aJ}(hc:a.cell? p=some v)(hp:F p.block):w.cell? p=some v:=by
 rw[World.cell?_of_block (w:=a) (h.block p.block hp)];exact hc
theorem Kp.aY(h:Kp F a w){t:aN}(hc:bF a q t cs)(hq:F q):bF w q t cs:=(h.block q hq).trans hc
theorem Kp.mono(h:Kp F a w)(c:∀b,G b->F b):Kp G a w:=⟨h.os,h.tape,h.output,h.size,λi hi=>h.block i (c i hi)⟩
theorem Kp.low{B:Nat}(h:Kp F a w)(hF:∀b,b<B->F b):aD B a w:=⟨h.os,h.tape,h.output,h.size,λi hi=>h.block i (hF i hi)⟩
end
theorem rN{F:aA->Prop}(Φ:aA->Prop)(h:Φ W)(k:∀b,Φ b->F b):F W:=k W h
end
variable{P:aO}{f:FuncId}{w:aA}{id:Nat}{Q:Exit->Act->aA->Prop}
section
structure ID(C:aA->Prop) where
 w:aA
 ok:C w
theorem wK{C:aA->Prop}{p:aJ}(h:∀w,C w->w.cell? p=some v):∀n:ID C,n.w.cell? p=some v:=λn=>h n.w n.ok
theorem JS{C:aA->Prop}{args:Array aC}{n:ID C}(h:∀w,C w->aG P f args w λe w'=>e= .returned v/\C w'):
 aG P f args n.w λe a=>e= .returned v/\∃m:ID C,a=m.w:=
 (h n.w n.ok).mono λ_ w' ⟨he,hb⟩=>⟨he,⟨w',hb⟩,rfl⟩
theorem M2{C:aA->Prop}(h:∃n:ID C,w=n.w):C w:=by
 obtain⟨n,rfl⟩:=h;exact n.ok
theorem xZ{a:Act}{l:List aK}(C:aA->Prop)(b:C W.drew)(hm:P.follows .mixedOrders=true)(c:Region.lexB .any l.toArray=true)
 (h:wpQuiet P l.toArray (λw'=>∃n:ID C,w'=n.w) (λa'=>∀w',(∃n:ID C,w'=n.w)->Q .normal a' w') l a):(Code.region id l.toArray true).wp P Q a W:=
 wp_region_quiet (C:=λw'=>∃n:ID C,w'=n.w) hm c ⟨⟨_,b⟩,rfl⟩ (by simpa using h)
end
namespace Pa.Cp
theorem KK(g:Nat)(k a x:Int)(v0 v1 v2:aC)(b:List PanicEntry)(w:aA)(bk:bF w g 77 #[v0,v1,v2]):
 CallsD prog 175 #[.pointer g] (.panicking ({v:= .iface 77 (.agg #[k,a, .int .u64 x]),recovered:=false}::b)) w λe f w'=>
  e= .returned (.tuple #[])/\f= .panicking ({v:= .iface 77 (.agg #[k,a, .int .u64 x]),recovered:=true}::b)/\w.grownBy w' (some g)/\bF w' g 77 #[k,a, .int .u64 x]:=by
 refine callsD_of_wpS func175 rfl λj cs hu=>?_
 apply wpS_seq;apply wpS_region;simp[wpOpsS,go_sem,recoverD,hu,ntmps175,Exit.thenS];refine wpS_of_wp ?_;generalize c:(λ(e:Exit) (a':Act) (w':aA)=>_)=Q';replace c:=aP c;replace hu:=aP hu;have h:∀(v:aC) (W:aA),(Instr.typeAssert (.iface 77 v) 20 77 true).run prog W= .ok (.tuple #[v,true]) W:=λv W=>by simp[Instr.typeAssert,go_sem]
 have c0:=bk.cell 0 v0 rfl;have c1:=bk.cell 1 v1 rfl;have c2:=bk.cell 2 v2 rfl;have f0:=bk.frozen 0;have f1:=bk.frozen 1;have f2:=bk.frozen 2;have hl:=bk.lt;simp only[Array.replicate_succ,Array.replicate_zero];go_simp
 go_wp2_with fail
 have i:=X7 (bC (bC (bC (bL w g) 0 (.int .i64 k)) 1 (.int .i64 a)) 2 (.int .u64 x)) (aI #[k,a, .int .u64 x] 77);have d:=(((bk.cB 0 k).cB 1 a).cB 2 (.int .u64 x)).alloc (aI #[k,a, .int .u64 x] 77);have c:=c.o;rw[<-c];have hu:=hu.o;exact⟨rfl,_,rfl, .tuple #[],by simp[results,results175,go_sem],rfl,rfl,i,d⟩
theorem YI(g:Nat)(w:aA):CallsD prog 175 #[.pointer g] .returning w λe b w'=>e= .returned (.tuple #[])/\b= .returning/\w'=w:=by
 refine callsD_of_wpS func175 rfl λc cs hu=>?_
 apply wpS_seq;apply wpS_region;simp[wpOpsS,go_sem,recoverD,hu,ntmps175,Exit.thenS];refine wpS_of_wp ?_;generalize a:(λ(e:Exit) (a':Act) (w':aA)=>_)=Q';replace a:=aP a;replace hu:=aP hu;simp only[Array.replicate_succ,Array.replicate_zero];go_simp
 go_wp2_with fail
 have a:=a.o;rw[<-a];cases c;have hu:=hu.o;simp_all[bodyPostS,results,results175]
theorem JM(f c o:Nat)(k x a:Int)(w:aA)(b:w.cell? (f,0)=some (.pointer (some ⟨c,o,none⟩)))(ca:w.cell? (c,o+8)=some (.int .i64 a)):aG prog 221 #[.pointer f,k, .int .u64 x] w λe w'=>e= .panicked [{v:= .iface 77 (.agg #[k,a, .int .u64 x]),recovered:=false}]/\w=w':=by
 go_enter func221,ntmps221
 go_wp2
 simp[bodyPost]
end Pa.Cp
namespace Pa.Cp
structure Gc where
 b:Nat
 o:Nat
 D:Array aC
def pL(g:Gc)(R:List Int)(p:Int):List aC:=g.D.toList.take g.o++((R.map (Value.int .u64)++ [Value.int .i64 p])++g.D.toList.drop (g.o+9))
def pC(g:Gc)(R:List Int)(p:Int):Array aC:=(pL g R p).toArray
end Pa.Cp
end
section
open Go.RowKit Go.Lib
open dL (En Tb Tw fi pT ld lk qH PF TI RD SU)
open Fr (dK Fm fO rU iV AD xQ WL)
section
namespace Pa.Cp
variable{R:List Int}{p:Int}{i:Nat}
theorem Lu(g:Gc)(a:R.length=8)(hi:i<=8)(b:g.o<=g.D.size):(pC g R p)[g.o+i]?=(R.map (Value.int .u64)++ [Value.int .i64 p])[i]?:=by
 unfold pC pL;have hl:(g.D.toList.take g.o).length=g.o:=bX;rw[ab4,ab2 aQ,hl,afU,acG bX]
variable{R':List Int}{p':Int}{v:aC}
theorem ZI(g:Gc)(a:R.length=8)(hi:i<=8)(b:g.o<=g.D.size)(h:(R.map (Value.int .u64)++ [Value.int .i64 p]).set i v=R'.map (Value.int .u64)++ [Value.int .i64 p']):(pC g R p).setIfInBounds (g.o+i) v=pC g R' p':=by
 unfold pC pL;have hl:(g.D.toList.take g.o).length=g.o:=bX;rw[abP,acA _ _ aQ,hl,afU,adV _ _ bX,h]
theorem Tu(g:Gc)(a:R.length=8)(b:g.o<=g.D.size)(hi:i<=7):(pC g R p)[g.o+i]?=some (.int .u64 (rat R i)):=by
 rw[Lu g a aQ b];unfold rat;rw[acG bX,ad1,abO aQ];rfl
theorem Wl(g:Gc)(a:R.length=8)(b:g.o<=g.D.size):(pC g R p)[g.o+8]?=some (.int .i64 p):=by
 rw[Lu g a aQ b,ab2 bX];simp[a]
theorem Ry(g:Gc)(a:R.length=8)(b:g.o<=g.D.size)(hi:i<=7)(v:Int):(pC g R p).setIfInBounds (g.o+i) (.int .u64 v)=pC g (R.set i v) p:=by
 refine ZI g a aQ b ?_;rw[adV _ _ bX,adS]
theorem Xg(g:Gc)(a:R.length=8)(b:g.o<=g.D.size)(q:Int):(pC g R p).setIfInBounds (g.o+8) (.int .i64 q)=pC g R q:=by
 refine ZI g a aQ b ?_;rw[acA _ _ bX];simp[a]
theorem GO(h:FX R)(i:Nat):0<=rat R i/\rat R i<18446744073709551616:=by
 unfold rat;cases a:R[i]? with
 |none=>simp
 |some v=>exact h.2 v (adI a)
theorem GW(h:FX R)(i:Nat){v:Int}(a:0<=v)(h1:v<18446744073709551616):FX (R.set i v):=by
 refine⟨by simpa using h.1,λu hu=>?_⟩;rcases acW hu with hu|rfl
 .exact h.2 u hu
 .exact⟨a,h1⟩
structure Mq(F:Nat->Prop)(w:aA)(gt gf:Nat)(gc:Gc)(A:Option aJ)(c:Nat)(L:List En)(h m:Int)(T:Int->Tt)(st:St):Prop where
 tb:Tb w gt A c L h m
 fm:Fm w gf st.s
 cp:bF w gc.b 139 (pC gc st.R st.pc)
 rg:FX st.R
 og:gc.o<=gc.D.size
 D3:qH L
 len:L.length<=16
 tt:nN L=T
 tf:gt≠gf
 tc:gt≠gc.b
 fc:gf≠gc.b
 af:Go.Proofs.YtacgiflhgdaeaaaGreat.aY A≠some gf
 ac:Go.Proofs.YtacgiflhgdaeaaaGreat.aY A≠some gc.b
 off:∀i,F i->i<w.heap.size/\i≠gt/\i≠gf/\i≠gc.b/\Go.Proofs.YtacgiflhgdaeaaaGreat.aY A≠some i
def Mo(F:Nat->Prop)(w:aA)(gt gf:Nat)(gc:Gc)(T:Int->Tt)(st:St):Prop:=∃A c L h m,Mq F w gt gf gc A c L h m T st
variable{G:Nat->Prop}{s':dK}{A':Option aJ}{c':Nat}{L':List En}{h' m':Int}{ja:Int->Tt}
section
variable{F:Nat->Prop}{w w':aA}{gt gf:Nat}{gc:Gc}{A:Option aJ}{c:Nat}{L:List En}{h m:Int}{T:Int->Tt}{st:St}
theorem Mq.keep(q:Mq F w gt gf gc A c L h m T st)(hb:aD w w w'):Mq F w' gt gf gc A c L h m T st:=
 ⟨q.tb.keep hb,q.fm.keep hb,q.cp.keep hb,q.rg,q.og,q.D3,q.len,q.tt,q.tf,q.tc,q.fc,q.af,q.ac,λi hi=>⟨abR (q.off i hi).1 hb.size,(q.off i hi).2⟩⟩
theorem Mo.keep(q:Mo F w gt gf gc T st)(hb:aD w w w'):Mo F w' gt gf gc T st:=by
 obtain⟨A,c,L,h,m,q⟩:=q;exact⟨A,c,L,h,m,q.keep hb⟩
theorem Mo.lt(q:Mo F w gt gf gc T st):∀i,F i->i<w.heap.size:=λi hi=>by
 obtain⟨A,c,L,h,m,q⟩:=q;exact(q.off i hi).1
theorem Mo.less(q:Mo F w gt gf gc T st)(a:∀i,G i->F i):Mo G w gt gf gc T st:=by
 obtain⟨A,c,L,h,m,q⟩:=q;exact⟨A,c,L,h,m,q.tb,q.fm,q.cp,q.rg,q.og,q.D3,q.len,q.tt,q.tf,q.tc,q.fc,q.af,q.ac,λi hi=>q.off i (a i hi)⟩
theorem Mo.box(q:Mo F w gt gf gc T st)(o:Obj):Mo (λi=>F i\/i=w.heap.size) (w.alloc o) gt gf gc T st:=by
 obtain⟨A,c,L,h,m,q⟩:=q;have k:=q.keep (aX w o);refine⟨A,c,L,h,m,k.tb,k.fm,k.cp,k.rg,k.og,k.D3,k.len,k.tt,k.tf,k.tc,k.fc,k.af,k.ac,λi hi=>?_⟩;rcases hi with hi|rfl
 .exact k.off i hi
 .exact⟨aT,by have:=q.tb.1.lt;omega,by have:=q.fm.at_.lt;omega,by have:=q.cp.lt;omega,λe=>by have:=(q.tb.J0 _ e).2;omega⟩
theorem Mo.kp(q:Mo F w gt gf gc T st)(hb:aD w w w'):Kp F w w':=Kp.cD hb q.lt
theorem Mo.RN(q:Mo F w gt gf gc T st):FX st.R:=by
 obtain⟨A,c,L,h,m,q⟩:=q;exact q.rg
theorem Mo.c8(q:Mo F w gt gf gc T st):w.cell? (gc.b,gc.o+8)=some (.int .i64 st.pc):=by
 obtain⟨A,c,L,h,m,q⟩:=q;exact q.cp.cell (gc.o+8) _ (Wl gc q.rg.1 q.og)
theorem Mo.Mj(q:Mo F w gt gf gc T st)(hi:i<=7):w.cell? (gc.b,gc.o+i)=some (.int .u64 (rat st.R i)):=by
 obtain⟨A,c,L,h,m,q⟩:=q;exact q.cp.cell (gc.o+i) _ (Tu gc q.rg.1 q.og hi)
theorem Mo.frozen(q:Mo F w gt gf gc T st)(i:Nat):w.frozen? (gc.b,gc.o+i)=false:=by
 obtain⟨A,c,L,h,m,q⟩:=q;exact q.cp.frozen (gc.o+i)
theorem Mo.fr(q:Mo F w gt gf gc T st):Fm w gf st.s:=by
 obtain⟨A,c,L,h,m,q⟩:=q;exact q.fm
theorem Mo.qG(q:Mo F w gt gf gc T st):bF w gc.b 139 (pC gc st.R st.pc):=by
 obtain⟨A,c,L,h,m,q⟩:=q;exact q.cp
theorem Mo.og(q:Mo F w gt gf gc T st):gc.o<=gc.D.size:=by
 obtain⟨A,c,L,h,m,q⟩:=q;exact q.og
theorem Mo.drewN(q:Mo F w gt gf gc T st)(k:Nat):Mo F (w.drewN k) gt gf gc T st:=by
 obtain⟨A,c,L,h,m,q⟩:=q;exact⟨A,c,L,h,m,q.keep (fL (Below.refl _ w) k)⟩
theorem Mo.drew(q:Mo F w gt gf gc T st):Mo F w.drew gt gf gc T st:=q.drewN 1
theorem Mo.Tr(q:Mo F w gt gf gc T st)(i:Nat)(v:aC)(d:(pC gc st.R st.pc).setIfInBounds (gc.o+i) v=pC gc R' p')(f:FX R'):Mo F (w.setCell (gc.b,gc.o+i) v) gt gf gc T ⟨R',p',st.s⟩/\Kp F w (w.setCell (gc.b,gc.o+i) v):=by
 obtain⟨A,c,L,h,m,q⟩:=q;have a:=bC (bL w gc.b) (gc.o+i) v;have hc:=q.cp.cB (gc.o+i) v;rw[d] at hc;refine⟨⟨A,c,L,h,m,q.tb.only a q.tc q.ac,⟨q.fm.n0,q.fm.t,q.fm.b,q.fm.at_.grown a (by simpa using q.fc)⟩,hc,f,q.og,q.D3,q.len,q.tt,q.tf,q.tc,q.fc,q.af,q.ac,λi hi=>⟨abR (q.off i hi).1 a.size,(q.off i hi).2⟩⟩,Kp.grown a λi hi=>⟨(q.off i hi).1,λe=>(q.off i hi).2.2.2.1 (by injection e)⟩⟩
theorem Mo.wP(q:Mo F w gt gf gc T st)(hi:i<=7){v:Int}(a:0<=v)(h1:v<18446744073709551616):Mo F (w.setCell (gc.b,gc.o+i) (.int .u64 v)) gt gf gc T ⟨st.R.set i v,st.pc,st.s⟩/\Kp F w (w.setCell (gc.b,gc.o+i) (.int .u64 v)):=
 q.Tr i _ (Ry gc q.RN.1 q.og hi v) (GW q.RN i a h1)
theorem Mo.Zt(q:Mo F w gt gf gc T st)(p:Int):Mo F (w.setCell (gc.b,gc.o+8) p) gt gf gc T ⟨st.R,p,st.s⟩/\Kp F w (w.setCell (gc.b,gc.o+8) p):=
 q.Tr 8 _ (Xg gc q.RN.1 q.og p) q.RN
theorem Mo.Va(q:Mo F w gt gf gc T st)(hf:Fm w' gf s')(a:w.grownBy w' (some gf)):Mo F w' gt gf gc T ⟨st.R,st.pc,s'⟩/\Kp F w w':=by
 obtain⟨A,c,L,h,m,q⟩:=q;exact⟨⟨A,c,L,h,m,q.tb.only a q.tf q.af,hf,q.cp.grown a (λe=>q.fc (by injection e with e;exact e.symm)),q.rg,q.og,q.D3,q.len,q.tt,q.tf,q.tc,q.fc,q.af,q.ac,λi hi=>⟨abR (q.off i hi).1 a.size,(q.off i hi).2⟩⟩,Kp.grown a λi hi=>⟨(q.off i hi).1,λe=>(q.off i hi).2.2.1 (by injection e)⟩⟩
theorem Mq.Gz(q:Mq F w gt gf gc A c L h m T st)(n:Tb w' gt A' c' L' h' m')(hw:Tw w w' gt (Go.Proofs.YtacgiflhgdaeaaaGreat.aY A))(a:Go.Proofs.YtacgiflhgdaeaaaGreat.aY A'=Go.Proofs.YtacgiflhgdaeaaaGreat.aY A\/∀q,Go.Proofs.YtacgiflhgdaeaaaGreat.aY A'=some q->w.heap.size<=q)
 (hu:qH L') (hl:L'.length<=16) (o:nN L'=ja):Mo F w' gt gf gc ja st/\Kp F w w':=by
 have p:=hw.size;have k:∀i,i<w.heap.size->Go.Proofs.YtacgiflhgdaeaaaGreat.aY A≠some i->Go.Proofs.YtacgiflhgdaeaaaGreat.aY A'≠some i:=λi hi d e=>by
  rcases a with a|a
  .exact d (a.symm.trans e)
  .have:=a i e;omega
 refine⟨⟨A',c',L',h',m',n,⟨q.fm.n0,q.fm.t,q.fm.b,hw.aY q.fm.at_ q.tf.symm (aeF q.af)⟩,hw.aY q.cp q.tc.symm (aeF q.ac),q.rg,q.og,hu,hl,o,q.tf,q.tc,q.fc,k _ q.fm.at_.lt q.af,k _ q.cp.lt q.ac,λi hi=>?_⟩,⟨hw.os,hw.tape,hw.output,hw.size,λi hi=>?_⟩⟩
 .obtain⟨h1,f,j,l,g⟩:=q.off i hi;exact⟨aQ,f,j,l,k i h1 g⟩
 .obtain⟨h1,f,j,l,g⟩:=q.off i hi;exact hw.block i h1 f (aeF g)
end
def gP(p:Int):Except (Int×Int) aC->aM
 | .ok v=> .returned v
 | .error z=> .panicked [{v:= .iface 77 (.agg #[z.1,p, .int .u64 z.2]),recovered:=false}]
def AF(t:Tt)(p:Int)(wr:Bool):aC:=match t p with
 |none=> .tuple #[aU, .int .i64 29]
 |some q=>if wr=true/\q.2=false then .tuple #[aU, .int .i64 23] else .tuple #[q.1,aU]
theorem Nf(F:Nat->Prop)(gt gf:Nat)(gc:Gc)(T:Int->Tt)(st:St)(env p:Int)(wr:Bool)(w:aA)(q:Mo F w gt gf gc T st):
 aG prog 277 #[.pointer gt,env,p,wr] w λe w'=>e= .returned (AF (T env) p wr)/\Mo F w' gt gf gc T st/\Kp F w w':=by
 obtain⟨A,c,L,h,m,q⟩:=q;have a:=Vb q.D3 env p;have b:=Da q.D3 env p;have d:=Rs L env p;unfold lk at a b d;have hl:=q.len;have k:=q.tt;subst k;unfold AF;cases hf:fi L env p with
 |none=>
  rw[hf] at a b d;rw[It hf];refine(TI env p wr gt A c L h m w q.tb aQ hf).mono ?_;rintro e w' ⟨A',l,rfl,f,hw,g⟩;have:=q.Gz f hw g q.D3 q.len q.tt;exact⟨rfl,this.1,this.2⟩
 |some i=>
  obtain⟨hi,_,_⟩:=pT hf;have j:L[i]?=some L[i]:=abO hi;rw[Hm hf j];rw[hf] at a b d;simp only[j,afQ] at a b d;generalize L[i]=x at *;by_cases hc:wr=true/\x.write=false
  .simp only[abS hc];obtain⟨rfl,hc⟩:=hc;refine(RD env p gt A c L h m i x w q.tb aQ hf j hc).mono ?_;rintro e w' ⟨A',l,rfl,f,hw,g⟩;have:=q.Gz f hw g q.D3 q.len q.tt;exact⟨rfl,this.1,this.2⟩
  .simp only[abT hc];refine(SU env p wr gt A c L h m i x w q.tb aQ hf j (λe=>by cases hb:x.write with|true=>rfl|false=>exact absurd ⟨e,hb⟩ hc)).mono ?_;rintro e w' ⟨A',l,rfl,f,hw,g⟩;have:=q.Gz f hw g b (by rw[d];exact q.len) a;exact⟨rfl,this.1,this.2⟩
theorem pZ(f:Nat)(k x p:Int)(gc:Gc)(w:aA)(a:w.cell? (f,0)=some (.pointer (some ⟨gc.b,gc.o,none⟩)))(ca:w.cell? (gc.b,gc.o+8)=some (.int .i64 p)):aG prog 221 #[.pointer f,k, .int .u64 x] w λe w'=>e=gP p (.error (k,x))/\w=w':=
 JM f gc.b gc.o k x p w a ca
structure Fg(w:aA)(f gt gf:Nat)(gc:Gc)(C:Option aJ)(cl cc:Nat)(env:Int):Prop where
 c0:w.cell? (f,0)=some (.pointer (some ⟨gc.b,gc.o,none⟩))
 c1:w.cell? (f,1)=some (.slice C cl cc)
 c2:w.cell? (f,2)=some (.int .i64 env)
 c3:w.cell? (f,3)=some (.pointer gt)
 c4:w.cell? (f,4)=some (.pointer gf)
variable{F:Nat->Prop}{w w':aA}{gt gf cl cc:Nat}{gc:Gc}
theorem Fg.kp{f:Nat}{C:Option aJ}{env:Int}(h:Fg w f gt gf gc C cl cc env)(k:Kp F w w')(hf:F f):Fg w' f gt gf gc C cl cc env:=
 ⟨k.cell h.c0 hf,k.cell h.c1 hf,k.cell h.c2 hf,k.cell h.c3 hf,k.cell h.c4 hf⟩
theorem Fg.keep{f:Nat}{C:Option aJ}{env:Int}(h:Fg w f gt gf gc C cl cc env)(hb:aD w w w'):Fg w' f gt gf gc C cl cc env:=
 ⟨bK hb h.c0,bK hb h.c1,bK hb h.c2,bK hb h.c3,bK hb h.c4⟩
def Qx(F:Nat->Prop)(gt gf:Nat)(gc:Gc)(T:Int->Tt)(st:St)(r:Except (Int×Int) aC)(w:aA)(e:aM)(w':aA):Prop:=e=gP st.pc r/\Mo F w' gt gf gc T st/\Kp F w w'
def wT(r:Except (Int×Int) Int)(k:IntKind):Except (Int×Int) aC:=match r with
 | .ok v=> .ok (.int k v)
 | .error z=> .error z
theorem OP(F:Nat->Prop)(f gt gf:Nat)(gc:Gc)(C:Option aJ)(cl cc:Nat)(env:Int)(T:Int->Tt)(st:St)(g:Int)(wr:Bool)(w:aA)(q:Mo F w gt gf gc T st)(hl:Fg w f gt gf gc C cl cc env)(hf:F f)(v:0<=g)(h1:g<18446744073709551616):
 aG prog 253 #[.pointer f, .int .u64 g,wr] w (Qx F gt gf gc T st (wT (KC (T env) g wr) .i64) w):=by
 have i:=λW (s:Mo F W gt gf gc T st/\Kp F w W)=>(Nf F gt gf gc T st env (g /16) wr W s.1).mono (λe w' ⟨he,hq,hk⟩=>And.intro he (And.intro hq (s.2.trans hk)))
 have HQ:=aP q;unfold KC;have c2:=hl.c2;have c3:=hl.c3;have t:aH (Fg w f gt gf gc C cl cc env):=hl;have j:aH (F f):=hf;have y:IntKind.i64.wrap (g /16)=g /16:=by rw[IntKind.wrap_i64];omega
 clear hl hf q;cases p:T env (g /16) with
 |none=>
  have k:AF (T env) (g /16) wr= .tuple #[aU, .int .i64 29]:=by unfold AF;rw[p]
  rw[k] at i;have n:aH (∀W,(Mo F W gt gf gc T st/\Kp F w W)->aG prog 277 #[.pointer gt,env, .int .i64 (g /16),wr] W λe w'=>e= .returned (.tuple #[aU, .int .i64 29])/\(Mo F w' gt gf gc T st/\Kp F w w')):=i;clear i k;simp only[wT];go_enter func253,ntmps253
  go_wp2_with fail
  (have a:=wK (C:=λW=>Mo F W gt gf gc T st/\Kp F w W) (λW h=>h.2.cell c2 j.o);have b:=wK (C:=λW=>Mo F W gt gf gc T st/\Kp F w W) (λW h=>h.2.cell c3 j.o);haveI ncls_:Nonempty (ID (λW=>Mo F W gt gf gc T st/\Kp F w W)):=⟨⟨_,⟨HQ.o.drew,(Kp.refl F w).drew⟩⟩⟩;refine xZ (λW=>Mo F W gt gf gc T st/\Kp F w W) (⟨HQ.o.drew,(Kp.refl F w).drew⟩) aV aV ?_;(repeat (go_big_quiet_step ((go_at_call 277;with_reducible exact JS n.o))));refine wpQuiet_nil ?_;clear ncls_;clear a b;intro r d;have hC:=M2 d;clear d)
  obtain⟨hq,hk⟩:=hC;have l:=aP (t.o.kp hk j.o);clear c2 c3;have c0:=l.o.c0;have c8:=hq.c8;go_wp2_with fail
  refine(pZ f 5 g st.pc gc r c0 c8).mono ?_;rintro e u ⟨rfl,rfl⟩;simp only[bodyPost,gP];exact⟨trivial,rfl,hq,hk⟩
 |some x=>
  simp only;by_cases hc:wr=true/\x.2=false
  .rw[abS hc];have k:AF (T env) (g /16) wr= .tuple #[aU, .int .i64 23]:=by unfold AF;rw[p];simp only;rw[abS hc]
   rw[k] at i;have n:aH (∀W,(Mo F W gt gf gc T st/\Kp F w W)->aG prog 277 #[.pointer gt,env, .int .i64 (g /16),wr] W λe w'=>e= .returned (.tuple #[aU, .int .i64 23])/\(Mo F w' gt gf gc T st/\Kp F w w')):=i;clear i k;clear hc;simp only[wT];go_enter func253,ntmps253
   go_wp2_with fail
   (have a:=wK (C:=λW=>Mo F W gt gf gc T st/\Kp F w W) (λW h=>h.2.cell c2 j.o);have b:=wK (C:=λW=>Mo F W gt gf gc T st/\Kp F w W) (λW h=>h.2.cell c3 j.o);haveI ncls_:Nonempty (ID (λW=>Mo F W gt gf gc T st/\Kp F w W)):=⟨⟨_,⟨HQ.o.drew,(Kp.refl F w).drew⟩⟩⟩;refine xZ (λW=>Mo F W gt gf gc T st/\Kp F w W) (⟨HQ.o.drew,(Kp.refl F w).drew⟩) aV aV ?_;(repeat (go_big_quiet_step ((go_at_call 277;with_reducible exact JS n.o))));refine wpQuiet_nil ?_;clear ncls_;clear a b;intro r d;have hC:=M2 d;clear d)
   obtain⟨hq,hk⟩:=hC;have l:=aP (t.o.kp hk j.o);clear c2 c3;have c0:=l.o.c0;have c8:=hq.c8;go_wp2_with fail
   refine(pZ f 6 g st.pc gc r c0 c8).mono ?_;rintro e u ⟨rfl,rfl⟩;simp only[bodyPost,gP];exact⟨trivial,rfl,hq,hk⟩
  .rw[abT hc];have k:AF (T env) (g /16) wr= .tuple #[x.1,aU]:=by unfold AF;rw[p];simp only;rw[abT hc]
   rw[k] at i;have n:aH (∀W,(Mo F W gt gf gc T st/\Kp F w W)->aG prog 277 #[.pointer gt,env, .int .i64 (g /16),wr] W λe w'=>e= .returned (.tuple #[x.1,aU])/\(Mo F w' gt gf gc T st/\Kp F w w')):=i;clear i k;clear hc p;simp only[wT];go_enter func253,ntmps253
   go_wp2_with fail
   (have a:=wK (C:=λW=>Mo F W gt gf gc T st/\Kp F w W) (λW h=>h.2.cell c2 j.o);have b:=wK (C:=λW=>Mo F W gt gf gc T st/\Kp F w W) (λW h=>h.2.cell c3 j.o);haveI ncls_:Nonempty (ID (λW=>Mo F W gt gf gc T st/\Kp F w W)):=⟨⟨_,⟨HQ.o.drew,(Kp.refl F w).drew⟩⟩⟩;refine xZ (λW=>Mo F W gt gf gc T st/\Kp F w W) (⟨HQ.o.drew,(Kp.refl F w).drew⟩) aV aV ?_;(repeat (go_big_quiet_step ((go_at_call 277;with_reducible exact JS n.o))));refine wpQuiet_nil ?_;clear ncls_;clear a b;intro r d;have hC:=M2 d;clear d)
   obtain⟨hq,hk⟩:=hC;clear c2 c3;go_wp2_with fail
   go_ret
   exact⟨rfl,hq,hk⟩
end Pa.Cp
end
end
section
open Go.RowKit Go.Lib
open Fr (dK Fm fO rU iV AD xQ WL)
namespace Pa.Cp
def RG(r:Except (Int×Int) dK):Except (Int×Int) aC:=match r with
 | .ok _=> .ok (.tuple #[])
 | .error z=> .error z
def Fu(st:St)(r:Except (Int×Int) dK):St:=match r with
 | .ok s=>⟨st.R,st.pc,s⟩
 | .error _=>st
def Zu(F:Nat->Prop)(gt gf:Nat)(gc:Gc)(T:Int->Tt)(st:St)(r:Except (Int×Int) dK)(w:aA)(e:aM)(w':aA):Prop:=e=gP st.pc (RG r)/\Mo F w' gt gf gc T (Fu st r)/\Kp F w w'
theorem TK(F:Nat->Prop)(f gt gf:Nat)(gc:Gc)(C:Option aJ)(cl cc:Nat)(env:Int)(T:Int->Tt)(st:St)(a:Int)(w:aA)(q:Mo F w gt gf gc T st)(hl:Fg w f gt gf gc C cl cc env)(hf:F f)(l:0<=a)(h1:a<18446744073709551616):
 aG prog 222 #[.pointer f, .int .u64 a] w (Qx F gt gf gc T st (wT (IT (T env) st.s a) .u64) w):=by
 have c:=aP (OP F f gt gf gc C cl cc env T st a false w q hl hf l h1);have i:aH (Fg w f gt gf gc C cl cc env):=hl;have j:aH (F f):=hf;have n:IntKind.i64.wrap (a%16)=a%16:=by rw[IntKind.wrap_i64];omega
 clear hl hf;unfold IT;cases d:KC (T env) a false with
 |error z=>
  rw[d] at c;simp only[wT] at c⊢;go_enter func222,ntmps222
  go_wp2_with fail
  refine c.o.mono ?_;rintro e g ⟨rfl,hq,hk⟩;simp only[gP];go_wp2_with fail
  simp only[bodyPost,gP];exact⟨trivial,rfl,hq,hk⟩
 |ok fr=>
  rw[d] at c;simp only[wT] at c;simp only;by_cases hb:fO st.s fr (a%16)=0
  .rw[abS hb];simp only[wT];go_enter func222,ntmps222
   go_wp2_with fail
   refine c.o.mono ?_;rintro e g ⟨rfl,hq,hk⟩;simp only[gP];have b:=aP (i.o.kp hk j.o);have c4:=b.o.c4;have h:=aP (AD st.s gf fr (a%16) g hq.fr);rw[hb] at h;go_wp2_with fail
   refine h.o.mono ?_;rintro e k ⟨rfl,rfl⟩;go_wp2_with fail
   go_ret
   exact⟨rfl,hq,hk⟩
  .rw[abT hb];simp only[wT];go_enter func222,ntmps222
   go_wp2_with fail
   refine c.o.mono ?_;rintro e g ⟨rfl,hq,hk⟩;simp only[gP];have b:=aP (i.o.kp hk j.o);have c4:=b.o.c4;have c0:=b.o.c0;have c8:=hq.c8;have h:=aP (AD st.s gf fr (a%16) g hq.fr);have m:(fO st.s fr (a%16) !=0)=true:=by simp[hb]
   generalize fO st.s fr (a%16)=z at *;clear hb;go_wp2_with fail
   refine h.o.mono ?_;rintro e k ⟨rfl,rfl⟩;go_wp2_with fail
   refine(pZ f 5 a st.pc gc g c0 c8).mono ?_;rintro e k ⟨rfl,rfl⟩;simp only[bodyPost,gP];exact⟨trivial,rfl,hq,hk⟩
theorem SB(F:Nat->Prop)(f gt gf:Nat)(gc:Gc)(C:Option aJ)(cl cc:Nat)(env:Int)(T:Int->Tt)(st:St)(a v:Int)(w:aA)(q:Mo F w gt gf gc T st)(hl:Fg w f gt gf gc C cl cc env)(hf:F f)(t:0<=a)(h1:a<18446744073709551616)(v0:0<=v)(v1:v<18446744073709551616):
 aG prog 223 #[.pointer f, .int .u64 a, .int .u64 v] w (Zu F gt gf gc T st (stM (T env) st.s a v) w):=by
 have g:=aP (OP F f gt gf gc C cl cc env T st a true w q hl hf t h1);have p:aH (Fg w f gt gf gc C cl cc env):=hl;have m:aH (F f):=hf;have x:IntKind.i64.wrap (a%16)=a%16:=by rw[IntKind.wrap_i64];omega
 clear hl hf;unfold stM;cases h:KC (T env) a true with
 |error z=>
  rw[h] at g;simp only[wT] at g;go_enter func223,ntmps223
  go_wp2_with fail
  refine g.o.mono ?_;rintro e l ⟨rfl,hq,hk⟩;simp only[gP];go_wp2_with fail
  simp only[bodyPost,gP];exact⟨trivial,rfl,hq,hk⟩
 |ok fr=>
  rw[h] at g;simp only[wT] at g;simp only;by_cases hb:fO st.s fr (a%16)=0
  .rw[abS hb];go_enter func223,ntmps223
   go_wp2_with fail
   refine g.o.mono ?_;rintro e l ⟨rfl,hq,hk⟩;simp only[gP];have b:=aP (p.o.kp hk m.o);have c4:=b.o.c4;have i:=aP (xQ st.s gf fr (a%16) (v%256) l hq.fr);rw[hb] at i;go_wp2_with fail
   refine aR i ?_;rintro e r ⟨rfl,c,d⟩;have j:=aP (hq.Va c d);go_wp2_with fail
   go_end0
   exact⟨rfl,j.o.1,hk.trans j.o.2⟩
  .rw[abT hb];go_enter func223,ntmps223
   go_wp2_with fail
   refine g.o.mono ?_;rintro e l ⟨rfl,hq,hk⟩;simp only[gP];have b:=aP (p.o.kp hk m.o);have c4:=b.o.c4;have i:=aP (xQ st.s gf fr (a%16) (v%256) l hq.fr);have u:(fO st.s fr (a%16) !=0)=true:=by simp[hb]
   have k:iV st.s fr (a%16) (v%256)=st.s:=by unfold iV;rw[abT hb]
   rw[k] at i;generalize fO st.s fr (a%16)=z at *;clear hb k;go_wp2_with fail
   refine aR i ?_;rintro e r ⟨rfl,c,d⟩;have hp:=hq.Va c d;have n:=aP (b.o.kp hp.2 m.o);have c0:=n.o.c0;have c8:=hp.1.c8;have j:=aP hp;clear hp c d c4;go_wp2_with fail
   refine(pZ f 5 a st.pc gc r c0 c8).mono ?_;rintro e y ⟨rfl,rfl⟩;simp only[bodyPost,gP];exact⟨trivial,rfl,j.o.1,hk.trans j.o.2⟩
theorem Hq(f:Nat)(b c:Int)(w:aA)(b0:0<=b)(b1:b<18446744073709551616)(c0:0<=c)(c1:c<18446744073709551616):aG prog 224 #[.pointer f, .int .i64 2, .int .u64 b, .int .u64 c] w λe w'=>e= .returned (.int .u64 (rk 2 b c))/\w=w':=by
 simp only[rk,Nat.reduceEqDiff,ac2,acI];go_enter func224,ntmps224
 go_wp2_with fail
 go_ret
 exact⟨rfl,rfl⟩
theorem Iv(f:Nat)(b c:Int)(w:aA)(b0:0<=b)(b1:b<18446744073709551616)(c0:0<=c)(c1:c<18446744073709551616):aG prog 224 #[.pointer f, .int .i64 3, .int .u64 b, .int .u64 c] w λe w'=>e= .returned (.int .u64 (rk 3 b c))/\w=w':=by
 simp only[rk,Nat.reduceEqDiff,ac2,acI];go_enter func224,ntmps224
 go_wp2_with fail
 go_ret
 exact⟨rfl,rfl⟩
theorem Js(f:Nat)(b c:Int)(w:aA)(b0:0<=b)(b1:b<18446744073709551616)(c0:0<=c)(c1:c<18446744073709551616):aG prog 224 #[.pointer f, .int .i64 4, .int .u64 b, .int .u64 c] w λe w'=>e= .returned (.int .u64 (rk 4 b c))/\w=w':=by
 simp only[rk,Nat.reduceEqDiff,ac2,acI];go_enter func224,ntmps224
 go_wp2_with fail
 go_ret
 exact⟨rfl,rfl⟩
theorem Fp(f:Nat)(b c:Int)(w:aA)(b0:0<=b)(b1:b<18446744073709551616)(c0:0<=c)(c1:c<18446744073709551616)(hc:¬c=0):aG prog 224 #[.pointer f, .int .i64 5, .int .u64 b, .int .u64 c] w λe w'=>e= .returned (.int .u64 (rk 5 b c))/\w=w':=by
 simp only[rk,Nat.reduceEqDiff,ac2,acI];go_enter func224,ntmps224
 go_wp2_with fail
 go_ret
 exact⟨rfl,rfl⟩
theorem Jh(f:Nat)(b c:Int)(w:aA)(b0:0<=b)(b1:b<18446744073709551616)(c0:0<=c)(c1:c<18446744073709551616):aG prog 224 #[.pointer f, .int .i64 6, .int .u64 b, .int .u64 c] w λe w'=>e= .returned (.int .u64 (rk 6 b c))/\w=w':=by
 simp only[rk,Nat.reduceEqDiff,ac2,acI];go_enter func224,ntmps224
 go_wp2_with fail
 go_ret
 exact⟨rfl,rfl⟩
theorem Ha(f:Nat)(b c:Int)(w:aA)(b0:0<=b)(b1:b<18446744073709551616)(c0:0<=c)(c1:c<18446744073709551616):aG prog 224 #[.pointer f, .int .i64 7, .int .u64 b, .int .u64 c] w λe w'=>e= .returned (.int .u64 (rk 7 b c))/\w=w':=by
 simp only[rk,Nat.reduceEqDiff,ac2,acI];go_enter func224,ntmps224
 go_wp2_with fail
 go_ret
 exact⟨rfl,rfl⟩
theorem Ia(f:Nat)(b c:Int)(w:aA)(b0:0<=b)(b1:b<18446744073709551616)(c0:0<=c)(c1:c<18446744073709551616):aG prog 224 #[.pointer f, .int .i64 8, .int .u64 b, .int .u64 c] w λe w'=>e= .returned (.int .u64 (rk 8 b c))/\w=w':=by
 simp only[rk,Nat.reduceEqDiff,ac2,acI];go_enter func224,ntmps224
 go_wp2_with fail
 go_ret
 exact⟨rfl,rfl⟩
theorem Je(f:Nat)(b c:Int)(w:aA)(b0:0<=b)(b1:b<18446744073709551616)(c0:0<=c)(c1:c<18446744073709551616):aG prog 224 #[.pointer f, .int .i64 9, .int .u64 b, .int .u64 c] w λe w'=>e= .returned (.int .u64 (rk 9 b c))/\w=w':=by
 simp only[rk,Nat.reduceEqDiff,ac2,acI];go_enter func224,ntmps224
 go_wp2_with fail
 go_ret
 exact⟨rfl,rfl⟩
theorem An(f:Nat)(b c:Int)(w:aA)(b0:0<=b)(b1:b<18446744073709551616)(c0:0<=c)(c1:c<18446744073709551616):aG prog 224 #[.pointer f, .int .i64 10, .int .u64 b, .int .u64 c] w λe w'=>e= .returned (.int .u64 (rk 10 b c))/\w=w':=by
 simp only[rk,Nat.reduceEqDiff,ac2,acI];go_enter func224,ntmps224
 go_wp2_with fail
 go_ret
 exact⟨rfl,rfl⟩
theorem Aa(f:Nat)(b c:Int)(w:aA)(b0:0<=b)(b1:b<18446744073709551616)(c0:0<=c)(c1:c<18446744073709551616):aG prog 224 #[.pointer f, .int .i64 11, .int .u64 b, .int .u64 c] w λe w'=>e= .returned (.int .u64 (rk 11 b c))/\w=w':=by
 simp only[rk,Nat.reduceEqDiff,ac2,acI];go_enter func224,ntmps224
 go_wp2_with fail
 all_goals go_ret
 all_goals exact⟨rfl,rfl⟩
end Pa.Cp
end
section
open Go.RowKit Go.Lib
open dL (Tb)
open Fr (dK Fm)
section
namespace Pa.Cp
variable{F:Nat->Prop}{w:aA}{gt gf:Nat}{gc:Gc}
theorem Mo.o{T:Int->Tt}{st:St}(q:Mo F w gt gf gc T st){p:aJ}(hp:F p.block)(v:aC):Mo F (w.setCell p v) gt gf gc T st:=by
 obtain⟨A,c,L,h,m,q⟩:=q;obtain⟨_,o1,o2,o3,j⟩:=q.off _ hp;have d:w.grownBy (w.setCell p v) (some p.block):=⟨rfl,rfl,rfl,by simp[World.setCell],λk _ g=>Below.heap_setCell w p v k (λe=>g (by rw[e]))⟩
 exact⟨A,c,L,h,m,q.tb.only d (aeF o1) j,⟨q.fm.n0,q.fm.t,q.fm.b,q.fm.at_.grown d (by simpa using aeF o2)⟩,q.cp.grown d (by simpa using aeF o3),q.rg,q.og,q.D3,q.len,q.tt,q.tf,q.tc,q.fc,q.af,q.ac,λi hi=>⟨abR (q.off i hi).1 d.size,(q.off i hi).2⟩⟩
theorem _root_.Go.Proofs.YtacgiflhgdaeaaaGreat.Kp.Ig{a:aA}(h:Kp F a w)(hF:∀i,F i->i<a.heap.size){p:aJ}(hp:a.heap.size<=p.block)(v:aC):Kp F a (w.setCell p v):=
 ⟨h.os,h.tape,h.output,by simpa[World.setCell] using h.size,λi hi=>(Below.heap_setCell w p v i (by have:=hF i hi;omega)).trans (h.block i hi)⟩
def Ui(F:Nat->Prop)(gt gf:Nat)(gc:Gc)(T:Int->Tt)(st:St)(r:Except (Int×Int) (St×Tp))(w:aA)(e:aM)(w':aA):Prop:=match r with
 | .error z=>e=gP st.pc (.error z)/\Mo F w' gt gf gc T st/\Kp F w w'
 | .ok y=>e= .returned (.tuple #[y.1.pc, .agg #[y.2.k,y.2.p, .int .u64 y.2.x]])/\Mo F w' gt gf gc T ⟨y.1.R,st.pc,y.1.s⟩/\Kp F w w'
theorem lB(x:Int):0<=IntKind.u64.wrap x/\IntKind.u64.wrap x<18446744073709551616:=by rw[IntKind.wrap_u64];omega
theorem sZ(op:Nat){b c:Int}(hb:0<=b/\b<18446744073709551616)(hc:0<=c/\c<18446744073709551616):0<=rk op b c/\rk op b c<18446744073709551616:=by
 have hd:∀d:Int,0<d->0<=b /d/\b /d<18446744073709551616:=λd hd=>⟨Int.ediv_nonneg hb.1 aQ,Int.lt_of_le_of_lt (Int.ediv_le_self _ hb.1) hb.2⟩
 unfold rk;split
 .exact lB _
 .split
  .exact lB _
  .split
   .exact lB _
   .split
    .rcases Int.lt_or_eq_of_le hc.1 with h|h
     .exact hd c h
     .rw[<-h];simp
    .split
     .exact lB _
     .split
      .exact lB _
      .split
       .exact lB _
       .split
        .exact lB _
        .split
         .exact hd _ (Int.pow_pos cH)
         .split <;> simp
theorem Dt(f:Nat)(b:Int)(gc:Gc)(p:Int)(w:aA)(d:w.cell? (f,0)=some (.pointer (some ⟨gc.b,gc.o,none⟩)))(ca:w.cell? (gc.b,gc.o+8)=some (.int .i64 p)):aG prog 224 #[.pointer f, .int .i64 5, .int .u64 b,bD] w λe w'=>e=gP p (.error (4,0))/\w=w':=by
 go_enter func224,ntmps224
 go_wp2_with fail
 refine(pZ f 4 0 p gc w d ca).mono ?_;rintro e g ⟨rfl,rfl⟩;simp only[gP];go_wp2_with fail
 simp only[bodyPost,gP];refine⟨trivial,?_⟩;first|exact⟨trivial,rfl⟩|exact⟨rfl,rfl⟩|simp
def eA(w:aA)(b:Nat)(k p x:Int):aA:=((w.setCell (b,0) k).setCell (b,1) p).setCell (b,2) (.int .u64 x)
variable{b:Nat}
theorem Mo.I3{T:Int->Tt}{st:St}(q:Mo F w gt gf gc T st)(hp:F b)(k p x:Int):Mo F (eA w b k p x) gt gf gc T st:=((q.o (p:=⟨b,0,none⟩) hp _).o (p:=⟨b,1,none⟩) hp _).o (p:=⟨b,2,none⟩) hp _
theorem _root_.Go.Proofs.YtacgiflhgdaeaaaGreat.Kp.I4{a:aA}(h:Kp F a w)(hF:∀i,F i->i<a.heap.size)(hp:a.heap.size<=b)(k p x:Int):Kp F a (eA w b k p x):=((h.Ig hF (p:=⟨b,0,none⟩) hp _).Ig hF (p:=⟨b,1,none⟩) hp _).Ig hF (p:=⟨b,2,none⟩) hp _
variable{ad:Int}
theorem Qp{t:Tt}{s:dK}{v:Int}(h:IT t s ad= .ok v):0<=v/\v<18446744073709551616:=by
 unfold IT at h;split at h
 .cases h
 .split at h
  .injection h with h;rw[<-h];exact lB _
  .cases h
structure Yc(F:Nat->Prop)(f gt gf:Nat)(gc:Gc)(C:Option aJ)(cl cc:Nat)(env:Int)(T:Int->Tt)(st:St)(a b c k:Nat)(w:aA):Prop where
 q:Mo F w gt gf gc T st
 hl:Fg w f gt gf gc C cl cc env
 hf:F f
 ha:a<=7
 hb:b<=7
 hc:c<=7
 hk:k<=17592186044415
 p0:0<=st.pc
 p1:st.pc<9223372036854775807
structure ImQ(F F2:Nat->Prop)(f gt gf:Nat)(gc:Gc)(C:Option aJ)(cl cc:Nat)(env:Int)(T:Int->Tt)(st:St)(a b c k:Nat)(o:Int)(w w1:aA):Prop where
 q2:Mo F2 w1 gt gf gc T st
 hs:aH ((∀i,F i->F2 i)/\F2 w.heap.size/\F2 (w.heap.size+1)/\∀i,F i->i<w.heap.size)
 hb:aH (Kp F w w1)
 bt:bF w1 (w.heap.size+1) 77 #[aU,aU,bD]
 hl:aH (Fg w1 f gt gf gc C cl cc env)
 hf:aH (F2 f)
 cf0:w1.cell? (f,0)=some (.pointer (some ⟨gc.b,gc.o,none⟩))
 q8:w1.cell? (gc.b,gc.o+8)=some (.int .i64 st.pc)
 qa:w1.cell? (gc.b,gc.o+a)=some (.int .u64 (rat st.R a))
 qb:w1.cell? (gc.b,gc.o+b)=some (.int .u64 (rat st.R b))
 qc:w1.cell? (gc.b,gc.o+c)=some (.int .u64 (rat st.R c))
 i0:w1.cell? (w.heap.size,0)=some (.int .i64 o)
 i1:w1.cell? (w.heap.size,1)=some (.int .i64 a)
 i2:w1.cell? (w.heap.size,2)=some (.int .i64 b)
 i3:w1.cell? (w.heap.size,3)=some (.int .i64 c)
 i4:w1.cell? (w.heap.size,4)=some (.int .u64 k)
 g0:w1.frozen? (gc.b,gc.o+a)=false
 bd:(0:Int)<=a/\(a:Int)<8/\(0:Int)<=b/\(b:Int)<8/\(0:Int)<=c/\(c:Int)<8
 ra:0<=rat st.R a/\rat st.R a<18446744073709551616
 rb:0<=rat st.R b/\rat st.R b<18446744073709551616
 rc:0<=rat st.R c/\rat st.R c<18446744073709551616
variable{g:Nat}{F2:Nat->Prop}{w0 W:aA}
section
variable{F:Nat->Prop}{f gt gf:Nat}{gc:Gc}{C:Option aJ}{cl cc:Nat}{env:Int}{T:Int->Tt}{st:St}{a b c k:Nat}{w:aA}
theorem gT(o:Int)(P:Yc F f gt gf gc C cl cc env T st a b c k w):∃e,ImQ F e f gt gf gc C cl cc env T st a b c k o w ((w.alloc (aI #[o,a,b,c, .int .u64 k] 365)).alloc (aI #[aU,aU,bD] 77)):=by
 have q2:=(P.q.box (aI #[o,a,b,c, .int .u64 k] 365)).box (aI #[aU,aU,bD] 77);have d:=(aX w (aI #[o,a,b,c, .int .u64 k] 365)).alloc aT (aI #[aU,aU,bD] 77);have bi:=(bF.new w 365 #[o,a,b,c, .int .u64 k]).alloc (aI #[aU,aU,bD] 77);have hl:=P.hl.keep d;exact⟨_,q2,⟨λi hi=> .inl (.inl hi), .inl (.inr rfl), .inr aT,P.q.lt⟩,Kp.cD d P.q.lt,bF.fH _ _ _ aT,hl, .inl (.inl P.hf),hl.c0,q2.c8,q2.Mj P.ha,q2.Mj P.hb,q2.Mj P.hc,bi.cell 0 _ rfl,bi.cell 1 _ rfl,bi.cell 2 _ rfl,bi.cell 3 _ rfl,bi.cell 4 _ rfl,q2.frozen a,by have:=P.ha;have:=P.hb;have:=P.hc;omega,GO q2.RN a,GO q2.RN b,GO q2.RN c⟩
theorem jW(h:bF w g 77 #[aU,aU,bD]):w.cell? (g,0)=some (.int .i64 0)/\w.cell? (g,1)=some (.int .i64 0)/\w.cell? (g,2)=some (.int .u64 0)/\w.frozen? (g,0)=false/\w.frozen? (g,1)=false/\w.frozen? (g,2)=false:=
 ⟨h.cell 0 _ rfl,h.cell 1 _ rfl,h.cell 2 _ rfl,h.frozen 0,h.frozen 1,h.frozen 2⟩
theorem jO(hm:Mo F2 W gt gf gc T st/\Kp F2 w0 W)(hs:(∀i,F i->F2 i)/\F2 w.heap.size/\F2 (w.heap.size+1)/\∀i,F i->i<w.heap.size)(hk:Kp F w w0)(x y z:Int):Mo F (eA W (w.heap.size+1) x y z) gt gf gc T st/\Kp F w (eA W (w.heap.size+1) x y z):=
 ⟨(hm.1.I3 hs.2.2.1 _ _ _).less hs.1,(hk.trans (hm.2.mono hs.1)).I4 hs.2.2.2 aQ _ _ _⟩
def gZ(F:Nat->Prop)(f gt gf:Nat)(gc:Gc)(env:Int)(T:Int->Tt)(st:St)(a b c k:Nat)(w:aA)(o:Int)(op:Nat):Prop:=
 aG prog 176 #[.pointer f, .agg #[o,a,b,c, .int .u64 k]] w (Ui F gt gf gc T st (kT (T env) ⟨op,a,b,c,k⟩ st) w)
end
end Pa.Cp
end
namespace Pa.Cp
section
variable{F:Nat->Prop}{f gt gf:Nat}{gc:Gc}{C:Option aJ}{cl cc:Nat}{env:Int}{T:Int->Tt}{st:St}{a b c k:Nat}{w:aA}(P:Yc F f gt gf gc C cl cc env T st a b c k w)
include P
theorem Qd:gZ F f gt gf gc env T st a b c k w 0 0:=by
 unfold gZ;obtain⟨j,Q⟩:=gT 0 P;have cf0:=P.hl.c0;have q8:=P.q.c8;have d:gc.b<w.heap.size:=P.q.qG.lt;have g:f<w.heap.size:=P.q.lt f P.hf;have p0:=P.p0;have p1:=P.p1;have hk:=P.hk;simp only[kT,Nat.reduceEqDiff,ac2,acI,adZ,adG];go_enter func176,ntmps176
 go_wp2_with fail
 generalize ((w.alloc (aI #[aU,a,b,c, .int .u64 k] 365)).alloc (aI #[aU,aU,bD] 77))=w1 at *;clear cf0 q8;obtain⟨q2,h,i,bt,l,m,cf0,q8,qa,qb,qc,i0,i1,i2,i3,i4,g0,⟨a0,n,b0,b1,c0,c1⟩,ra,rb,rc⟩:=Q;go_quiet (fail)
 obtain⟨p,r,s,l0,l1,t⟩:=jW bt;go_wp2_with fail
 refine(pZ f 2 0 st.pc gc _ (by exact cf0) (by exact q8)).mono ?_;rintro e u ⟨rfl,rfl⟩;simp only[bodyPost,gP];exact⟨trivial,rfl,(q2.drewN nq).less h.o.1,i.o.drewN nq⟩
theorem Sb:gZ F f gt gf gc env T st a b c k w 1 1:=by
 unfold gZ;obtain⟨l,Q⟩:=gT 1 P;have cf0:=P.hl.c0;have q8:=P.q.c8;have d:gc.b<w.heap.size:=P.q.qG.lt;have e:f<w.heap.size:=P.q.lt f P.hf;have p0:=P.p0;have p1:=P.p1;have hk:=P.hk;simp only[kT,Nat.reduceEqDiff,ac2,acI,adZ,adG];go_enter func176,ntmps176
 go_wp2_with fail
 generalize ((w.alloc (aI #[.int .i64 1,a,b,c, .int .u64 k] 365)).alloc (aI #[aU,aU,bD] 77))=g at *;clear cf0 q8;obtain⟨q2,h,i,bt,m,n,cf0,q8,qa,qb,qc,i0,i1,i2,i3,i4,g0,⟨a0,p,b0,b1,c0,c1⟩,ra,rb,rc⟩:=Q;go_quiet (fail)
 obtain⟨r,s,t,l0,l1,u⟩:=jW bt;go_wp2_with fail
 have j:=aP (Mo.wP (q2.drewN nq) P.ha (v:=(k:Int)) (by have:=P.hk;omega) (by have:=P.hk;omega));change bodyPost _ _ _ _ _ (eA ((g.drewN nq).setCell (gc.b,gc.o+a) (.int .u64 k)) (w.heap.size+1) 0 0 0)
 exact bodyPost_ret (v:= .tuple #[.int .i64 (st.pc+1), .agg #[aU,aU,bD]]) (by simp[results,results176,go_sem,eA, *]) rfl ⟨rfl,jO j.o h.o (i.o.drewN nq) _ _ _⟩
theorem Pq:gZ F f gt gf gc env T st a b c k w 14 14:=by
 unfold gZ;obtain⟨e,Q⟩:=gT 14 P;have cf0:=P.hl.c0;have q8:=P.q.c8;have g:gc.b<w.heap.size:=P.q.qG.lt;have h:f<w.heap.size:=P.q.lt f P.hf;have p0:=P.p0;have p1:=P.p1;have hk:=P.hk;simp only[kT,Nat.reduceEqDiff,ac2,acI,adZ,adG];go_enter func176,ntmps176
 go_wp2_with fail
 generalize ((w.alloc (aI #[.int .i64 14,a,b,c, .int .u64 k] 365)).alloc (aI #[aU,aU,bD] 77))=d at *;clear cf0 q8;obtain⟨q2,i,j,bt,m,n,cf0,q8,qa,qb,qc,i0,i1,i2,i3,i4,g0,⟨a0,p,b0,b1,c0,c1⟩,ra,rb,rc⟩:=Q;go_quiet (fail)
 obtain⟨r,s,t,l0,l1,u⟩:=jW bt;go_wp2_with fail
 have l:=bO (q2.drewN nq) (Kp.refl e (d.drewN nq));change bodyPost _ _ _ _ _ (eA (d.drewN nq) (w.heap.size+1) 0 0 0)
 exact bodyPost_ret (v:= .tuple #[k, .agg #[aU,aU,bD]]) (by simp[results,results176,go_sem,eA, *]) rfl ⟨rfl,jO l.o i.o (j.o.drewN nq) _ _ _⟩
theorem XM(d:rat st.R a=0):gZ F f gt gf gc env T st a b c k w 15 15:=by
 unfold gZ;obtain⟨g,Q⟩:=gT 15 P;have cf0:=P.hl.c0;have q8:=P.q.c8;have h:gc.b<w.heap.size:=P.q.qG.lt;have i:f<w.heap.size:=P.q.lt f P.hf;have p0:=P.p0;have p1:=P.p1;have hk:=P.hk;simp only[kT,Nat.reduceEqDiff,ac2,acI,adZ,adG];rw[abS d];replace d:=aP d;go_enter func176,ntmps176
 go_wp2_with fail
 generalize ((w.alloc (aI #[.int .i64 15,a,b,c, .int .u64 k] 365)).alloc (aI #[aU,aU,bD] 77))=e at *;clear cf0 q8;obtain⟨q2,j,l,bt,n,p,cf0,q8,qa,qb,qc,i0,i1,i2,i3,i4,g0,⟨a0,r,b0,b1,c0,c1⟩,ra,rb,rc⟩:=Q;rw[d.o] at qa;go_quiet (fail)
 obtain⟨s,t,u,l0,l1,x⟩:=jW bt;go_wp2_with fail
 have m:=bO (q2.drewN nq) (Kp.refl g (e.drewN nq));change bodyPost _ _ _ _ _ (eA (e.drewN nq) (w.heap.size+1) 0 0 0)
 exact bodyPost_ret (v:= .tuple #[.int .i64 (st.pc+1), .agg #[aU,aU,bD]]) (by simp[results,results176,go_sem,eA, *]) rfl ⟨rfl,jO m.o j.o (l.o.drewN nq) _ _ _⟩
theorem VV(d:¬rat st.R a=0):gZ F f gt gf gc env T st a b c k w 15 15:=by
 unfold gZ;obtain⟨g,Q⟩:=gT 15 P;have cf0:=P.hl.c0;have q8:=P.q.c8;have h:gc.b<w.heap.size:=P.q.qG.lt;have i:f<w.heap.size:=P.q.lt f P.hf;have p0:=P.p0;have p1:=P.p1;have hk:=P.hk;simp only[kT,Nat.reduceEqDiff,ac2,acI,adZ,adG];rw[abT d];replace d:=aP d;go_enter func176,ntmps176
 go_wp2_with fail
 generalize ((w.alloc (aI #[.int .i64 15,a,b,c, .int .u64 k] 365)).alloc (aI #[aU,aU,bD] 77))=e at *;clear cf0 q8;obtain⟨q2,j,l,bt,p,r,cf0,q8,qa,qb,qc,i0,i1,i2,i3,i4,g0,⟨a0,s,b0,b1,c0,c1⟩,ra,rb,rc⟩:=Q;go_quiet (fail)
 obtain⟨t,u,x,l0,l1,y⟩:=jW bt;have m:=d.o;go_wp2_with fail
 have n:=bO (q2.drewN nq) (Kp.refl g (e.drewN nq));change bodyPost _ _ _ _ _ (eA (e.drewN nq) (w.heap.size+1) 0 0 0)
 exact bodyPost_ret (v:= .tuple #[k, .agg #[aU,aU,bD]]) (by simp[results,results176,go_sem,eA, *]) rfl ⟨rfl,jO n.o j.o (l.o.drewN nq) _ _ _⟩
theorem Pg:gZ F f gt gf gc env T st a b c k w 17 17:=by
 unfold gZ;obtain⟨l,Q⟩:=gT 17 P;have cf0:=P.hl.c0;have q8:=P.q.c8;have d:gc.b<w.heap.size:=P.q.qG.lt;have e:f<w.heap.size:=P.q.lt f P.hf;have p0:=P.p0;have p1:=P.p1;have hk:=P.hk;simp only[kT,Nat.reduceEqDiff,ac2,acI,adZ,adG];go_enter func176,ntmps176
 go_wp2_with fail
 generalize ((w.alloc (aI #[.int .i64 17,a,b,c, .int .u64 k] 365)).alloc (aI #[aU,aU,bD] 77))=g at *;clear cf0 q8;obtain⟨q2,h,i,bt,m,n,cf0,q8,qa,qb,qc,i0,i1,i2,i3,i4,g0,⟨a0,p,b0,b1,c0,c1⟩,ra,rb,rc⟩:=Q;go_quiet (fail)
 obtain⟨r,s,t,l0,l1,u⟩:=jW bt;go_wp2_with fail
 have j:=aP (Mo.wP (q2.drewN nq) P.ha (v:=st.pc+1) (by have:=P.p0;omega) (by have:=P.p1;omega));change bodyPost _ _ _ _ _ (eA ((g.drewN nq).setCell (gc.b,gc.o+a) (.int .u64 (st.pc+1))) (w.heap.size+1) 0 0 0)
 exact bodyPost_ret (v:= .tuple #[k, .agg #[aU,aU,bD]]) (by simp[results,results176,go_sem,eA, *]) rfl ⟨rfl,jO j.o h.o (i.o.drewN nq) _ _ _⟩
theorem Hf(d:17592186044415<rat st.R a):gZ F f gt gf gc env T st a b c k w 18 18:=by
 unfold gZ;obtain⟨m,Q⟩:=gT 18 P;have cf0:=P.hl.c0;have q8:=P.q.c8;have g:gc.b<w.heap.size:=P.q.qG.lt;have h:f<w.heap.size:=P.q.lt f P.hf;have p0:=P.p0;have p1:=P.p1;have hk:=P.hk;simp only[kT,Nat.reduceEqDiff,ac2,acI,adZ,adG];rw[abS d];replace d:=aP d;go_enter func176,ntmps176
 go_wp2_with fail
 generalize ((w.alloc (aI #[.int .i64 18,a,b,c, .int .u64 k] 365)).alloc (aI #[aU,aU,bD] 77))=w1 at *;clear cf0 q8;obtain⟨q2,i,j,bt,n,p,cf0,q8,qa,qb,qc,i0,i1,i2,i3,i4,g0,⟨a0,r,b0,b1,c0,c1⟩,ra,rb,rc⟩:=Q;go_quiet (fail)
 obtain⟨s,t,u,l0,l1,v⟩:=jW bt;have l:=d.o;go_wp2_with fail
 refine(pZ f 3 (rat st.R a) st.pc gc _ (by exact cf0) (by exact q8)).mono ?_;rintro e x ⟨rfl,rfl⟩;simp only[bodyPost,gP];exact⟨trivial,rfl,(q2.drewN nq).less i.o.1,j.o.drewN nq⟩
theorem Ho(d:¬17592186044415<rat st.R a):gZ F f gt gf gc env T st a b c k w 18 18:=by
 unfold gZ;obtain⟨g,Q⟩:=gT 18 P;have cf0:=P.hl.c0;have q8:=P.q.c8;have h:gc.b<w.heap.size:=P.q.qG.lt;have i:f<w.heap.size:=P.q.lt f P.hf;have p0:=P.p0;have p1:=P.p1;have hk:=P.hk;simp only[kT,Nat.reduceEqDiff,ac2,acI,adZ,adG];rw[abT d];replace d:=aP d;go_enter func176,ntmps176
 go_wp2_with fail
 generalize ((w.alloc (aI #[.int .i64 18,a,b,c, .int .u64 k] 365)).alloc (aI #[aU,aU,bD] 77))=e at *;clear cf0 q8;obtain⟨q2,j,l,bt,p,r,cf0,q8,qa,qb,qc,i0,i1,i2,i3,i4,g0,⟨a0,s,b0,b1,c0,c1⟩,ra,rb,rc⟩:=Q;go_quiet (fail)
 obtain⟨t,u,x,l0,l1,y⟩:=jW bt;have m:=d.o;go_wp2_with fail
 have n:=bO (q2.drewN nq) (Kp.refl g (e.drewN nq));change bodyPost _ _ _ _ _ (eA (e.drewN nq) (w.heap.size+1) 0 0 0)
 exact bodyPost_ret (v:= .tuple #[.int .i64 (rat st.R a), .agg #[aU,aU,bD]]) (by simp[results,results176,go_sem,eA, *]) rfl ⟨rfl,jO n.o j.o (l.o.drewN nq) _ _ _⟩
theorem Mn(d:rat st.R c=0):gZ F f gt gf gc env T st a b c k w 5 5:=by
 unfold gZ;obtain⟨m,Q⟩:=gT 5 P;have cf0:=P.hl.c0;have q8:=P.q.c8;have h:gc.b<w.heap.size:=P.q.qG.lt;have i:f<w.heap.size:=P.q.lt f P.hf;have p0:=P.p0;have p1:=P.p1;have hk:=P.hk;simp only[kT,Nat.reduceEqDiff,ac2,acI,adZ,adG];rw[abS d];replace d:=aP d;go_enter func176,ntmps176
 go_wp2_with fail
 generalize ((w.alloc (aI #[.int .i64 5,a,b,c, .int .u64 k] 365)).alloc (aI #[aU,aU,bD] 77))=w1 at *;clear cf0 q8;obtain⟨q2,j,l,bt,n,p,cf0,q8,qa,qb,qc,i0,i1,i2,i3,i4,g0,⟨a0,r,b0,b1,c0,c1⟩,ra,rb,rc⟩:=Q;rw[d.o] at qc;go_quiet (fail)
 obtain⟨s,t,u,l0,l1,v⟩:=jW bt;have g:=cf0;go_wp2_with fail
 refine(Dt f (rat st.R b) gc st.pc _ (by exact cf0) (by exact q8)).mono ?_;rintro e x ⟨rfl,rfl⟩;simp only[gP];go_wp2_with fail
 simp only[bodyPost,gP];exact⟨trivial,rfl,(q2.drewN nq).less j.o.1,l.o.drewN nq⟩
theorem Oz(g:¬rat st.R c=0):gZ F f gt gf gc env T st a b c k w 5 5:=by
 unfold gZ;obtain⟨p,Q⟩:=gT 5 P;have cf0:=P.hl.c0;have q8:=P.q.c8;have h:gc.b<w.heap.size:=P.q.qG.lt;have i:f<w.heap.size:=P.q.lt f P.hf;have p0:=P.p0;have p1:=P.p1;have hk:=P.hk;simp only[kT,Nat.reduceEqDiff,ac2,acI,adZ,adG];rw[abT g];replace g:=aP g;go_enter func176,ntmps176
 go_wp2_with fail
 generalize ((w.alloc (aI #[.int .i64 5,a,b,c, .int .u64 k] 365)).alloc (aI #[aU,aU,bD] 77))=j at *;clear cf0 q8;obtain⟨q2,l,m,bt,r,s,cf0,q8,qa,qb,qc,i0,i1,i2,i3,i4,g0,⟨a0,t,b0,b1,c0,c1⟩,ra,rb,rc⟩:=Q;go_quiet (fail)
 obtain⟨u,x,y,l0,l1,z⟩:=jW bt;go_wp2_with(go_at_call 224;refine(Fp f (rat st.R b) (rat st.R c) _ rb.1 rb.2 rc.1 rc.2 g.o).mono ?_;rintro e A ⟨rfl,rfl⟩)
 have d:=sZ 5 rb rc;have n:=aP (Mo.wP (q2.drewN nq) P.ha (v:=rk 5 (rat st.R b) (rat st.R c)) d.1 d.2);change bodyPost _ _ _ _ _ (eA ((j.drewN nq).setCell (gc.b,gc.o+a) (.int .u64 (rk 5 (rat st.R b) (rat st.R c)))) (w.heap.size+1) 0 0 0)
 exact bodyPost_ret (v:= .tuple #[.int .i64 (st.pc+1), .agg #[aU,aU,bD]]) (by simp[results,results176,go_sem,eA, *]) rfl ⟨rfl,jO n.o l.o (m.o.drewN nq) _ _ _⟩
theorem Dy(z:Int×Int)(i:IT (T env) st.s (vU (rat st.R b) k)= .error z):gZ F f gt gf gc env T st a b c k w 12 12:=by
 unfold gZ;obtain⟨l,Q⟩:=gT 12 P;have cf0:=P.hl.c0;have q8:=P.q.c8;have m:gc.b<w.heap.size:=P.q.qG.lt;have n:f<w.heap.size:=P.q.lt f P.hf;have p0:=P.p0;have p1:=P.p1;have hk:=P.hk;simp only[kT,Nat.reduceEqDiff,ac2,acI,adZ,adG];rw[i];simp only;replace i:=aP i;go_enter func176,ntmps176
 go_wp2_with fail
 generalize ((w.alloc (aI #[.int .i64 12,a,b,c, .int .u64 k] 365)).alloc (aI #[aU,aU,bD] 77))=p at *;clear cf0 q8;obtain⟨q2,j,r,bt,g,t,cf0,q8,qa,qb,qc,i0,i1,i2,i3,i4,g0,⟨a0,u,b0,b1,c0,c1⟩,ra,rb,rc⟩:=Q;go_quiet (fail)
 obtain⟨v,x,y,l0,l1,A⟩:=jW bt;have h:=lB (rat st.R b+k);have d:=TK l f gt gf gc C cl cc env T st (vU (rat st.R b) k) (p.drewN nq) (q2.drewN nq) ⟨g.o.c0,g.o.c1,g.o.c2,g.o.c3,g.o.c4⟩ t.o h.1 h.2;rw[i.o] at d;simp only[wT] at d;unfold vU at d;replace d:=aP d;go_wp2_with fail
 refine d.o.mono ?_;rintro e B ⟨rfl,hq,hk⟩;simp only[gP];go_wp2_with fail
 simp only[bodyPost,gP];exact⟨trivial,rfl,hq.less j.o.1,(r.o.drewN nq).trans (hk.mono j.o.1)⟩
theorem Ji(v:Int)(g:IT (T env) st.s (vU (rat st.R b) k)= .ok v):gZ F f gt gf gc env T st a b c k w 12 12:=by
 unfold gZ;obtain⟨u,Q⟩:=gT 12 P;have cf0:=P.hl.c0;have q8:=P.q.c8;have x:gc.b<w.heap.size:=P.q.qG.lt;have y:f<w.heap.size:=P.q.lt f P.hf;have p0:=P.p0;have p1:=P.p1;have hk:=P.hk;simp only[kT,Nat.reduceEqDiff,ac2,acI,adZ,adG];rw[g];simp only;replace g:=aP g;go_enter func176,ntmps176
 go_wp2_with fail
 generalize ((w.alloc (aI #[.int .i64 12,a,b,c, .int .u64 k] 365)).alloc (aI #[aU,aU,bD] 77))=z at *;clear cf0 q8;obtain⟨q2,j,A,bt,h,B,cf0,q8,qa,qb,qc,i0,i1,i2,i3,i4,g0,⟨a0,I,b0,b1,c0,c1⟩,ra,rb,rc⟩:=Q;go_quiet (fail)
 obtain⟨m,n,p,l0,l1,r⟩:=jW bt;have i:=lB (rat st.R b+k);have d:=TK u f gt gf gc C cl cc env T st (vU (rat st.R b) k) (z.drewN nq) (q2.drewN nq) ⟨h.o.c0,h.o.c1,h.o.c2,h.o.c3,h.o.c4⟩ B.o i.1 i.2;rw[g.o] at d;simp only[wT] at d;unfold vU at d;replace d:=aP d;go_wp2_with fail
 refine d.o.mono ?_;rintro e D ⟨rfl,hq,hk⟩;simp only[gP];have l:=hk.aY (bt.drewN nq) j.o.2.2.1;clear m n p l0 l1 r bt;obtain⟨m,n,p,l0,l1,r⟩:=jW l;have t:=Qp g.o;have E:=hq.Mj P.ha;have G:=hq.frozen a;go_wp2_with fail
 have H:=aP (Mo.wP hq P.ha (v:=v) t.1 t.2);change bodyPost _ _ _ _ _ (eA (D.setCell (gc.b,gc.o+a) (.int .u64 v)) (w.heap.size+1) 0 0 0)
 exact bodyPost_ret (v:= .tuple #[.int .i64 (st.pc+1), .agg #[aU,aU,bD]]) (by simp[results,results176,go_sem,eA, *]) rfl ⟨rfl,jO H.o j.o ((A.o.drewN nq).trans (hk.mono j.o.1)) _ _ _⟩
theorem YW(z:Int×Int)(p:stM (T env) st.s (vU (rat st.R b) k) (rat st.R a)= .error z):gZ F f gt gf gc env T st a b c k w 13 13:=by
 unfold gZ;obtain⟨I,Q⟩:=gT 13 P;have cf0:=P.hl.c0;have q8:=P.q.c8;have J:gc.b<w.heap.size:=P.q.qG.lt;have K:f<w.heap.size:=P.q.lt f P.hf;have p0:=P.p0;have p1:=P.p1;have hk:=P.hk;simp only[kT,Nat.reduceEqDiff,ac2,acI,adZ,adG];rw[p];simp only;replace p:=aP p;go_enter func176,ntmps176
 go_wp2_with fail
 generalize ((w.alloc (aI #[.int .i64 13,a,b,c, .int .u64 k] 365)).alloc (aI #[aU,aU,bD] 77))=g at *;clear cf0 q8;obtain⟨q2,r,B,bt,l,L,cf0,q8,qa,qb,qc,i0,i1,i2,i3,i4,g0,⟨a0,O,b0,b1,c0,c1⟩,ra,rb,rc⟩:=Q;go_quiet (fail)
 obtain⟨D,E,G,l0,l1,H⟩:=jW bt;have m:=lB (rat st.R b+k);have h:=aP (λW M hF=>SB I f gt gf gc C cl cc env T st (vU (rat st.R b) k) (rat st.R a) W M hF L.o m.1 m.2 ra.1 ra.2);rw[p.o] at h;unfold vU at h;go_wp2_with fail
 have n:=q2.drewN nq;have i:Kp F w (g.drewN nq):=B.o.drewN nq;have j:bF (g.drewN nq) (w.heap.size+1) 77 #[aU,aU,bD]:=bt;have d:aH (Fg (g.drewN nq) f gt gf gc C cl cc env):=⟨l.o.c0,l.o.c1,l.o.c2,l.o.c3,l.o.c4⟩
 have t:(g.drewN nq).cell? (f,0)=some (.pointer (some ⟨gc.b,gc.o,none⟩)):=cf0;have u:(g.drewN nq).cell? (gc.b,gc.o+8)=some (.int .i64 st.pc):=q8;have v:(g.drewN nq).cell? (gc.b,gc.o+a)=some (.int .u64 (rat st.R a)):=qa;have x:(g.drewN nq).cell? (w.heap.size,4)=some (.int .u64 k):=i4;clear D E G l0 l1 H bt cf0 q8 qa qb qc i0 i1 i2 i3 i4 g0 q2 B l;generalize g.drewN nq=wd at *;go_still_tail 8,aV
 change wpList _ _ _ _ _ wd.drew
 have y:=n.drew;have A:Fg wd.drew f gt gf gc C cl cc env:=⟨d.o.c0,d.o.c1,d.o.c2,d.o.c3,d.o.c4⟩
 replace i:Kp F w wd.drew:=i.drew;replace j:bF wd.drew (w.heap.size+1) 77 #[aU,aU,bD]:=j;clear n d t u v x;generalize wd.drew=N at *;go_wp2_with(go_at_call 223;refine(h.o N y A).mono ?_;rintro e S ⟨rfl,hq,hk⟩;simp only[RG,gP];obtain⟨D,E,G,l0,l1,H⟩:=jW (hk.aY j r.o.2.2.1))
 simp only[RG,Fu] at hq;go_wp2_with fail
 simp only[bodyPost,gP];exact⟨trivial,rfl,hq.less r.o.1,i.trans (hk.mono r.o.1)⟩
theorem ZY(s:dK)(p:stM (T env) st.s (vU (rat st.R b) k) (rat st.R a)= .ok s):gZ F f gt gf gc env T st a b c k w 13 13:=by
 unfold gZ;obtain⟨B,Q⟩:=gT 13 P;have cf0:=P.hl.c0;have q8:=P.q.c8;have K:gc.b<w.heap.size:=P.q.qG.lt;have L:f<w.heap.size:=P.q.lt f P.hf;have p0:=P.p0;have p1:=P.p1;have hk:=P.hk;simp only[kT,Nat.reduceEqDiff,ac2,acI,adZ,adG];rw[p];simp only;replace p:=aP p;go_enter func176,ntmps176
 go_wp2_with fail
 generalize ((w.alloc (aI #[.int .i64 13,a,b,c, .int .u64 k] 365)).alloc (aI #[aU,aU,bD] 77))=g at *;clear cf0 q8;obtain⟨q2,r,D,bt,l,M,cf0,q8,qa,qb,qc,i0,i1,i2,i3,i4,g0,⟨a0,U,b0,b1,c0,c1⟩,ra,rb,rc⟩:=Q;go_quiet (fail)
 obtain⟨E,G,H,l0,l1,I⟩:=jW bt;have m:=lB (rat st.R b+k);have h:=aP (λW N hF=>SB B f gt gf gc C cl cc env T st (vU (rat st.R b) k) (rat st.R a) W N hF M.o m.1 m.2 ra.1 ra.2);rw[p.o] at h;unfold vU at h;go_wp2_with fail
 have n:=q2.drewN nq;have i:Kp F w (g.drewN nq):=D.o.drewN nq;have j:bF (g.drewN nq) (w.heap.size+1) 77 #[aU,aU,bD]:=bt;have d:aH (Fg (g.drewN nq) f gt gf gc C cl cc env):=⟨l.o.c0,l.o.c1,l.o.c2,l.o.c3,l.o.c4⟩
 have t:(g.drewN nq).cell? (f,0)=some (.pointer (some ⟨gc.b,gc.o,none⟩)):=cf0;have u:(g.drewN nq).cell? (gc.b,gc.o+8)=some (.int .i64 st.pc):=q8;have x:(g.drewN nq).cell? (gc.b,gc.o+a)=some (.int .u64 (rat st.R a)):=qa;have y:(g.drewN nq).cell? (w.heap.size,4)=some (.int .u64 k):=i4;clear E G H l0 l1 I bt cf0 q8 qa qb qc i0 i1 i2 i3 i4 g0 q2 D l;generalize g.drewN nq=wd at *;go_still_tail 8,aV
 change wpList _ _ _ _ _ wd.drew
 have z:=n.drew;have A:Fg wd.drew f gt gf gc C cl cc env:=⟨d.o.c0,d.o.c1,d.o.c2,d.o.c3,d.o.c4⟩
 replace i:Kp F w wd.drew:=i.drew;replace j:bF wd.drew (w.heap.size+1) 77 #[aU,aU,bD]:=j;clear n d t u x y;generalize wd.drew=O at *;go_wp2_with(go_at_call 223;refine(h.o O z A).mono ?_;rintro e J ⟨rfl,hq,hk⟩;simp only[RG,gP];obtain⟨E,G,H,l0,l1,I⟩:=jW (hk.aY j r.o.2.2.1))
 simp only[RG,Fu] at hq;have S:=bO hq (Kp.refl B J);change bodyPost _ _ _ _ _ (eA J (w.heap.size+1) 0 0 0)
 exact bodyPost_ret (v:= .tuple #[.int .i64 (st.pc+1), .agg #[aU,aU,bD]]) (by simp[results,results176,go_sem,eA, *]) rfl ⟨rfl,jO S.o r.o (i.trans (hk.mono r.o.1)) _ _ _⟩
theorem Ue:gZ F f gt gf gc env T st a b c k w 16 16:=by
 unfold gZ;obtain⟨B,Q⟩:=gT 16 P;have cf0:=P.hl.c0;have q8:=P.q.c8;have D:gc.b<w.heap.size:=P.q.qG.lt;have E:f<w.heap.size:=P.q.lt f P.hf;have p0:=P.p0;have p1:=P.p1;have hk:=P.hk;simp only[kT,Nat.reduceEqDiff,ac2,acI,adZ,adG];go_enter func176,ntmps176
 go_wp2_with fail
 generalize ((w.alloc (aI #[.int .i64 16,a,b,c, .int .u64 k] 365)).alloc (aI #[aU,aU,bD] 77))=d at *;clear cf0 q8;obtain⟨q2,G,t,bt,g,I,cf0,q8,qa,qb,qc,i0,i1,i2,i3,i4,g0,⟨a0,J,b0,b1,c0,c1⟩,ra,rb,rc⟩:=Q;go_quiet (fail)
 obtain⟨u,x,y,l0,l1,z⟩:=jW bt;go_wp2_with fail
 have h:=q2.drewN nq;have e:Kp F w (d.drewN nq):=t.o.drewN nq;have i:bF (d.drewN nq) (w.heap.size+1) 77 #[aU,aU,bD]:=bt;have l:aH (Fg (d.drewN nq) f gt gf gc C cl cc env):=⟨g.o.c0,g.o.c1,g.o.c2,g.o.c3,g.o.c4⟩
 have m:(d.drewN nq).cell? (f,0)=some (.pointer (some ⟨gc.b,gc.o,none⟩)):=cf0;have n:(d.drewN nq).cell? (gc.b,gc.o+8)=some (.int .i64 st.pc):=q8;have p:(d.drewN nq).cell? (gc.b,gc.o+a)=some (.int .u64 (rat st.R a)):=qa;have r:(d.drewN nq).cell? (w.heap.size,4)=some (.int .u64 k):=i4;clear u x y l0 l1 z bt cf0 q8 qa qb qc i0 i1 i2 i3 i4 g0 q2 t g;generalize d.drewN nq=wd at *;go_still_tail 13,aV
 change wpList _ _ _ _ _ wd.drew
 have j:bF wd.drew (w.heap.size+1) 77 #[aU,aU,bD]:=i;obtain⟨u,x,y,l0,l1,z⟩:=jW j;have s:=h.drew;replace e:Kp F w wd.drew:=e.drew;clear h l m n p r i j;generalize wd.drew=A at *;go_wp2_with fail
 have H:=bO s (Kp.refl B A);change bodyPost _ _ _ _ _ (eA A (w.heap.size+1) (1) (st.pc) (rat st.R a))
 exact bodyPost_ret (v:= .tuple #[.int .i64 (st.pc+1), .agg #[.int .i64 (1), .int .i64 (st.pc), .int .u64 (rat st.R a)]]) (by simp[results,results176,go_sem,eA, *]) rfl ⟨rfl,jO H.o G.o e _ _ _⟩
theorem Zn:gZ F f gt gf gc env T st a b c k w 2 2:=by
 unfold gZ;obtain⟨n,Q⟩:=gT 2 P;have cf0:=P.hl.c0;have q8:=P.q.c8;have g:gc.b<w.heap.size:=P.q.qG.lt;have h:f<w.heap.size:=P.q.lt f P.hf;have p0:=P.p0;have p1:=P.p1;have hk:=P.hk;simp only[kT,Nat.reduceEqDiff,ac2,acI,adZ,adG];go_enter func176,ntmps176
 go_wp2_with fail
 generalize ((w.alloc (aI #[.int .i64 2,a,b,c, .int .u64 k] 365)).alloc (aI #[aU,aU,bD] 77))=i at *;clear cf0 q8;obtain⟨q2,j,l,bt,p,r,cf0,q8,qa,qb,qc,i0,i1,i2,i3,i4,g0,⟨a0,s,b0,b1,c0,c1⟩,ra,rb,rc⟩:=Q;go_quiet (fail)
 obtain⟨t,u,x,l0,l1,y⟩:=jW bt;go_wp2_with(go_at_call 224;refine(Hq f (rat st.R b) (rat st.R c) _ rb.1 rb.2 rc.1 rc.2).mono ?_;rintro e z ⟨rfl,rfl⟩)
 have d:=sZ 2 rb rc;have m:=aP (Mo.wP (q2.drewN nq) P.ha (v:=rk 2 (rat st.R b) (rat st.R c)) d.1 d.2);change bodyPost _ _ _ _ _ (eA ((i.drewN nq).setCell (gc.b,gc.o+a) (.int .u64 (rk 2 (rat st.R b) (rat st.R c)))) (w.heap.size+1) 0 0 0)
 exact bodyPost_ret (v:= .tuple #[.int .i64 (st.pc+1), .agg #[aU,aU,bD]]) (by simp[results,results176,go_sem,eA, *]) rfl ⟨rfl,jO m.o j.o (l.o.drewN nq) _ _ _⟩
theorem Zq:gZ F f gt gf gc env T st a b c k w 3 3:=by
 unfold gZ;obtain⟨n,Q⟩:=gT 3 P;have cf0:=P.hl.c0;have q8:=P.q.c8;have g:gc.b<w.heap.size:=P.q.qG.lt;have h:f<w.heap.size:=P.q.lt f P.hf;have p0:=P.p0;have p1:=P.p1;have hk:=P.hk;simp only[kT,Nat.reduceEqDiff,ac2,acI,adZ,adG];go_enter func176,ntmps176
 go_wp2_with fail
 generalize ((w.alloc (aI #[.int .i64 3,a,b,c, .int .u64 k] 365)).alloc (aI #[aU,aU,bD] 77))=i at *;clear cf0 q8;obtain⟨q2,j,l,bt,p,r,cf0,q8,qa,qb,qc,i0,i1,i2,i3,i4,g0,⟨a0,s,b0,b1,c0,c1⟩,ra,rb,rc⟩:=Q;go_quiet (fail)
 obtain⟨t,u,x,l0,l1,y⟩:=jW bt;go_wp2_with(go_at_call 224;refine(Iv f (rat st.R b) (rat st.R c) _ rb.1 rb.2 rc.1 rc.2).mono ?_;rintro e z ⟨rfl,rfl⟩)
 have d:=sZ 3 rb rc;have m:=aP (Mo.wP (q2.drewN nq) P.ha (v:=rk 3 (rat st.R b) (rat st.R c)) d.1 d.2);change bodyPost _ _ _ _ _ (eA ((i.drewN nq).setCell (gc.b,gc.o+a) (.int .u64 (rk 3 (rat st.R b) (rat st.R c)))) (w.heap.size+1) 0 0 0)
 exact bodyPost_ret (v:= .tuple #[.int .i64 (st.pc+1), .agg #[aU,aU,bD]]) (by simp[results,results176,go_sem,eA, *]) rfl ⟨rfl,jO m.o j.o (l.o.drewN nq) _ _ _⟩
theorem Yz:gZ F f gt gf gc env T st a b c k w 4 4:=by
 unfold gZ;obtain⟨n,Q⟩:=gT 4 P;have cf0:=P.hl.c0;have q8:=P.q.c8;have g:gc.b<w.heap.size:=P.q.qG.lt;have h:f<w.heap.size:=P.q.lt f P.hf;have p0:=P.p0;have p1:=P.p1;have hk:=P.hk;simp only[kT,Nat.reduceEqDiff,ac2,acI,adZ,adG];go_enter func176,ntmps176
 go_wp2_with fail
 generalize ((w.alloc (aI #[.int .i64 4,a,b,c, .int .u64 k] 365)).alloc (aI #[aU,aU,bD] 77))=i at *;clear cf0 q8;obtain⟨q2,j,l,bt,p,r,cf0,q8,qa,qb,qc,i0,i1,i2,i3,i4,g0,⟨a0,s,b0,b1,c0,c1⟩,ra,rb,rc⟩:=Q;go_quiet (fail)
 obtain⟨t,u,x,l0,l1,y⟩:=jW bt;go_wp2_with(go_at_call 224;refine(Js f (rat st.R b) (rat st.R c) _ rb.1 rb.2 rc.1 rc.2).mono ?_;rintro e z ⟨rfl,rfl⟩)
 have d:=sZ 4 rb rc;have m:=aP (Mo.wP (q2.drewN nq) P.ha (v:=rk 4 (rat st.R b) (rat st.R c)) d.1 d.2);change bodyPost _ _ _ _ _ (eA ((i.drewN nq).setCell (gc.b,gc.o+a) (.int .u64 (rk 4 (rat st.R b) (rat st.R c)))) (w.heap.size+1) 0 0 0)
 exact bodyPost_ret (v:= .tuple #[.int .i64 (st.pc+1), .agg #[aU,aU,bD]]) (by simp[results,results176,go_sem,eA, *]) rfl ⟨rfl,jO m.o j.o (l.o.drewN nq) _ _ _⟩
theorem aaF:gZ F f gt gf gc env T st a b c k w 6 6:=by
 unfold gZ;obtain⟨n,Q⟩:=gT 6 P;have cf0:=P.hl.c0;have q8:=P.q.c8;have g:gc.b<w.heap.size:=P.q.qG.lt;have h:f<w.heap.size:=P.q.lt f P.hf;have p0:=P.p0;have p1:=P.p1;have hk:=P.hk;simp only[kT,Nat.reduceEqDiff,ac2,acI,adZ,adG];go_enter func176,ntmps176
 go_wp2_with fail
 generalize ((w.alloc (aI #[.int .i64 6,a,b,c, .int .u64 k] 365)).alloc (aI #[aU,aU,bD] 77))=i at *;clear cf0 q8;obtain⟨q2,j,l,bt,p,r,cf0,q8,qa,qb,qc,i0,i1,i2,i3,i4,g0,⟨a0,s,b0,b1,c0,c1⟩,ra,rb,rc⟩:=Q;go_quiet (fail)
 obtain⟨t,u,x,l0,l1,y⟩:=jW bt;go_wp2_with(go_at_call 224;refine(Jh f (rat st.R b) (rat st.R c) _ rb.1 rb.2 rc.1 rc.2).mono ?_;rintro e z ⟨rfl,rfl⟩)
 have d:=sZ 6 rb rc;have m:=aP (Mo.wP (q2.drewN nq) P.ha (v:=rk 6 (rat st.R b) (rat st.R c)) d.1 d.2);change bodyPost _ _ _ _ _ (eA ((i.drewN nq).setCell (gc.b,gc.o+a) (.int .u64 (rk 6 (rat st.R b) (rat st.R c)))) (w.heap.size+1) 0 0 0)
 exact bodyPost_ret (v:= .tuple #[.int .i64 (st.pc+1), .agg #[aU,aU,bD]]) (by simp[results,results176,go_sem,eA, *]) rfl ⟨rfl,jO m.o j.o (l.o.drewN nq) _ _ _⟩
theorem Zf:gZ F f gt gf gc env T st a b c k w 7 7:=by
 unfold gZ;obtain⟨n,Q⟩:=gT 7 P;have cf0:=P.hl.c0;have q8:=P.q.c8;have g:gc.b<w.heap.size:=P.q.qG.lt;have h:f<w.heap.size:=P.q.lt f P.hf;have p0:=P.p0;have p1:=P.p1;have hk:=P.hk;simp only[kT,Nat.reduceEqDiff,ac2,acI,adZ,adG];go_enter func176,ntmps176
 go_wp2_with fail
 generalize ((w.alloc (aI #[.int .i64 7,a,b,c, .int .u64 k] 365)).alloc (aI #[aU,aU,bD] 77))=i at *;clear cf0 q8;obtain⟨q2,j,l,bt,p,r,cf0,q8,qa,qb,qc,i0,i1,i2,i3,i4,g0,⟨a0,s,b0,b1,c0,c1⟩,ra,rb,rc⟩:=Q;go_quiet (fail)
 obtain⟨t,u,x,l0,l1,y⟩:=jW bt;go_wp2_with(go_at_call 224;refine(Ha f (rat st.R b) (rat st.R c) _ rb.1 rb.2 rc.1 rc.2).mono ?_;rintro e z ⟨rfl,rfl⟩)
 have d:=sZ 7 rb rc;have m:=aP (Mo.wP (q2.drewN nq) P.ha (v:=rk 7 (rat st.R b) (rat st.R c)) d.1 d.2);change bodyPost _ _ _ _ _ (eA ((i.drewN nq).setCell (gc.b,gc.o+a) (.int .u64 (rk 7 (rat st.R b) (rat st.R c)))) (w.heap.size+1) 0 0 0)
 exact bodyPost_ret (v:= .tuple #[.int .i64 (st.pc+1), .agg #[aU,aU,bD]]) (by simp[results,results176,go_sem,eA, *]) rfl ⟨rfl,jO m.o j.o (l.o.drewN nq) _ _ _⟩
theorem aaE:gZ F f gt gf gc env T st a b c k w 8 8:=by
 unfold gZ;obtain⟨n,Q⟩:=gT 8 P;have cf0:=P.hl.c0;have q8:=P.q.c8;have g:gc.b<w.heap.size:=P.q.qG.lt;have h:f<w.heap.size:=P.q.lt f P.hf;have p0:=P.p0;have p1:=P.p1;have hk:=P.hk;simp only[kT,Nat.reduceEqDiff,ac2,acI,adZ,adG];go_enter func176,ntmps176
 go_wp2_with fail
 generalize ((w.alloc (aI #[.int .i64 8,a,b,c, .int .u64 k] 365)).alloc (aI #[aU,aU,bD] 77))=i at *;clear cf0 q8;obtain⟨q2,j,l,bt,p,r,cf0,q8,qa,qb,qc,i0,i1,i2,i3,i4,g0,⟨a0,s,b0,b1,c0,c1⟩,ra,rb,rc⟩:=Q;go_quiet (fail)
 obtain⟨t,u,x,l0,l1,y⟩:=jW bt;go_wp2_with(go_at_call 224;refine(Ia f (rat st.R b) (rat st.R c) _ rb.1 rb.2 rc.1 rc.2).mono ?_;rintro e z ⟨rfl,rfl⟩)
 have d:=sZ 8 rb rc;have m:=aP (Mo.wP (q2.drewN nq) P.ha (v:=rk 8 (rat st.R b) (rat st.R c)) d.1 d.2);change bodyPost _ _ _ _ _ (eA ((i.drewN nq).setCell (gc.b,gc.o+a) (.int .u64 (rk 8 (rat st.R b) (rat st.R c)))) (w.heap.size+1) 0 0 0)
 exact bodyPost_ret (v:= .tuple #[.int .i64 (st.pc+1), .agg #[aU,aU,bD]]) (by simp[results,results176,go_sem,eA, *]) rfl ⟨rfl,jO m.o j.o (l.o.drewN nq) _ _ _⟩
theorem Yt:gZ F f gt gf gc env T st a b c k w 9 9:=by
 unfold gZ;obtain⟨n,Q⟩:=gT 9 P;have cf0:=P.hl.c0;have q8:=P.q.c8;have g:gc.b<w.heap.size:=P.q.qG.lt;have h:f<w.heap.size:=P.q.lt f P.hf;have p0:=P.p0;have p1:=P.p1;have hk:=P.hk;simp only[kT,Nat.reduceEqDiff,ac2,acI,adZ,adG];go_enter func176,ntmps176
 go_wp2_with fail
 generalize ((w.alloc (aI #[.int .i64 9,a,b,c, .int .u64 k] 365)).alloc (aI #[aU,aU,bD] 77))=i at *;clear cf0 q8;obtain⟨q2,j,l,bt,p,r,cf0,q8,qa,qb,qc,i0,i1,i2,i3,i4,g0,⟨a0,s,b0,b1,c0,c1⟩,ra,rb,rc⟩:=Q;go_quiet (fail)
 obtain⟨t,u,x,l0,l1,y⟩:=jW bt;go_wp2_with(go_at_call 224;refine(Je f (rat st.R b) (rat st.R c) _ rb.1 rb.2 rc.1 rc.2).mono ?_;rintro e z ⟨rfl,rfl⟩)
 have d:=sZ 9 rb rc;have m:=aP (Mo.wP (q2.drewN nq) P.ha (v:=rk 9 (rat st.R b) (rat st.R c)) d.1 d.2);change bodyPost _ _ _ _ _ (eA ((i.drewN nq).setCell (gc.b,gc.o+a) (.int .u64 (rk 9 (rat st.R b) (rat st.R c)))) (w.heap.size+1) 0 0 0)
 exact bodyPost_ret (v:= .tuple #[.int .i64 (st.pc+1), .agg #[aU,aU,bD]]) (by simp[results,results176,go_sem,eA, *]) rfl ⟨rfl,jO m.o j.o (l.o.drewN nq) _ _ _⟩
theorem Wu:gZ F f gt gf gc env T st a b c k w 10 10:=by
 unfold gZ;obtain⟨n,Q⟩:=gT 10 P;have cf0:=P.hl.c0;have q8:=P.q.c8;have g:gc.b<w.heap.size:=P.q.qG.lt;have h:f<w.heap.size:=P.q.lt f P.hf;have p0:=P.p0;have p1:=P.p1;have hk:=P.hk;simp only[kT,Nat.reduceEqDiff,ac2,acI,adZ,adG];go_enter func176,ntmps176
 go_wp2_with fail
 generalize ((w.alloc (aI #[.int .i64 10,a,b,c, .int .u64 k] 365)).alloc (aI #[aU,aU,bD] 77))=i at *;clear cf0 q8;obtain⟨q2,j,l,bt,p,r,cf0,q8,qa,qb,qc,i0,i1,i2,i3,i4,g0,⟨a0,s,b0,b1,c0,c1⟩,ra,rb,rc⟩:=Q;go_quiet (fail)
 obtain⟨t,u,x,l0,l1,y⟩:=jW bt;go_wp2_with(go_at_call 224;refine(An f (rat st.R b) (rat st.R c) _ rb.1 rb.2 rc.1 rc.2).mono ?_;rintro e z ⟨rfl,rfl⟩)
 have d:=sZ 10 rb rc;have m:=aP (Mo.wP (q2.drewN nq) P.ha (v:=rk 10 (rat st.R b) (rat st.R c)) d.1 d.2);change bodyPost _ _ _ _ _ (eA ((i.drewN nq).setCell (gc.b,gc.o+a) (.int .u64 (rk 10 (rat st.R b) (rat st.R c)))) (w.heap.size+1) 0 0 0)
 exact bodyPost_ret (v:= .tuple #[.int .i64 (st.pc+1), .agg #[aU,aU,bD]]) (by simp[results,results176,go_sem,eA, *]) rfl ⟨rfl,jO m.o j.o (l.o.drewN nq) _ _ _⟩
theorem Wf:gZ F f gt gf gc env T st a b c k w 11 11:=by
 unfold gZ;obtain⟨n,Q⟩:=gT 11 P;have cf0:=P.hl.c0;have q8:=P.q.c8;have g:gc.b<w.heap.size:=P.q.qG.lt;have h:f<w.heap.size:=P.q.lt f P.hf;have p0:=P.p0;have p1:=P.p1;have hk:=P.hk;simp only[kT,Nat.reduceEqDiff,ac2,acI,adZ,adG];go_enter func176,ntmps176
 go_wp2_with fail
 generalize ((w.alloc (aI #[.int .i64 11,a,b,c, .int .u64 k] 365)).alloc (aI #[aU,aU,bD] 77))=i at *;clear cf0 q8;obtain⟨q2,j,l,bt,p,r,cf0,q8,qa,qb,qc,i0,i1,i2,i3,i4,g0,⟨a0,s,b0,b1,c0,c1⟩,ra,rb,rc⟩:=Q;go_quiet (fail)
 obtain⟨t,u,x,l0,l1,y⟩:=jW bt;go_wp2_with(go_at_call 224;refine(Aa f (rat st.R b) (rat st.R c) _ rb.1 rb.2 rc.1 rc.2).mono ?_;rintro e z ⟨rfl,rfl⟩)
 have d:=sZ 11 rb rc;have m:=aP (Mo.wP (q2.drewN nq) P.ha (v:=rk 11 (rat st.R b) (rat st.R c)) d.1 d.2);change bodyPost _ _ _ _ _ (eA ((i.drewN nq).setCell (gc.b,gc.o+a) (.int .u64 (rk 11 (rat st.R b) (rat st.R c)))) (w.heap.size+1) 0 0 0)
 exact bodyPost_ret (v:= .tuple #[.int .i64 (st.pc+1), .agg #[aU,aU,bD]]) (by simp[results,results176,go_sem,eA, *]) rfl ⟨rfl,jO m.o j.o (l.o.drewN nq) _ _ _⟩
end
end Pa.Cp
section
namespace Pa.Cp
def Gp(x:Nat):aC:=match FG x with
 |some i=> .tuple #[.agg #[i.op,i.a,i.b,i.c, .int .u64 i.n],aU]
 |none=> .tuple #[.agg #[aU,aU,aU,aU,bD], .int .i64 21]
theorem X9(x:Nat)(a:x<18446744073709551616)(w:aA):aG prog 225 #[.int .u64 x] w λe w'=>e= .returned (Gp x)/\aD w w w':=by
 have h:=VX x (x%256) (x /256%16) (x /4096%16) (x /65536%16) (x /1048576) w a (FE x a) aQ _ rfl;unfold Gp FG;cases b:sP ((x%256:Nat):Int) ((x /256%16:Nat):Int) ((x /4096%16:Nat):Int) ((x /65536%16:Nat):Int) ((x /1048576:Nat):Int)
 .rw[b] at h;simpa using h
 .rw[b] at h;simpa using h
structure Cd(F:Nat->Prop)(w:aA)(C:Option aJ)(CL:List Int):Prop where
 sl:Sl eU 1 w C CL
 rg:∀v∈CL,0<=v/\v<18446744073709551616
 len:CL.length<=9223372036854775807
 Qz:0<CL.length->∀b,Go.Proofs.YtacgiflhgdaeaaaGreat.aY C=some b->F b
variable{F:Nat->Prop}{w w':aA}{CL:List Int}
theorem Cd.kp{C:Option aJ}(h:Cd F w C CL)(k:Kp F w w'):Cd F w' C CL:=by
 refine⟨λhp=>?_,h.rg,h.len,h.Qz⟩;obtain⟨b,off,a,hc⟩:=h.sl hp;exact⟨b,off,a,λi x j u c hu=>k.cell (hc i x j u c hu) (h.Qz hp b (by rw[a];rfl))⟩
variable{G:Nat->Prop}
theorem Cd.more{C:Option aJ}(h:Cd F w C CL)(a:∀i,F i->G i):Cd G w C CL:=⟨h.sl,h.rg,h.len,λhp b hb=>a b (h.Qz hp b hb)⟩
variable{i:Nat}
theorem Cd.at_{C:Option aJ}(h:Cd F w C CL)(hi:i<CL.length):∃b off,C=some ⟨b,off,none⟩/\w.cell? ⟨b,off+i,none⟩=some (.int .u64 (rat CL i))/\0<=rat CL i/\rat CL i<18446744073709551616:=by
 obtain⟨b,off,a,hc⟩:=h.sl aQ;have e:rat CL i=CL[i]:=by unfold rat;rw[abO hi];rfl
 refine⟨b,off,a,?_,?_⟩
 .have:=hc i CL[i] 0 (.int .u64 CL[i]) (abO hi) rfl;rw[e];simpa using this
 .rw[e];exact h.rg _ (abY _)
def BW(CL:List Int)(p:Int):Except (Int×Int) In:=
 if p<0\/(CL.length:Int)<=p then .error (3,0)
 else match FG (rat CL p.toNat).toNat with
  |none=> .error (3,rat CL p.toNat)
  |some i=> .ok i
def N9(r:Except (Int×Int) In):Except (Int×Int) aC:=match r with
 | .ok i=> .ok (.agg #[i.op,i.a,i.b,i.c, .int .u64 i.n])
 | .error z=> .error z
theorem IZ(F:Nat->Prop)(f gt gf:Nat)(gc:Gc)(C:Option aJ)(cc:Nat)(g:List Int)(env p:Int)(w:aA)(hl:Fg w f gt gf gc C g.length cc env)(c8:w.cell? (gc.b,gc.o+8)=some (.int .i64 p))(hc:Cd F w C g):
 aG prog 177 #[.pointer f] w λe w'=>e=gP p (N9 (BW g p))/\aD w w w':=by
 have d:=aX w (aI #[aU,aU,aU,aU,bD] 365);have bk:=bF.new w 365 #[aU,aU,aU,aU,bD];have cf0:=bK d hl.c0;have h:=bK d hl.c1;have ca:=bK d c8;have r:=hl.c0;have s:=c8;clear c8;unfold BW;by_cases D:p<0
 .rw[abS (.inl D)];simp only[N9];clear hl hc;go_enter func177,ntmps177
  go_wp2_with fail
  generalize w.alloc (aI #[aU,aU,aU,aU,bD] 365)=w1 at *;go_quiet (fail)
  go_wp2_with fail
  refine(pZ f 3 0 p gc _ (by exact cf0) (by exact ca)).mono ?_;rintro e E ⟨rfl,rfl⟩;simp only[bodyPost,gP];exact⟨rfl,rfl,fL d _⟩
 .by_cases h1:(g.length:Int)<=p
  .rw[abS (.inr h1)];simp only[N9];clear hl hc;generalize g.length=n at *;go_enter func177,ntmps177
   go_wp2_with fail
   generalize w.alloc (aI #[aU,aU,aU,aU,bD] 365)=w1 at *;go_quiet (fail)
   go_wp2_with fail
   refine(pZ f 3 0 p gc _ (by exact cf0) (by exact ca)).mono ?_;rintro e E ⟨rfl,rfl⟩;simp only[bodyPost,gP];exact⟨rfl,rfl,fL d _⟩
  .rw[abT aQ];obtain⟨k,rfl⟩:=abW (show 0<=p by omega);rw[abZ];obtain⟨b,off,L,j,l,m⟩:=hc.at_ (i:=k) aQ;subst L;replace j:=bK d j;obtain⟨x,q⟩:=abW l;rw[q] at j m⊢;rw[abZ];have HD:=aP (λW=>X9 x aQ W);unfold Gp at HD;clear q l m hl hc;clear r s;have hk:k<g.length:=aQ;clear D h1;generalize g.length=n at *;cases hd:FG x with
   |none=>
    rw[hd] at HD;simp only[N9];simp only at HD;go_enter func177,ntmps177
    go_wp2_with fail
    generalize w.alloc (aI #[aU,aU,aU,aU,bD] 365)=w1 at *;go_quiet (fail)
    go_wp2_with fail
    go_quiet (fail)
    go_wp2_with fail
    refine(HD.o _).mono ?_;rintro e G ⟨rfl,hb⟩;replace bk:=(bk.drewN _).keep hb;replace cf0:=bK hb (show World.cell? _ _=_ from cf0);replace ca:=bK hb (show World.cell? _ _=_ from ca);replace d:=fI (fL d _) (abQ _) hb;clear hb h j;have t:=bk.lt;have z0:=bk.cell 0 (.int .i64 0) rfl;have M:=bk.cell 1 (.int .i64 0) rfl;have z2:=bk.cell 2 (.int .i64 0) rfl;have z3:=bk.cell 3 (.int .i64 0) rfl;have z4:=bk.cell 4 (.int .u64 0) rfl;have f0:=bk.frozen 0;have f1:=bk.frozen 1;have f2:=bk.frozen 2;have f3:=bk.frozen 3;have f4:=bk.frozen 4;go_wp2_with fail
    refine(pZ f 3 x k gc _ (bK (aX _ _) cf0) (bK (aX _ _) ca)).mono ?_;rintro e E ⟨rfl,rfl⟩;simp only[gP];go_wp2_with fail
    simp only[bodyPost,gP];exact⟨trivial,trivial,d.alloc d.size _⟩
   |some i=>
    rw[hd] at HD;simp only[N9];simp only at HD;generalize u:i.op=n0 at *;generalize y:i.a=n1 at *;generalize z:i.b=H at *;generalize A:i.c=I at *;generalize B:i.n=J at *;clear hd u y z A B;go_enter func177,ntmps177
    go_wp2_with fail
    generalize w.alloc (aI #[aU,aU,aU,aU,bD] 365)=w1 at *;go_quiet (fail)
    go_wp2_with fail
    go_quiet (fail)
    go_wp2_with fail
    refine(HD.o _).mono ?_;rintro e G ⟨rfl,hb⟩;replace bk:=(bk.drewN _).keep hb;replace d:=fI (fL d _) (abQ _) hb;clear hb cf0 h ca j;have t:=bk.lt;have z0:=bk.cell 0 (.int .i64 0) rfl;have M:=bk.cell 1 (.int .i64 0) rfl;have z2:=bk.cell 2 (.int .i64 0) rfl;have z3:=bk.cell 3 (.int .i64 0) rfl;have z4:=bk.cell 4 (.int .u64 0) rfl;have f0:=bk.frozen 0;have f1:=bk.frozen 1;have f2:=bk.frozen 2;have f3:=bk.frozen 3;have f4:=bk.frozen 4;go_wp2_with fail
    have K:=(d.grown (uG G w (.int .i64 n0) (.int .i64 n1) (.int .i64 H) (.int .i64 I) (.int .u64 J)) d.size (λk hk=>by injection hk with hk;omega))
    exact bodyPost_ret (v:= .agg #[n0,n1,H,I, .int .u64 J]) (by simp[results,results177,go_sem, *]) rfl ⟨rfl,K.alloc K.size _⟩
end Pa.Cp
end
section
namespace Pa.Cp
theorem Me(F:Nat->Prop)(f gt gf:Nat)(gc:Gc)(C:Option aJ)(cl cc:Nat)(env:Int)(T:Int->Tt)(st:St)(i:In)(w:aA)(q:Mo F w gt gf gc T st)(hl:Fg w f gt gf gc C cl cc env)(hf:F f)(ok:Q0 i)(p0:0<=st.pc)(p1:st.pc<9223372036854775807):
 aG prog 176 #[.pointer f, .agg #[i.op,i.a,i.b,i.c, .int .u64 i.n]] w (Ui F gt gf gc T st (kT (T env) i st) w):=by
 obtain⟨op,a,b,c,k⟩:=i;obtain⟨j,h1,d,e,g⟩:=ok;simp only at j h1 d e g;rcases(by omega:op=0\/op=1\/op=2\/op=3\/op=4\/op=5\/op=6\/op=7\/op=8\/op=9\/op=10\/op=11\/op=12\/op=13\/op=14\/op=15\/op=16\/op=17\/op=18) with rfl|rfl|rfl|rfl|rfl|rfl|rfl|rfl|rfl|rfl|rfl|rfl|rfl|rfl|rfl|rfl|rfl|rfl|rfl
 .exact Qd ⟨q,hl,hf,h1,d,e,g,p0,p1⟩
 .exact Sb ⟨q,hl,hf,h1,d,e,g,p0,p1⟩
 .exact Zn ⟨q,hl,hf,h1,d,e,g,p0,p1⟩
 .exact Zq ⟨q,hl,hf,h1,d,e,g,p0,p1⟩
 .exact Yz ⟨q,hl,hf,h1,d,e,g,p0,p1⟩
 .by_cases h:rat st.R c=0
  .exact Mn ⟨q,hl,hf,h1,d,e,g,p0,p1⟩ h
  .exact Oz ⟨q,hl,hf,h1,d,e,g,p0,p1⟩ h
 .exact aaF ⟨q,hl,hf,h1,d,e,g,p0,p1⟩
 .exact Zf ⟨q,hl,hf,h1,d,e,g,p0,p1⟩
 .exact aaE ⟨q,hl,hf,h1,d,e,g,p0,p1⟩
 .exact Yt ⟨q,hl,hf,h1,d,e,g,p0,p1⟩
 .exact Wu ⟨q,hl,hf,h1,d,e,g,p0,p1⟩
 .exact Wf ⟨q,hl,hf,h1,d,e,g,p0,p1⟩
 .cases h:IT (T env) st.s (vU (rat st.R b) k) with
  |error z=>exact Dy ⟨q,hl,hf,h1,d,e,g,p0,p1⟩ z h
  |ok v=>exact Ji ⟨q,hl,hf,h1,d,e,g,p0,p1⟩ v h
 .cases h:stM (T env) st.s (vU (rat st.R b) k) (rat st.R a) with
  |error z=>exact YW ⟨q,hl,hf,h1,d,e,g,p0,p1⟩ z h
  |ok v=>exact ZY ⟨q,hl,hf,h1,d,e,g,p0,p1⟩ v h
 .exact Pq ⟨q,hl,hf,h1,d,e,g,p0,p1⟩
 .by_cases h:rat st.R a=0
  .exact XM ⟨q,hl,hf,h1,d,e,g,p0,p1⟩ h
  .exact VV ⟨q,hl,hf,h1,d,e,g,p0,p1⟩ h
 .exact Ue ⟨q,hl,hf,h1,d,e,g,p0,p1⟩
 .exact Pg ⟨q,hl,hf,h1,d,e,g,p0,p1⟩
 .by_cases h:17592186044415<rat st.R a
  .exact Hf ⟨q,hl,hf,h1,d,e,g,p0,p1⟩ h
  .exact Ho ⟨q,hl,hf,h1,d,e,g,p0,p1⟩ h
theorem Ii(t:Tt)(C:List Int)(m:St):mG t C m=match BW C m.pc with
 | .error z=>(⟨z.1,m.pc,z.2⟩,m)
 | .ok i=>match kT t i m with
  | .error z=>(⟨z.1,m.pc,z.2⟩,m)
  | .ok q=>(q.2,q.1):=by
 unfold mG BW;split
 .rfl
 .cases FG (rat C m.pc.toNat).toNat <;> rfl
variable{p:Int}
theorem TM{C:List Int}{i:In}(h:BW C p= .ok i):Q0 i/\0<=p/\p<C.length:=by
 unfold BW at h;split at h
 .cases h
 .rename_i hp;split at h
  .cases h
  .rename_i j a;injection h with h;subst h;exact⟨Qa a,aQ,aQ⟩
def PH(F:Nat->Prop)(gt gf:Nat)(gc:Gc)(T:Int->Tt)(r:Tp×St)(w:aA)(e:aM)(w':aA):Prop:=e= .returned (.agg #[r.1.k,r.1.p, .int .u64 r.1.x])/\Mo F w' gt gf gc T r.2/\Kp F w w'
variable{F G:Nat->Prop}{w w':aA}{gt gf b:Nat}{gc:Gc}
theorem Mo.KL{T:Int->Tt}{st:St}(q:Mo G w gt gf gc T st)(d:w.grownBy w' (some b))(a:∀i,F i->G i){B:Nat}(hF:∀i,F i->i<B)(hb:B<=b/\G b):Mo F w' gt gf gc T st:=by
 obtain⟨A,c,L,h,m,q⟩:=q;obtain⟨_,o1,o2,o3,e⟩:=q.off _ hb.2;exact⟨A,c,L,h,m,q.tb.only d (aeF o1) e,⟨q.fm.n0,q.fm.t,q.fm.b,q.fm.at_.grown d (by simpa using aeF o2)⟩,q.cp.grown d (by simpa using aeF o3),q.rg,q.og,q.D3,q.len,q.tt,q.tf,q.tc,q.fc,q.af,q.ac,λi hi=>⟨abR (q.off i (a i hi)).1 d.size,(q.off i (a i hi)).2⟩⟩
theorem _root_.Go.Proofs.YtacgiflhgdaeaaaGreat.Kp.N0{a:aA}(h:Kp F a w)(c:w.grownBy w' (some b))(hF:∀i,F i->i<a.heap.size)(hb:a.heap.size<=b):Kp F a w':=
 ⟨c.os.trans h.os,c.tape.trans h.tape,c.output.trans h.output,abX h.size c.size,λi hi=>by
  have:=hF i hi;exact(c.block i (by have:=h.size;omega) bX).trans (h.block i hi)⟩
theorem Nd(F:Nat->Prop)(gt gf:Nat)(gc:Gc)(C:Option aJ)(cc:Nat)(c:List Int)(env:Int)(T:Int->Tt)(st:St)(w:aA)(q:Mo F w gt gf gc T st)(hc:Cd F w C c)(z:Int×Int)(r:BW c st.pc= .error z):
 aG prog 121 #[.pointer (some ⟨gc.b,gc.o,none⟩),(C,c.length,cc), .agg #[env, .pointer gt, .pointer gf]] w (PH F gt gf gc T (⟨z.1,st.pc,z.2⟩,st) w):=by
 have u:∀(fn:Fn) (first cap:Array aC) (w:aA),(Instr.makeFunc fn first cap).run prog w= .ok (.func fn first cap) w:=λ_ _ _ _=>rfl
 obtain⟨d,a⟩:∃d:Nat->Prop,d=λi=>((F i\/i=w.heap.size)\/i=(w.alloc (aI #[env, .pointer gt, .pointer gf] 241)).heap.size)\/i=((w.alloc (aI #[env, .pointer gt, .pointer gf] 241)).alloc (aI #[aU,aU,bD] 77)).heap.size:=⟨_,rfl⟩
 have l:=((q.box (aI #[env, .pointer gt, .pointer gf] 241)).box (aI #[aU,aU,bD] 77)).box (aI #[.pointer (some ⟨gc.b,gc.o,none⟩),(C,c.length,cc),env, .pointer gt, .pointer gf] 362);rw[<-a] at l;have m:aH ((∀i,F i->d i)/\d w.heap.size/\d (w.heap.size+1)/\d (w.heap.size+1+1)/\∀i,F i->i<w.heap.size):=⟨λi hi=>by rw[a];exact .inl (.inl (.inl hi)),by rw[a];exact .inl (.inl (.inr rfl)),by rw[a];exact .inl (.inr aT),by rw[a];exact .inr aT,q.lt⟩
 have s:aD w w (((w.alloc (aI #[env, .pointer gt, .pointer gf] 241)).alloc (aI #[aU,aU,bD] 77)).alloc (aI #[.pointer (some ⟨gc.b,gc.o,none⟩),(C,c.length,cc),env, .pointer gt, .pointer gf] 362)):=((aX w (aI #[env, .pointer gt, .pointer gf] 241)).alloc aT _).alloc bX _;have t:=aP (Kp.cD s q.lt);have bt:=(bF.fH (w.alloc (aI #[env, .pointer gt, .pointer gf] 241)) 77 #[aU,aU,bD] (g:=w.heap.size+1) aT).alloc (aI #[.pointer (some ⟨gc.b,gc.o,none⟩),(C,c.length,cc),env, .pointer gt, .pointer gf] 362);have h:=bF.fH ((w.alloc (aI #[env, .pointer gt, .pointer gf] 241)).alloc (aI #[aU,aU,bD] 77)) 362 #[.pointer (some ⟨gc.b,gc.o,none⟩),(C,c.length,cc),env, .pointer gt, .pointer gf] (g:=w.heap.size+1+1) aT;have n:=(hc.kp (Kp.cD s q.lt)).more m.o.1;clear a q hc;go_enter_defers func121,ntmps121
 go_wp2_with fail
 generalize (((w.alloc (aI #[env, .pointer gt, .pointer gf] 241)).alloc (aI #[aU,aU,bD] 77)).alloc (aI #[.pointer (some ⟨gc.b,gc.o,none⟩),(C,c.length,cc),env, .pointer gt, .pointer gf] 362))=w1 at *;clear s;have hl:Fg w1 (w.heap.size+1+1) gt gf gc C c.length cc env:=⟨h.cell 0 _ rfl,h.cell 1 _ rfl,h.cell 2 _ rfl,h.cell 3 _ rfl,h.cell 4 _ rfl⟩
 have j:=IZ d (w.heap.size+1+1) gt gf gc C cc c env st.pc w1 hl l.c8 n;rw[r] at j;refine j.mono ?_;rintro e v ⟨rfl,hb⟩;replace l:=l.keep hb;replace bt:=bt.keep hb;have x:aH (Kp F w v):=t.o.trans (Kp.cD hb (λi hi=>by have:=m.o.2.2.2.2 i hi;have:=h.lt;omega));replace hl:=hl.keep hb;clear hb h t j;simp only[N9,gP];have HQ:=aP l;clear l hl n;go_wp2_with fail
 refine leaves_cons (f:=175) (args:=#[.pointer (some ⟨w.heap.size+1,0,none⟩)]) aT (by simp[go_sem]) ?_;refine(KK _ z.1 st.pc z.2 _ _ _ [] _ bt).mono ?_;rintro e H y ⟨rfl,rfl,p,k⟩;have A:=k.cell 0 z.1 rfl;have B:=k.cell 1 st.pc rfl;have D:=k.cell 2 (.int .u64 z.2) rfl;have E:=HQ.o.KL p m.o.1 m.o.2.2.2.2 ⟨aQ,m.o.2.2.1⟩;have G:=x.o.N0 p m.o.2.2.2.2 aQ;simp[Leaves,settle,results,results121,go_sem,A,B,D];exact⟨rfl,E,G⟩
theorem Ms(F:Nat->Prop)(gt gf:Nat)(gc:Gc)(C:Option aJ)(cc:Nat)(c:List Int)(env:Int)(T:Int->Tt)(st:St)(w:aA)(q:Mo F w gt gf gc T st)(hc:Cd F w C c)(i:In)(s:BW c st.pc= .ok i)(z:Int×Int)(v:kT (T env) i st= .error z):
 aG prog 121 #[.pointer (some ⟨gc.b,gc.o,none⟩),(C,c.length,cc), .agg #[env, .pointer gt, .pointer gf]] w (PH F gt gf gc T (⟨z.1,st.pc,z.2⟩,st) w):=by
 have E:∀(fn:Fn) (first cap:Array aC) (w:aA),(Instr.makeFunc fn first cap).run prog w= .ok (.func fn first cap) w:=λ_ _ _ _=>rfl
 obtain⟨j,a⟩:∃j:Nat->Prop,j=λi=>((F i\/i=w.heap.size)\/i=(w.alloc (aI #[env, .pointer gt, .pointer gf] 241)).heap.size)\/i=((w.alloc (aI #[env, .pointer gt, .pointer gf] 241)).alloc (aI #[aU,aU,bD] 77)).heap.size:=⟨_,rfl⟩
 have r:=((q.box (aI #[env, .pointer gt, .pointer gf] 241)).box (aI #[aU,aU,bD] 77)).box (aI #[.pointer (some ⟨gc.b,gc.o,none⟩),(C,c.length,cc),env, .pointer gt, .pointer gf] 362);rw[<-a] at r;have d:aH ((∀i,F i->j i)/\j w.heap.size/\j (w.heap.size+1)/\j (w.heap.size+1+1)/\∀i,F i->i<w.heap.size):=⟨λi hi=>by rw[a];exact .inl (.inl (.inl hi)),by rw[a];exact .inl (.inl (.inr rfl)),by rw[a];exact .inl (.inr aT),by rw[a];exact .inr aT,q.lt⟩
 have x:aD w w (((w.alloc (aI #[env, .pointer gt, .pointer gf] 241)).alloc (aI #[aU,aU,bD] 77)).alloc (aI #[.pointer (some ⟨gc.b,gc.o,none⟩),(C,c.length,cc),env, .pointer gt, .pointer gf] 362)):=((aX w (aI #[env, .pointer gt, .pointer gf] 241)).alloc aT _).alloc bX _;have B:=aP (Kp.cD x q.lt);have bt:=(bF.fH (w.alloc (aI #[env, .pointer gt, .pointer gf] 241)) 77 #[aU,aU,bD] (g:=w.heap.size+1) aT).alloc (aI #[.pointer (some ⟨gc.b,gc.o,none⟩),(C,c.length,cc),env, .pointer gt, .pointer gf] 362);have k:=bF.fH ((w.alloc (aI #[env, .pointer gt, .pointer gf] 241)).alloc (aI #[aU,aU,bD] 77)) 362 #[.pointer (some ⟨gc.b,gc.o,none⟩),(C,c.length,cc),env, .pointer gt, .pointer gf] (g:=w.heap.size+1+1) aT;have h:=(hc.kp (Kp.cD x q.lt)).more d.o.1;clear a q hc;go_enter_defers func121,ntmps121
 go_wp2_with fail
 generalize (((w.alloc (aI #[env, .pointer gt, .pointer gf] 241)).alloc (aI #[aU,aU,bD] 77)).alloc (aI #[.pointer (some ⟨gc.b,gc.o,none⟩),(C,c.length,cc),env, .pointer gt, .pointer gf] 362))=w1 at *;clear x;have hl:Fg w1 (w.heap.size+1+1) gt gf gc C c.length cc env:=⟨k.cell 0 _ rfl,k.cell 1 _ rfl,k.cell 2 _ rfl,k.cell 3 _ rfl,k.cell 4 _ rfl⟩
 have HD:=aP (λ(W:aA) hW hl (hi:Q0 i/\0<=st.pc/\st.pc<c.length)=>Me j (w.heap.size+1+1) gt gf gc C c.length cc env T st i W hW hl d.o.2.2.2.1 hi.1 hi.2.1 (by have:=h.len;have:=hi.2.2;omega));have l:=IZ j (w.heap.size+1+1) gt gf gc C cc c env st.pc w1 hl r.c8 h;rw[s] at l;refine l.mono ?_;rintro e D ⟨rfl,hb⟩;replace r:=r.keep hb;replace bt:=bt.keep hb;have y:aH (Kp F w D):=B.o.trans (Kp.cD hb (λi hi=>by have:=d.o.2.2.2.2 i hi;have:=k.lt;omega));replace hl:=hl.keep hb;clear hb k B l;have A:=aP (TM s);have N:=aP h;clear h;simp only[N9,gP];go_wp2_with fail
 have m:=HD.o D r hl A.o;clear HD hl r;rw[v] at m;refine m.mono ?_;rintro e G ⟨rfl,t,n⟩;simp only[gP];replace bt:=n.aY bt d.o.2.2.1;replace y:aH (Kp F w G):=y.o.trans (n.mono d.o.1);have HQ:=aP t;clear m t n;go_wp2_with fail
 refine leaves_cons (f:=175) (args:=#[.pointer (some ⟨w.heap.size+1,0,none⟩)]) aT (by simp[go_sem]) ?_;refine(KK _ z.1 st.pc z.2 _ _ _ [] _ bt).mono ?_;rintro e O H ⟨rfl,rfl,u,p⟩;have I:=p.cell 0 z.1 rfl;have J:=p.cell 1 st.pc rfl;have K:=p.cell 2 (.int .u64 z.2) rfl;have L:=HQ.o.KL u d.o.1 d.o.2.2.2.2 ⟨aQ,d.o.2.2.1⟩;have M:=y.o.N0 u d.o.2.2.2.2 aQ;simp[Leaves,settle,results,results121,go_sem,I,J,K];exact⟨rfl,L,M⟩
theorem Qh(F:Nat->Prop)(gt gf:Nat)(gc:Gc)(C:Option aJ)(cc:Nat)(d:List Int)(env:Int)(T:Int->Tt)(st:St)(w:aA)(q:Mo F w gt gf gc T st)(hc:Cd F w C d)(i:In)(D:BW d st.pc= .ok i)(y:St×Tp)(H:kT (T env) i st= .ok y):
 aG prog 121 #[.pointer (some ⟨gc.b,gc.o,none⟩),(C,d.length,cc), .agg #[env, .pointer gt, .pointer gf]] w (PH F gt gf gc T (y.2,y.1) w):=by
 have S:∀(fn:Fn) (first cap:Array aC) (w:aA),(Instr.makeFunc fn first cap).run prog w= .ok (.func fn first cap) w:=λ_ _ _ _=>rfl
 obtain⟨n,a⟩:∃n:Nat->Prop,n=λi=>((F i\/i=w.heap.size)\/i=(w.alloc (aI #[env, .pointer gt, .pointer gf] 241)).heap.size)\/i=((w.alloc (aI #[env, .pointer gt, .pointer gf] 241)).alloc (aI #[aU,aU,bD] 77)).heap.size:=⟨_,rfl⟩
 have B:=((q.box (aI #[env, .pointer gt, .pointer gf] 241)).box (aI #[aU,aU,bD] 77)).box (aI #[.pointer (some ⟨gc.b,gc.o,none⟩),(C,d.length,cc),env, .pointer gt, .pointer gf] 362);rw[<-a] at B;have j:aH ((∀i,F i->n i)/\n w.heap.size/\n (w.heap.size+1)/\n (w.heap.size+1+1)/\∀i,F i->i<w.heap.size):=⟨λi hi=>by rw[a];exact .inl (.inl (.inl hi)),by rw[a];exact .inl (.inl (.inr rfl)),by rw[a];exact .inl (.inr aT),by rw[a];exact .inr aT,q.lt⟩
 have I:aD w w (((w.alloc (aI #[env, .pointer gt, .pointer gf] 241)).alloc (aI #[aU,aU,bD] 77)).alloc (aI #[.pointer (some ⟨gc.b,gc.o,none⟩),(C,d.length,cc),env, .pointer gt, .pointer gf] 362)):=((aX w (aI #[env, .pointer gt, .pointer gf] 241)).alloc aT _).alloc bX _;have P:=aP (Kp.cD I q.lt);have bt:=(bF.fH (w.alloc (aI #[env, .pointer gt, .pointer gf] 241)) 77 #[aU,aU,bD] (g:=w.heap.size+1) aT).alloc (aI #[.pointer (some ⟨gc.b,gc.o,none⟩),(C,d.length,cc),env, .pointer gt, .pointer gf] 362);have s:=bF.fH ((w.alloc (aI #[env, .pointer gt, .pointer gf] 241)).alloc (aI #[aU,aU,bD] 77)) 362 #[.pointer (some ⟨gc.b,gc.o,none⟩),(C,d.length,cc),env, .pointer gt, .pointer gf] (g:=w.heap.size+1+1) aT;have r:=(hc.kp (Kp.cD I q.lt)).more j.o.1;clear a q hc;go_enter_defers func121,ntmps121
 go_wp2_with fail
 generalize (((w.alloc (aI #[env, .pointer gt, .pointer gf] 241)).alloc (aI #[aU,aU,bD] 77)).alloc (aI #[.pointer (some ⟨gc.b,gc.o,none⟩),(C,d.length,cc),env, .pointer gt, .pointer gf] 362))=w1 at *;clear I;have hl:Fg w1 (w.heap.size+1+1) gt gf gc C d.length cc env:=⟨s.cell 0 _ rfl,s.cell 1 _ rfl,s.cell 2 _ rfl,s.cell 3 _ rfl,s.cell 4 _ rfl⟩
 have HD:=aP (λ(W:aA) hW hl (hi:Q0 i/\0<=st.pc/\st.pc<d.length)=>Me n (w.heap.size+1+1) gt gf gc C d.length cc env T st i W hW hl j.o.2.2.2.1 hi.1 hi.2.1 (by have:=r.len;have:=hi.2.2;omega));have t:=IZ n (w.heap.size+1+1) gt gf gc C cc d env st.pc w1 hl B.c8 r;rw[D] at t;refine t.mono ?_;rintro e Q ⟨rfl,hb⟩;replace B:=B.keep hb;replace bt:=bt.keep hb;have J:aH (Kp F w Q):=P.o.trans (Kp.cD hb (λi hi=>by have:=j.o.2.2.2.2 i hi;have:=s.lt;omega));replace hl:=hl.keep hb;clear hb s P t;have K:=aP (TM D);have Z:=aP r;clear r;simp only[N9,gP];go_wp2_with fail
 have u:=HD.o Q B hl K.o;clear HD hl B;rw[H] at u;refine u.mono ?_;rintro e E ⟨rfl,l,v⟩;replace bt:=v.aY bt j.o.2.2.1;replace J:aH (Kp F w E):=J.o.trans (v.mono j.o.1);have HQ:=aP l;have q8:=l.c8;have g8:=l.frozen 8;have G:gc.b≠w.heap.size+1:=by
  obtain⟨A,c,L,h,m,q⟩:=l;exact aeF (q.off _ j.o.2.2.1).2.2.2.1
 have M:=bt.cell 0 (.int .i64 0) rfl;have N:=bt.cell 1 (.int .i64 0) rfl;have O:=bt.cell 2 (.int .u64 0) rfl;have l0:=bt.frozen 0;have l1:=bt.frozen 1;have U:=bt.frozen 2;clear u l v;go_wp2_with fail
 clear q8 g8 M N O l0 l1 U;refine leaves_cons (f:=175) (args:=#[.pointer (some ⟨w.heap.size+1,0,none⟩)]) aT (by simp[go_sem]) ?_;refine(YI _ _).mono ?_;rintro e u' V ⟨rfl,rfl,rfl⟩;have R:=aP (HQ.o.Zt y.1.pc);have X:Mo n (((((((E.setCell (gc.b,gc.o+8) y.1.pc).setCell (w.heap.size+1,0) y.2.k).setCell (w.heap.size+1,1) y.2.p).setCell (w.heap.size+1,2) (.int .u64 y.2.x)).setCell (w.heap.size+1,0) y.2.k).setCell (w.heap.size+1,1) y.2.p).setCell (w.heap.size+1,2) (.int .u64 y.2.x)) gt gf gc T y.1:=(R.o.1.I3 j.o.2.2.1 y.2.k y.2.p y.2.x).I3 j.o.2.2.1 y.2.k y.2.p y.2.x;have Y:Kp F w (((((((E.setCell (gc.b,gc.o+8) y.1.pc).setCell (w.heap.size+1,0) y.2.k).setCell (w.heap.size+1,1) y.2.p).setCell (w.heap.size+1,2) (.int .u64 y.2.x)).setCell (w.heap.size+1,0) y.2.k).setCell (w.heap.size+1,1) y.2.p).setCell (w.heap.size+1,2) (.int .u64 y.2.x)):=((J.o.trans (R.o.2.mono j.o.1)).I4 j.o.2.2.2.2 (b:=w.heap.size+1) aQ y.2.k y.2.p y.2.x).I4 j.o.2.2.2.2 (b:=w.heap.size+1) aQ y.2.k y.2.p y.2.x;have z:bF (((((((E.setCell (gc.b,gc.o+8) y.1.pc).setCell (w.heap.size+1,0) y.2.k).setCell (w.heap.size+1,1) y.2.p).setCell (w.heap.size+1,2) (.int .u64 y.2.x)).setCell (w.heap.size+1,0) y.2.k).setCell (w.heap.size+1,1) y.2.p).setCell (w.heap.size+1,2) (.int .u64 y.2.x)) (w.heap.size+1) 77 #[y.2.k,y.2.p, .int .u64 y.2.x]:=((((((bt.r8 (p:=⟨gc.b,gc.o+8,none⟩) (aeF G) (.int .i64 y.1.pc)).cB 0 y.2.k).cB 1 y.2.p).cB 2 (.int .u64 y.2.x)).cB 0 y.2.k).cB 1 y.2.p).cB 2 (.int .u64 y.2.x);generalize (((((((E.setCell (gc.b,gc.o+8) y.1.pc).setCell (w.heap.size+1,0) y.2.k).setCell (w.heap.size+1,1) y.2.p).setCell (w.heap.size+1,2) (.int .u64 y.2.x)).setCell (w.heap.size+1,0) y.2.k).setCell (w.heap.size+1,1) y.2.p).setCell (w.heap.size+1,2) (.int .u64 y.2.x))=w5 at *;have M:=z.cell 0 y.2.k rfl;have N:=z.cell 1 y.2.p rfl;have O:=z.cell 2 (.int .u64 y.2.x) rfl;simp[Leaves,settle,results,results121,go_sem,M,N,O];exact⟨rfl,X.less j.o.1,Y⟩
theorem Nb(F:Nat->Prop)(gt gf:Nat)(gc:Gc)(C:Option aJ)(cc:Nat)(a:List Int)(env:Int)(T:Int->Tt)(st:St)(w:aA)(q:Mo F w gt gf gc T st)(hc:Cd F w C a):
 aG prog 121 #[.pointer (some ⟨gc.b,gc.o,none⟩),(C,a.length,cc), .agg #[env, .pointer gt, .pointer gf]] w (PH F gt gf gc T (mG (T env) a st) w):=by
 rw[Ii];cases c:BW a st.pc with
 |error z=>exact Nd F gt gf gc C cc a env T st w q hc z c
 |ok i=>
  simp only;cases d:kT (T env) i st with
  |error z=>exact Ms F gt gf gc C cc a env T st w q hc i c z d
  |ok y=>exact Qh F gt gf gc C cc a env T st w q hc i c y d
end Pa.Cp
end
end
section
open Go.RowKit Go.Lib
namespace Pa.Cp
def FU(F:Nat->Prop)(gt gf:Nat)(gc:Gc)(T:Int->Tt)(r:Tp×Nat×St)(w:aA)(e:aM)(w':aA):Prop:=e= .returned (.tuple #[.agg #[r.1.k,r.1.p, .int .u64 r.1.x],r.2.1])/\Mo F w' gt gf gc T r.2.2/\Kp F w w'
theorem Ve(F:Nat->Prop)(gt gf:Nat)(gc:Gc)(C:Option aJ)(cc:Nat)(y:List Int)(env:Int)(T:Int->Tt)(st:St)(k:Nat)(w:aA)(q:Mo F w gt gf gc T st)(hc:Cd F w C y)(hk:k<=1000):
 aG prog 81 #[.pointer (some ⟨gc.b,gc.o,none⟩),(C,y.length,cc), .agg #[env, .pointer gt, .pointer gf],k] w (FU F gt gf gc T (nH (T env) y k 0 st) w):=by
 obtain⟨p,u⟩:∃p:Nat->Prop,p=λi=>(F i\/i=w.heap.size)\/i=(w.alloc (aI #[env, .pointer gt, .pointer gf] 241)).heap.size:=⟨_,rfl⟩
 have q2:=(q.box (aI #[env, .pointer gt, .pointer gf] 241)).box (aI #[aU,aU,bD] 77);rw[<-u] at q2;have d:aH ((∀i,F i->p i)/\p w.heap.size/\p (w.heap.size+1)/\∀i,F i->i<w.heap.size):=⟨λi hi=>by rw[u];exact .inl (.inl hi),by rw[u];exact .inl (.inr rfl),by rw[u];exact .inr aT,q.lt⟩
 have B:aD w w ((w.alloc (aI #[env, .pointer gt, .pointer gf] 241)).alloc (aI #[aU,aU,bD] 77)):=(aX w (aI #[env, .pointer gt, .pointer gf] 241)).alloc aT _;have Q:=aP (Kp.cD B q.lt);have D:=(bF.new w 241 #[env, .pointer gt, .pointer gf]).alloc (aI #[aU,aU,bD] 77);have bt:=bF.fH (w.alloc (aI #[env, .pointer gt, .pointer gf] 241)) 77 #[aU,aU,bD] (g:=w.heap.size+1) aT;have R:=aP ((hc.kp (Kp.cD B q.lt)).more d.o.1);have S:min (k:Int) 65536=k:=aQ;have U:max (0:Int) k=k:=aQ;clear u q hc;go_enter func81,ntmps81
 go_wp2_with fail
 generalize ((w.alloc (aI #[env, .pointer gt, .pointer gf] 241)).alloc (aI #[aU,aU,bD] 77))=A at *;clear B;have E:=aP q2;clear q2;go_loopw [10,11,17] (λ_ _ G wr=>∃(j:Nat) (m:St),j<=k/\G= .int .i64 j/\aH (Mo p wr gt gf gc T m/\Kp F w wr/\Kp p A wr)/\aH (nH (T env) y (k - j) j m=nH (T env) y k 0 st)) (λ_ _ i _=>k - (aL i).toNat)
 case atStart=>exact⟨0,st,ab0 _,rfl,⟨E.o,Q.o,Kp.refl p A⟩,rfl⟩
 case round=>
  obtain⟨j,m,W,rfl,t,H⟩:=hrel;by_cases V:j<k
  .have z:=aP (Nb p gt gf gc C cc y env T m wr t.o.1 (R.o.kp t.o.2.2));obtain⟨n,pp,f,m2,I⟩:∃n pp f m2,mG (T env) y m=(⟨n,pp,f⟩,m2):=⟨_,_,_,_,rfl⟩
   rw[I] at z;have s:aH (nH (T env) y k 0 st=if n=0 then nH (T env) y (k - (j+1)) (j+1) m2 else if n=1 then(⟨n,pp,f⟩,j+1,m2) else(⟨n,pp,f⟩,j,m2)):=by
    unfold aH;rw[<-H.o,show k - j=(k - (j+1))+1 by omega,nH,I]
   have p0:=(t.o.2.2.aY D d.o.2.1).cell 0 env rfl;have p1:=(t.o.2.2.aY D d.o.2.1).cell 1 (.pointer gt) rfl;have p2:=(t.o.2.2.aY D d.o.2.1).cell 2 (.pointer gf) rfl;clear I H;by_cases K:n=0
   .subst K;go_wp2_with fail
    refine z.o.mono ?_;rintro e l ⟨rfl,c,h⟩;have r:aH (Mo p (l.alloc (aI #[aU, .int .i64 pp, .int .u64 f] 77)) gt gf gc T m2/\Kp F w (l.alloc (aI #[aU, .int .i64 pp, .int .u64 f] 77))/\Kp p A (l.alloc (aI #[aU, .int .i64 pp, .int .u64 f] 77))):=⟨c.keep (aX l _),(t.o.2.1.trans (h.mono d.o.1)).trans ((c.kp (aX l _)).mono d.o.1),(t.o.2.2.trans h).trans (c.kp (aX l _))⟩
    clear c h p0 p1 p2;go_wp2_with fail
    go_roundw
    case rel=>exact⟨j+1,m2,aQ,by go_num,r.o,by unfold aH;rw[s.o];simp⟩
    case measure=>simp[aL];omega
   .by_cases L:n=1
    .subst L;go_wp2_with fail
     refine z.o.mono ?_;rintro e l ⟨rfl,c,h⟩;have r:aH (Mo p (l.alloc (aI #[.int .i64 1, .int .i64 pp, .int .u64 f] 77)) gt gf gc T m2/\Kp F w (l.alloc (aI #[.int .i64 1, .int .i64 pp, .int .u64 f] 77))/\Kp p A (l.alloc (aI #[.int .i64 1, .int .i64 pp, .int .u64 f] 77))):=⟨c.keep (aX l _),(t.o.2.1.trans (h.mono d.o.1)).trans ((c.kp (aX l _)).mono d.o.1),(t.o.2.2.trans h).trans (c.kp (aX l _))⟩
     clear c h p0 p1 p2;have a:=r.o.2.2.aY bt d.o.2.2.1;have M:=a.cell 0 (.int .i64 0) rfl;have N:=a.cell 1 (.int .i64 0) rfl;have O:=a.cell 2 (.int .u64 0) rfl;have l0:=a.frozen 0;have l1:=a.frozen 1;have P:=a.frozen 2;go_wp2_with fail
     have x:=bO (r.o.1.I3 d.o.2.2.1 (1) (pp) (f)) (r.o.2.1.I4 d.o.2.2.2 (b:=w.heap.size+1) aQ (1) (pp) (f));change bodyPost _ _ _ _ _ (eA (l.alloc (aI #[.int .i64 1, .int .i64 pp, .int .u64 f] 77)) (w.heap.size+1) (1) (pp) (f))
     refine bodyPost_ret (v:= .tuple #[.agg #[.int .i64 (1), .int .i64 (pp), .int .u64 (f)], .int .i64 (((j:Nat):Int)+1)]) (by simp[results,results81,go_sem,eA, *]) rfl ?_;unfold FU;rw[s.o];simp only[ac2];exact⟨rfl,x.o.1.less d.o.1,x.o.2⟩
    .have J:aH (¬n=0):=K;go_wp2_with fail
     refine z.o.mono ?_;rintro e l ⟨rfl,c,h⟩;have r:aH (Mo p (l.alloc (aI #[.int .i64 n, .int .i64 pp, .int .u64 f] 77)) gt gf gc T m2/\Kp F w (l.alloc (aI #[.int .i64 n, .int .i64 pp, .int .u64 f] 77))/\Kp p A (l.alloc (aI #[.int .i64 n, .int .i64 pp, .int .u64 f] 77))):=⟨c.keep (aX l _),(t.o.2.1.trans (h.mono d.o.1)).trans ((c.kp (aX l _)).mono d.o.1),(t.o.2.2.trans h).trans (c.kp (aX l _))⟩
     clear c h p0 p1 p2;have a:=r.o.2.2.aY bt d.o.2.2.1;have M:=a.cell 0 (.int .i64 0) rfl;have N:=a.cell 1 (.int .i64 0) rfl;have O:=a.cell 2 (.int .u64 0) rfl;have l0:=a.frozen 0;have l1:=a.frozen 1;have P:=a.frozen 2;go_wp2_with fail
     have x:=bO (r.o.1.I3 d.o.2.2.1 (n) (pp) (f)) (r.o.2.1.I4 d.o.2.2.2 (b:=w.heap.size+1) aQ (n) (pp) (f));change bodyPost _ _ _ _ _ (eA (l.alloc (aI #[.int .i64 n, .int .i64 pp, .int .u64 f] 77)) (w.heap.size+1) (n) (pp) (f))
     refine bodyPost_ret (v:= .tuple #[.agg #[.int .i64 (n), .int .i64 (pp), .int .u64 (f)], .int .i64 (j)]) (by simp[results,results81,go_sem,eA, *]) rfl ?_;unfold FU;rw[s.o,abT J.o,abT L];exact⟨rfl,x.o.1.less d.o.1,x.o.2⟩
  .obtain rfl:j=k:=aQ;have r:=t;have a:=r.o.2.2.aY bt d.o.2.2.1;have M:=a.cell 0 (.int .i64 0) rfl;have N:=a.cell 1 (.int .i64 0) rfl;have O:=a.cell 2 (.int .u64 0) rfl;have l0:=a.frozen 0;have l1:=a.frozen 1;have P:=a.frozen 2;have s:aH (nH (T env) y j 0 st=(⟨0,0,0⟩,j,m)):=by
    unfold aH;rw[<-H.o,Nat.sub_self];rfl
   go_wp2_with fail
   .have x:=bO (r.o.1.I3 d.o.2.2.1 (0) (0) (0)) (r.o.2.1.I4 d.o.2.2.2 (b:=w.heap.size+1) aQ (0) (0) (0));change bodyPost _ _ _ _ _ (eA wr (w.heap.size+1) (0) (0) (0))
    refine bodyPost_ret (v:= .tuple #[.agg #[aU,aU,bD], .int .i64 (((j:Nat):Int))]) (by simp[results,results81,go_sem,eA, *]) rfl ?_;unfold FU;rw[s.o];exact⟨rfl,x.o.1.less d.o.1,x.o.2⟩
   .obtain rfl:j=0:=aQ;have x:=bO (r.o.1.I3 d.o.2.2.1 (0) (0) (0)) (r.o.2.1.I4 d.o.2.2.2 (b:=w.heap.size+1) aQ (0) (0) (0));change bodyPost _ _ _ _ _ (eA wr (w.heap.size+1) (0) (0) (0))
    refine bodyPost_ret (v:= .tuple #[.agg #[aU,aU,bD],aU]) (by simp[results,results81,go_sem,eA, *]) rfl ?_;unfold FU;rw[s.o];exact⟨rfl,x.o.1.less d.o.1,x.o.2⟩
end Pa.Cp
end
section
open Go.RowKit
def CR(C:Nat->aA->Prop)(b:Nat×Nat):aA->Prop:=λw=>∃p,b.1<=p/\p<=b.2/\C p w
section
variable{P:aO}{E:aA->Prop}{C:Nat->aA->Prop}{B:List (Nat×Nat)}{Z:Nat->aA->aA->Prop}{made T:List Nat}{S:Nat->aC->aA->Prop}{ops:Array aK}
def YL(made:List Nat)(ops:Array aK)(i:Nat)(o:aK):List Nat:=made.filter λk=>(o.looksAt ops).contains k&&(List.range i).any λj=>fV ops j==some k
def OB(P:aO)(E C:aA->Prop)(Z:aA->aA->Prop)(made:List Nat)(S:Nat->aC->aA->Prop)(ops:Array aK)(i:Nat)(o:aK)(a:Act)(v:aC):Prop:=
 match jP made o with
 |some d=>v=undef/\∀(γ:Nat->aC) (w:aA),C w->(∀k∈YL made ops i o,S k (γ k) w)->AG P Z (S d) w ((execOp (cE γ (YL made ops i o) a).eval o).run P w)
 |none=>
  if YL made ops i o= [] then
   (if nY o then ∀w,(∃n:MF,w=n.w)->o.quietAt P a (λw=>∃n:MF,w=n.w) w v
   else if plain o then ∀w,(∃n:CW E,w=n.w)->o.quietAt P a (λw=>∃n:CW E,w=n.w) w v
   else ∀w,C w->AG P Z (λu _=>u=v) w ((execOp a.eval o).run P w))
  else ∀(γ:Nat->aC) (w:aA),C w->(∀k∈YL made ops i o,S k (γ k) w)->AG P Z (λu _=>u=v) w ((execOp (cE γ (YL made ops i o) a).eval o).run P w)
def vD(C:aA->Prop)(Z:aA->aA->Prop)(made:List Nat)(S:Nat->aC->aA->Prop)(inT:Bool)(o:aK):Prop:=(∀d,jP made o=some d->∀w,C w->S d undef w)/\(inT=true->∀w,C w->Z w w)
def HAt(P:aO)(ops:Array aK)(T:List Nat)(E:aA->Prop)(C:Nat->aA->Prop)(B:List (Nat×Nat))(Z:Nat->aA->aA->Prop)(made:List Nat)(S:Nat->aC->aA->Prop)(i:Nat)(o:aK)(a:Act)(v:aC):Prop:=
 (Region.wanted o (yielded ops a.tmps)=true/\OB P E (CR C (B.getD i (0,0))) (Z i) made S ops i o a v)\/(Region.wanted o (yielded ops a.tmps)=false/\v=undef/\vD (CR C (B.getD i (0,0))) (Z i) made S (T.contains i) o)
end
end
section
open Go.RowKit Go.Lib
variable{sz:Nat}{w w':aA}{A:Option aJ}{F:Nat->Prop}
section
theorem bH.kp{α:Type}{enc:α->List aC}{base c:Nat}{e:aN}{xs:List α}(h:bH enc sz w base e A c xs)(hk:Kp F w w')(hF:∀q,aY A=some q->F q):bH enc sz w' base e A c xs:=by
 refine⟨h.1,?_⟩;rcases h.2 with h1|⟨g,cap,cur,h1,a,b,d⟩
 .exact .inl h1
 .exact .inr ⟨g,cap,cur,h1,a,(hk.block g (hF g (by injection h1 with h1;rw[h1];rfl))).trans b,d⟩
theorem Sl.kp{α:Type}{enc:α->List aC}{xs:List α}(h:Sl enc sz w A xs)(hk:Kp F w w')(hF:∀q,aY A=some q->F q):Sl enc sz w' A xs:=λc=>by
 obtain⟨b,off,a,hc⟩:=h c;exact⟨b,off,a,λi x j u d hu=>hk.cell (hc i x j u d hu) (hF b (by rw[a];rfl))⟩
end
variable{q i j n:Nat}{v:aC}
section
variable{α:Type}{enc:α->List aC}{sz:Nat}
theorem Fa(he:∀x,(enc x).length=sz)(k:0<sz)(cur:Array aC)(R:List α)(i c:Nat)(x:α)(hi:i<R.length)(hc:R.length<=c)(hs:cur.size=c *sz)(l:cur.toList.take (R.length *sz)=R.flatMap enc):
 (lay cur (i *sz) (enc x)).toList.take (R.length *sz)=(R.set i x).flatMap enc:=by
 have m:(i+1) *sz<=R.length *sz:=adH _ hi;have n:R.length *sz<=c *sz:=adH _ hc;rw[adW,ae7] at m;apply aeW;intro j;by_cases d:j<R.length *sz
 .rw[acN,abS d,acH,lay_get? _ _ _ _ (by rw[he];omega),he];have hq:j /sz<R.length:=af4 (by rw[afV];exact d);have a:j /sz *sz+j%sz=j:=by rw[afV];exact Nat.div_add_mod j sz
  have e:j%sz<sz:=agB _ k;by_cases f:j /sz=i
  .have h1:=kH he (R.set i x) i x (j%sz) (by simp[hi]) e;rw[f] at a;rw[abS aQ,show j - i *sz=j%sz by omega,<-h1,a]
  .have h1:=kH he (R.set i x) (j /sz) R[j /sz] (j%sz) (by rw[ad4 aQ,abO hq]) e;have h:=kH he R (j /sz) R[j /sz] (j%sz) (abO hq) e;have g:¬(i *sz<=j/\j<i *sz+sz):=by
    intro o;rcases aeH (j /sz) i with b|hge
    .have:=adH sz b;rw[Nat.succ_mul] at this;omega
    .have b:i+1<=j /sz:=aQ;have:=adH sz b;rw[adW,ae7] at this;omega
   rw[a] at h1 h;rw[abT g,h1,<-h,<-l,acN,abS d,acH]
 .rw[adC (by rw[ac9];omega),adC (by rw[fF he,ab5];omega)]
theorem MB(he:∀x,(enc x).length=sz)(d:0<sz){base:Nat}{e:aN}{c:Nat}{R:List α}(h:bH enc sz w base e q c R)(hi:i<R.length)(x:α):
 bH enc sz (w.setCells q (i *sz) (enc x)) base e q c (R.set i x)/\w.grownBy (w.setCells q (i *sz) (enc x)) (some q):=by
 obtain⟨cur,h1,f,a,g,b,j⟩:=eY h;refine⟨?_,fN q _ _ w w (bL w q)⟩;have k:=iX q e (enc x) (i *sz) w cur f;have l:=Fa he d cur R i c x hi a b j;exact⟨fF he _, .inr ⟨q,c,_,rfl,h1,k,by rw[ab5];exact a,g,by rw[lay_size];exact b,by rw[ab5];exact l⟩⟩
theorem bM(he:eW enc sz){base:Nat}{e:aN}{c:Nat}{R:List α}(h:bH enc sz w base e q c R)(hi:i<R.length)(d:(enc R[i])[j]?=some v):w.cell? (q,i *sz+j)=some v:=by
 obtain⟨b,off,a,hc⟩:=(h.sl he).at_ hi;injection a with a;injection a with h1 f;subst h1 f;simpa using hc j v d
theorem N3{base:Nat}{e:aN}{c:Nat}{R:List α}(h:bH enc sz w base e q c R)(hi:i<c):w.there q (i *sz) sz:=λj b=>by
 have a:(i+1) *sz<=c *sz:=adH _ hi;rw[adW,ae7] at a;exact dD h (i *sz+j) aQ
theorem Pf(he:∀x,(enc x).length=sz){base:Nat}{e:aN}{c:Nat}{R:List α}(h:bH enc sz w base e q c R)(a:n<=R.length):bH enc sz w base e q c (R.take n):=by
 obtain⟨cur,h1,b,j,d,f,g⟩:=eY h;have hl:(R.take n).length=n:=bX;have i:n *sz<=R.length *sz:=adH _ a;refine⟨fF he _, .inr ⟨q,c,cur,rfl,h1,b,aQ,d,f,?_⟩⟩;rw[hl,N2 he,<-g,List.take_take,Nat.min_eq_left i]
end
section
variable{α:Type}{enc:α->List aC}{sz:Nat}
theorem OD(he:∀x,(enc x).length=sz):∀(R:List α) (i j:Nat) (x:α) (v:aC),(hi:i<R.length)->j<sz->enc x=(enc R[i]).set j v->(R.flatMap enc).set (i *sz+j) v=(R.set i x).flatMap enc
 | [],i,j,x,v,hi,_,_=>absurd hi (adY _)
 |y::ys,0,j,x,v,_,a,b=>by
  simp only[acK,abV,ae6,acT];rw[adV _ _ (by rw[he];exact a),b];rfl
 |y::ys,i+1,j,x,v,hi,a,b=>by
  simp only[acK,abU];rw[acA _ _ (by rw[he,adW];omega),he,show(i+1) *sz+j - sz=i *sz+j by rw[adW];omega,OD he ys i j x v (by simpa using hi) a (by simpa using b)]
theorem qX(he:∀x,(enc x).length=sz){base:Nat}{e:aN}{c:Nat}{R:List α}(h:bH enc sz w base e q c R)(hi:i<R.length)(a:j<sz)(x:α)(v:aC)(b:enc x=(enc R[i]).set j v):
 bH enc sz (w.setCell (q,i *sz+j) v) base e q c (R.set i x)/\w.grownBy (w.setCell (q,i *sz+j) v) (some q):=by
 have h1:=World.ownsRow.stored h (i *sz+j) v;rw[OD he R i j x v hi a b] at h1;unfold bH;rw[ab5];exact h1
end
def Ol(F:Nat->Prop)(w:aA):Prop:=∀b,F b->b<w.heap.size
section
variable{F:Nat->Prop}{w w' w'':aA}{q:Nat}
theorem Ol.kp(h:Ol F w)(k:Kp F w w'):Ol F w':=λb hb=>abR (h b hb) k.size
theorem Ol.below(h:Ol F w)(hb:aD w w w'):Kp F w w':=Kp.cD hb h
theorem Ol.self(h:Ol F w)(hq:¬F q)(a:w.grownBy w' (some q)):Kp F w w':=Kp.grown a λb hb=>⟨h b hb,λe=>hq (by injection e with e;rw[<-e];exact hb)⟩
end
end
section
open Go.RowKit Go.Lib Go.Shelf
variable{w:aA}{A:Option aJ}{i:Nat}
section
structure Ck where
 lf:Int
 us:Int
 de:Int
structure Rl where
 at_:Int
 am:Int
def yZ(x:Ck):List aC:= [.int .i64 x.lf, .int .i64 x.us, .int .i64 x.de]
def tV(x:Rl):List aC:= [.int .i64 x.at_, .int .i64 x.am]
theorem kW:eW yZ 3:=⟨λ_=>rfl,λx u hu=>by simp[yZ] at hu;rcases hu with rfl|rfl|rfl <;> rfl⟩
theorem pQ:eW tV 2:=⟨λ_=>rfl,λx u hu=>by simp[tV] at hu;rcases hu with rfl|rfl <;> rfl⟩
theorem U7:(prog.info? 329).map (λi=>(i.zero,i.size,i.bytes))=some (some (.agg #[aU,aU,aU]),3,24):=aV
theorem T3:(prog.info? 327).map (λi=>(i.zero,i.size,i.bytes))=some (some (.agg #[aU,aU]),2,16):=aV
theorem Zw:jR prog 300 329 3 24:=fX underlying300 U7 rfl aQ
theorem Ie:jR prog 301 327 2 16:=fX underlying301 T3 rfl aQ
namespace Xv
theorem kU:∀w,(zeroValue 329).run prog w= .ok (.agg #[aU,aU,aU]) w:=λw=>by kernel_rfl
variable{A:Option aJ}{n m:Nat}
theorem fK{c:Nat}(h:n=m):Ending.returned (.slice A n c)= .returned (.slice A m c):=by rw[h]
theorem lV(g c i k base:Nat)(L:List Ck)(w:aA)(own:bH yZ 3 w base 329 g c L)(r:L.length=i+1+k)(hl:L.length<=4000000):
 aG prog 156 #[.slice g L.length c,i, .int .i64 ((i:Int)+1)] w λe w'=>e= .returned (.slice g (L.eraseIdx i).length c)/\bH yZ 3 w' base 329 g c (L.eraseIdx i)/\w.grownBy w' (some g):=by
 obtain⟨i0,n,G,p,H⟩:=info_parts U7;have s:(L.eraseIdx i).length=i+k:=by rw[adN,abS aQ];omega
 obtain⟨_,_,_,v,x,_,_⟩:=eY own;simp only[maxLen] at x;obtain⟨news,b⟩:∃news,news=(L.drop (i+1)).flatMap yZ:=⟨_,rfl⟩
 have s1:aH (news.length=k *3):=by unfold aH;rw[b,fF kW.len,ad7];omega
 have s2:aH (∀u∈news,u.oneCell'=true):=λu hu=>rG kW _ u (by rw[<-b];exact hu)
 have D:aH (∀t,t<news.length->(w.drew.cell? ⟨g,0+i *3+t,none⟩).isSome=true/\w.drew.frozen? ⟨g,0+i *3+t,none⟩=false):=λt E=>by
  rw[s1.o] at E;exact dD own _ aQ
 have I:aH (∀t u,news[t]?=some u->w.drew.cell? ((⟨g,(i+1) *3,none⟩:aJ).add t)=some u):=λt u hu=>by
  have E:t<k *3:=by rw[<-s1.o];exact(ab7.1 hu).1
  have hF:=oR kW.len L (i+1);rw[b,hF,adF] at hu;rw[Addr.add_lit];obtain⟨cur,_,J,_,_,_,K⟩:=eY own;show w.cell? _=_;rw[cell_of_row w g _ cur _ (0,0) J,<-hu,<-K,acN,abS aQ,acH]
 obtain⟨m,h⟩:∃m,m=w.drew.setCells g (0+i *3) news:=⟨_,rfl⟩
 have F:=aP h;have y:=tS (w:=w.drew) kW.len own.drew i k r [.int .i64 0, .int .i64 0, .int .i64 0] rfl;rw[<-b,show i *3=0+i *3 by omega,<-h] at y;have a:=aP y;have d:∀j,j<c *3->(m.cell? ⟨g,j,none⟩).isSome=true/\m.frozen? ⟨g,j,none⟩=false:=λj z=>by
  rw[h];have:=dD own j z;exact⟨Go.World.isSome_setCells g _ _ _ _ this.1,by rw[World.frozen?_setCells];exact this.2⟩
 have l:∀ty q A,q=1->(Builtin.clear_ #[300] ty #[.slice (some ⟨g,(i+k) *3,none⟩) q A]).run prog m= .ok (.tuple #[]) (m.setCells g ((i+k) *3) [.int .i64 0, .int .i64 0, .int .i64 0]):=λty q A B=>
  lE m _ 329 ty _ underlying300 kU [.int .i64 0, .int .i64 0, .int .i64 0] aV cH g ((i+k) *3) q A B (λj z=>d _ (by simp at z;omega))
 clear h y d b;rw[r];rw[r] at v;have M:i<=c:=aQ;have N:i+1<=c:=aQ;have O:(0:Int)<=i+1:=aQ;have P:(i:Int)+1<=(i:Int)+1+(k:Int):=aQ;by_cases hce:c=i+1
 .obtain rfl:k=0:=aQ;obtain rfl:news= []:=acQ (by rw[s1.o]);have C:aH (∀t u,([]:List aC)[t]?=some u->w.drew.cell? ((⟨g,0,none⟩:aJ).add t)=some u):=λt u hu=>by simp at hu
  subst hce;have f:=λty=>l ty (i+1 - i) (i+1 - i) aQ
  simp only[acD] at f s⊢;have Q:(i:Int)<=(i:Int)+1:=aQ;have R:i+1 - i=1:=aQ;rw[R] at f;clear l;go_enter func156,ntmps156
  go_wp2_with fail
  go_region_law (refine step_append_room rfl (.tmp 22) (.tmp 25) 300 rfl 329 i0 3 underlying300 n p g 0 i (i+1) (by simp[Act.eval,Act.put]) ⟨g,0,none⟩ 0 0 [] (by simp[Act.eval,Act.put]) s1.o C.o s2.o aQ D.o ?_;rw[<-F.o])
  go_wp2
  go_ret
  exact⟨fK aQ,a.o.1,⟨a.o.2.os,a.o.2.tape,a.o.2.output,a.o.2.size,a.o.2.block⟩⟩
 .have f:=λty=>l ty (i+1+k - (i+k)) (c - (i+k)) aQ
  clear l;go_enter func156,ntmps156
  go_wp2_with fail
  go_region_law (refine step_append_room rfl (.tmp 22) (.tmp 25) 300 rfl 329 i0 3 underlying300 n p g 0 i c (by simp[Act.eval,Act.put]) ⟨g,(i+1) *3,none⟩ k (c - (i+1)) news (by simp[Act.eval,Act.put]) s1.o I.o s2.o aQ D.o ?_;rw[<-F.o])
  go_wp2
  go_ret
  exact⟨fK aQ,a.o.1,⟨a.o.2.os,a.o.2.tape,a.o.2.output,a.o.2.size,a.o.2.block⟩⟩
end Xv
namespace Xr
theorem kU:∀w,(zeroValue 327).run prog w= .ok (.agg #[aU,aU]) w:=λw=>by kernel_rfl
variable{A:Option aJ}{n m:Nat}
theorem fK{c:Nat}(h:n=m):Ending.returned (.slice A n c)= .returned (.slice A m c):=by rw[h]
theorem lV(g c i k base:Nat)(L:List Rl)(w:aA)(own:bH tV 2 w base 327 g c L)(r:L.length=i+1+k)(hl:L.length<=4000000):
 aG prog 154 #[.slice g L.length c,i, .int .i64 ((i:Int)+1)] w λe w'=>e= .returned (.slice g (L.eraseIdx i).length c)/\bH tV 2 w' base 327 g c (L.eraseIdx i)/\w.grownBy w' (some g):=by
 obtain⟨i0,n,G,p,H⟩:=info_parts T3;have s:(L.eraseIdx i).length=i+k:=by rw[adN,abS aQ];omega
 obtain⟨_,_,_,v,x,_,_⟩:=eY own;simp only[maxLen] at x;obtain⟨news,b⟩:∃news,news=(L.drop (i+1)).flatMap tV:=⟨_,rfl⟩
 have s1:aH (news.length=k *2):=by unfold aH;rw[b,fF pQ.len,ad7];omega
 have s2:aH (∀u∈news,u.oneCell'=true):=λu hu=>rG pQ _ u (by rw[<-b];exact hu)
 have D:aH (∀t,t<news.length->(w.drew.cell? ⟨g,0+i *2+t,none⟩).isSome=true/\w.drew.frozen? ⟨g,0+i *2+t,none⟩=false):=λt E=>by
  rw[s1.o] at E;exact dD own _ aQ
 have I:aH (∀t u,news[t]?=some u->w.drew.cell? ((⟨g,(i+1) *2,none⟩:aJ).add t)=some u):=λt u hu=>by
  have E:t<k *2:=by rw[<-s1.o];exact(ab7.1 hu).1
  have hF:=oR pQ.len L (i+1);rw[b,hF,adF] at hu;rw[Addr.add_lit];obtain⟨cur,_,J,_,_,_,K⟩:=eY own;show w.cell? _=_;rw[cell_of_row w g _ cur _ (0,0) J,<-hu,<-K,acN,abS aQ,acH]
 obtain⟨m,h⟩:∃m,m=w.drew.setCells g (0+i *2) news:=⟨_,rfl⟩
 have F:=aP h;have y:=tS (w:=w.drew) pQ.len own.drew i k r [.int .i64 0, .int .i64 0] rfl;rw[<-b,show i *2=0+i *2 by omega,<-h] at y;have a:=aP y;have d:∀j,j<c *2->(m.cell? ⟨g,j,none⟩).isSome=true/\m.frozen? ⟨g,j,none⟩=false:=λj z=>by
  rw[h];have:=dD own j z;exact⟨Go.World.isSome_setCells g _ _ _ _ this.1,by rw[World.frozen?_setCells];exact this.2⟩
 have l:∀ty q A,q=1->(Builtin.clear_ #[301] ty #[.slice (some ⟨g,(i+k) *2,none⟩) q A]).run prog m= .ok (.tuple #[]) (m.setCells g ((i+k) *2) [.int .i64 0, .int .i64 0]):=λty q A B=>
  lE m _ 327 ty _ underlying301 kU [.int .i64 0, .int .i64 0] aV cH g ((i+k) *2) q A B (λj z=>d _ (by simp at z;omega))
 clear h y d b;rw[r];rw[r] at v;have M:i<=c:=aQ;have N:i+1<=c:=aQ;have O:(0:Int)<=i+1:=aQ;have P:(i:Int)+1<=(i:Int)+1+(k:Int):=aQ;by_cases hce:c=i+1
 .obtain rfl:k=0:=aQ;obtain rfl:news= []:=acQ (by rw[s1.o]);have C:aH (∀t u,([]:List aC)[t]?=some u->w.drew.cell? ((⟨g,0,none⟩:aJ).add t)=some u):=λt u hu=>by simp at hu
  subst hce;have f:=λty=>l ty (i+1 - i) (i+1 - i) aQ
  simp only[acD] at f s⊢;have Q:(i:Int)<=(i:Int)+1:=aQ;have R:i+1 - i=1:=aQ;rw[R] at f;clear l;go_enter func154,ntmps154
  go_wp2_with fail
  go_region_law (refine step_append_room rfl (.tmp 22) (.tmp 25) 301 rfl 327 i0 2 underlying301 n p g 0 i (i+1) (by simp[Act.eval,Act.put]) ⟨g,0,none⟩ 0 0 [] (by simp[Act.eval,Act.put]) s1.o C.o s2.o aQ D.o ?_;rw[<-F.o])
  go_wp2
  go_ret
  exact⟨fK aQ,a.o.1,⟨a.o.2.os,a.o.2.tape,a.o.2.output,a.o.2.size,a.o.2.block⟩⟩
 .have f:=λty=>l ty (i+1+k - (i+k)) (c - (i+k)) aQ
  clear l;go_enter func154,ntmps154
  go_wp2_with fail
  go_region_law (refine step_append_room rfl (.tmp 22) (.tmp 25) 301 rfl 327 i0 2 underlying301 n p g 0 i c (by simp[Act.eval,Act.put]) ⟨g,(i+1) *2,none⟩ k (c - (i+1)) news (by simp[Act.eval,Act.put]) s1.o I.o s2.o aQ D.o ?_;rw[<-F.o])
  go_wp2
  go_ret
  exact⟨fK aQ,a.o.1,⟨a.o.2.os,a.o.2.tape,a.o.2.output,a.o.2.size,a.o.2.block⟩⟩
end Xr
def JY(L:List Rl)(de:Int):Int:=match L.findIdx? λr=>decide (de<r.at_) with|some i=>i|none=> -1
theorem Sl.Lw{xs:List Rl}(h:Sl tV 2 w A xs)(hi:i<xs.length):
 ∃b off,A=some ⟨b,off,none⟩/\w.cell? ⟨b,off+i *2,none⟩=some (.int .i64 xs[i].at_)/\w.cell? ⟨b,off+i *2+1,none⟩=some (.int .i64 xs[i].am):=by
 obtain⟨b,off,a,hc⟩:=h.at_ hi;exact⟨b,off,a,by simpa using hc 0 _ (show(tV xs[i])[0]?=some (.int .i64 xs[i].at_) from rfl),by simpa[acY] using hc 1 _ (show(tV xs[i])[1]?=some (.int .i64 xs[i].am) from rfl)⟩
theorem Ad(de:Int)(e:Rl)(b:Nat)(w:aA)(c1:w.cell? (b,2)=some (.int .i64 de)):
 aG prog 201 #[.agg #[e.at_,e.am], .pointer b] w λr w'=>r= .returned (.bool (decide (de<e.at_)))/\aD w w w':=by
 have h1:=bK (aX w (aI #[e.at_,e.am] 327)) c1;clear c1;go_enter func201,ntmps201
 go_wp2
 go_ret
 exact⟨jL aT,aX _ _⟩
theorem TC:∀args w,(callFunc 201 args).run prog w= .ok (.enter 201 args) w:=enters_of func201 aV rfl
theorem VG(A:Option aJ)(L:List Rl)(c:Nat)(de:Int)(b1:Nat)(w:aA)(hs:Sl tV 2 w A L)(hl:L.length<=4000000)(c1:w.cell? (b1,2)=some (.int .i64 de)):
 aG prog 200 #[(A,L.length,c), .func (.func 201) #[] #[.pointer b1]] w λe w'=>e= .returned (.int .i64 (JY L de))/\aD w w w':=by
 have t:=TC;go_enter func200,ntmps200
 go_wp2
 go_loopw [5,8] (λ_ p wr=>∃k:Nat,k<=L.length/\p= .int .i64 k/\aD w w wr/\aH (∀j,(a:j<L.length)->j<k->decide (de<L[j].at_)=false)) (λ_ i _=>L.length - (aL i).toNat)
 case atStart=>exact⟨0,ab0 _,rfl,Below.refl _ w,λj a h=>absurd h (adY _)⟩
 case round=>
  obtain⟨k,hk,rfl,d,f⟩:=hrel;by_cases g:k<L.length
  .obtain⟨b,off,rfl,u,v⟩:=(hs.keep d).Lw g;have z:(0:Int)<=k:=aQ;have B:(k:Int)<(L.length:Int):=aQ;have hc:=Ad de L[k] b1 wr (bK d c1);have HQ:aH (decide (de<L[k].at_)=true->JY L de=k):=λh=>by
    unfold JY;rw[acB.2 ⟨g,h,λj a=>by rw[f.o j aQ a];simp⟩]
   have l:aH (decide (de<L[k].at_)=false->∀j,(a:j<L.length)->j<k+1->decide (de<L[j].at_)=false):=λh j a q=>by
    by_cases he:j=k
    .subst he;exact h
    .exact f.o j a aQ
   clear f;generalize L[k]=y at *;cases hq:decide (de<y.at_) with
   |true=>
    rw[hq] at hc;have m:=aP (HQ.o hq);clear hq HQ l;go_wp2_with(go_at_fn 201;(with_reducible refine hc.mono ?_);rintro e w' ⟨rfl,hb⟩)
    go_ret
    exact⟨lT m.o.symm,fI d (abQ _) hb⟩
   |false=>
    rw[hq] at hc;have n:=aP (l.o hq);clear hq HQ l;go_wp2_with(go_at_fn 201;(with_reducible refine hc.mono ?_);rintro e w' ⟨rfl,hb⟩)
    go_roundw
    case rel=>exact⟨k+1,aQ,by go_num,fI d (abQ _) hb,n.o⟩
    case measure=>simp[aL];omega
  .obtain rfl:k=L.length:=aQ;have r:aH (JY L de= -1):=by
    unfold aH JY;rw[ac1.2 (λx s=>by obtain⟨j,a,rfl⟩:=acL s;exact f.o j a a)]
   clear f;go_wp2
   go_ret
   exact⟨lT r.o.symm,d⟩
end
variable{sz q g:Nat}{cs:Array aC}{F:Nat->Prop}
section
theorem Jv{base c:Nat}{A:Option aJ}{L:List Rl}(y:Rl)(V d:Nat)(w:aA)(own:bH tV 2 w base 327 A c L)(hb:base<=w.heap.size)(hV:Sl tV 2 w V [y])(hl:L.length<=4000000):
 aG prog 202 #[(A,L.length,c),L.length, .slice V 1 d] w λe w'=>∃(A':Option aJ) (c':Nat),e= .returned (.slice A' (L.length+1) c')/\bH tV 2 w' base 327 A' c' (L++ [y])/\w.grownBy w' (aY A)/\(aY A'=aY A\/aY A'=some w.heap.size):=by
 have hcap:=own.cap;obtain⟨n,hn⟩:∃n,n=L.length:=⟨_,rfl⟩
 rw[<-hn] at hcap hl⊢;have HN:=aP hn.symm;have n0:(0:Int)<=n:=aQ;have n1:(n:Int)<=(c:Int):=aQ;clear hn;rcases own.shape with⟨rfl,h2,rfl⟩|⟨g,rfl⟩
 .obtain rfl:n=0:=by have:=HN.o;rw[h2] at this;simpa using this.symm
  go_enter func202,ntmps202
  go_wp2_with(at_builtin;refine bQ w rfl (.tmp 23) (.tmp 24) rfl Ie pQ own (n:=0) HN.o rfl (m:=1) rfl (ys:= [y]) rfl hV dN aQ hb _ rfl 1 rfl ?_;intro A5 c5 w6 own6 hg6 at6;(have HW:=dE own6 hg6 at6);clear own6 hg6 at6)
  go_ret
  exact⟨A5,c5,rfl,HW.o.1,HW.o.2.1,HW.o.2.2⟩
 .by_cases hnc:c=n
  .subst hnc;go_enter func202,ntmps202
   go_wp2_with(at_builtin;refine bQ w rfl (.tmp 23) (.tmp 24) rfl Ie pQ own (n:=c) HN.o rfl (m:=1) rfl (ys:= [y]) rfl hV dN aQ hb _ rfl (c+1) rfl ?_;intro A5 c5 w6 own6 hg6 at6;(have HW:=dE own6 hg6 at6);clear own6 hg6 at6)
   go_ret
   exact⟨A5,c5,rfl,HW.o.1,HW.o.2.1,HW.o.2.2⟩
  .go_enter func202,ntmps202
   go_wp2_with(at_builtin;refine bQ w rfl (.tmp 23) (.tmp 24) rfl Ie pQ own (n:=n) HN.o rfl (m:=1) rfl (ys:= [y]) rfl hV dN aQ hb _ rfl (n+1) rfl ?_;intro A5 c5 w6 own6 hg6 at6;(have HW:=dE own6 hg6 at6);clear own6 hg6 at6)
   go_ret
   exact⟨A5,c5,rfl,HW.o.1,HW.o.2.1,HW.o.2.2⟩
structure Sv where
 bu:Int
 pe:Int
 nw:Int
 av:Int
 ch:List Ck
 rf:List Rl
 cg:Int
def zM(s:Sv)(A:Option aJ)(c:Nat)(B:Option aJ)(d:Nat):Array aC:=#[s.bu,s.pe,s.nw,s.av,(A,s.ch.length,c),(B,s.rf.length,d),s.cg]
structure gY(F:Nat->Prop)(w:aA)(g:Nat)(s:Sv)(A:Option aJ)(c:Nat)(B:Option aJ)(d:Nat):Prop where
 b:bF w g 303 (zM s A c B d)
 oA:bH yZ 3 w (g+1) 329 A c s.ch
 oB:bH tV 2 w (g+1) 327 B d s.rf
 fl:Ol F w
 fg:¬F g
 fA:∀q,aY A=some q->¬F q
 fB:∀q,aY B=some q->¬F q
def sU(F:Nat->Prop)(w:aA)(g:Nat)(s:Sv):Prop:=∃A c B d,gY F w g s A c B d
theorem qP{α:Type}{enc:α->List aC}{B c:Nat}{e:aN}{xs:List α}(h:bH enc sz w B e A c xs):∀q,aY A=some q->∃cs,bF w q e cs:=λq hq=>by
 rcases h.2 with⟨a,_⟩|⟨g,cap,cur,a,f,b,_⟩
 .injection a with a;rw[a] at hq;cases hq
 .injection a with a;rw[a] at hq;injection hq with hq;subst hq;exact⟨cur,b⟩
theorem RE{p:Nat}{t b:aN}{cs':Array aC}(h:bF w p t cs)(a:bF w q b cs')(f:t≠b):p≠q:=λe=>by
 subst e;unfold bF at h a;rw[h] at a;injection a with a;injection a with _ i;exact f i
section
variable{F:Nat->Prop}{w w':aA}{g c d:Nat}{s:Sv}{A B:Option aJ}
theorem gY.apart(h:gY F w g s A c B d):∀q,aY A=some q->aY B≠some q:=λq hq e=>by
 obtain⟨cs,h1⟩:=qP h.oA q hq;obtain⟨cs',a⟩:=qP h.oB q e;exact RE h1 a cH rfl
theorem gY.keep(h:gY F w g s A c B d)(hb:aD w w w'):gY F w' g s A c B d:=⟨h.b.keep hb,h.oA.keep hb,h.oB.keep hb,h.fl.kp (h.fl.below hb),h.fg,h.fA,h.fB⟩
theorem tL{α:Type}{enc:α->List aC}{e:aN}{xs:List α}(h:bH enc sz w (g+1) e A c xs):aY A=none\/aY A≠some g:= .inr λe=>by have:=(h.lt g e).1;omega
theorem gY.cells(h:gY F w g s A c B d){s':Sv}(hc:s'.ch=s.ch)(b:s'.rf=s.rf)(a:w.grownBy w' (some g))(hb:bF w' g 303 (zM s' A c B d)):gY F w' g s' A c B d/\Kp F w w':=by
 have k:=h.fl.self h.fg a;exact⟨⟨hb,by rw[hc];exact h.oA.kept a (tL h.oA),by rw[b];exact h.oB.kept a (tL h.oB),h.fl.kp k,h.fg,h.fA,h.fB⟩,k⟩
end
theorem NM{s:Sv}(h:sU F w g s)(hl:s.ch.length<=4000000):aG prog 116 #[.pointer g] w λe w'=>e= .returned (match s.ch with| []=> .tuple #[aU,false]|x::_=> .tuple #[x.de,true])/\w=w':=by
 obtain⟨A,c,B,d,h⟩:=h;have c3:=h.b.cell 4 (.slice A s.ch.length c) rfl;cases a:s.ch with
 |nil=>
  rw[a] at c3;simp only[ac6] at c3;clear h;go_enter func116,ntmps116
  go_wp2_with fail
  go_ret2
  exact⟨rfl,rfl⟩
 |cons x xs=>
  have f:=h.oA;rw[a] at c3 f hl;simp only[acR] at c3 hl;obtain⟨q,rfl⟩:∃q,A=some ⟨q,0,none⟩:=by
   rcases f.shape with⟨_,k,_⟩|k
   .cases k
   .exact k
  have d2:w.cell? ⟨q,2,none⟩=some (.int .i64 x.de):=by simpa using bM kW f (i:=0) aT (j:=2) (v:= .int .i64 x.de) rfl
  have n0:(0:Int)<(xs.length:Int)+1:=aQ;clear h f a;generalize xs.length=n at *;go_enter func116,ntmps116
  go_wp2_with fail
  go_ret2
  exact⟨rfl,rfl⟩
theorem OV(w:aA):aG prog 116 #[pO] w λe w'=>e= .returned (.tuple #[aU,false])/\w=w':=by
 go_enter func116,ntmps116
 go_wp2_with fail
 go_ret2
 exact⟨rfl,rfl⟩
end
variable{v:aC}{w' w6:aA}{d n:Nat}{B A6:Option aJ}
section
def nC(s:Sv)(x:Ck):Sv:=if x.us=0 then s else {s with rf:=s.rf++ [⟨x.de,x.us⟩]}
def YE(y:Rl)(N:Nat)(v:aC)(w:aA):Prop:=∃G,v= .slice (some ⟨G,0,none⟩) 1 1/\N<=G/\Sl tV 2 w (some ⟨G,0,none⟩) [y]
theorem YE.keep{y:Rl}(h:YE y g v w)(a:bP w w'):YE y g v w':=by obtain⟨G,h1,b,c⟩:=h;exact⟨G,h1,b,c.keep a⟩
def Ty(F:Nat->Prop)(g:Nat)(v:aC)(s:Sv)(w:aA)(e:aM)(w':aA):Prop:=e= .returned v/\sU F w' g s/\Kp F w w'
theorem gY.PL{c c6:Nat}{s:Sv}{y:Rl}(h:gY F w g s A c B d)(o:n=s.rf.length)(a:bH tV 2 w6 (g+1) 327 A6 c6 (s.rf++ [y]))(j:w.grownBy w6 (aY B))(k:aY A6=aY B\/aY A6=some w.heap.size):
 gY F (w6.setCell (g,5) (.slice A6 (n+1) c6)) g {s with rf:=s.rf++ [y]} A c A6 c6/\Kp F w (w6.setCell (g,5) (.slice A6 (n+1) c6)):=by
 have l:Kp F w w6:=Kp.grown j λb hb=>⟨h.fl b hb,λe=>h.fB b e.symm hb⟩
 have p:=h.b.grown j (λe=>by have:=(h.oB.lt g e.symm).1;omega);have i:bH yZ 3 w6 (g+1) 329 A c s.ch:=h.oA.kept j (by
  cases hb:aY A with
  |none=>exact .inl rfl
  |some q=>right;intro e;exact h.apart q hb e.symm)
 have f:=bC (bL w6 g) 5 (.slice A6 (n+1) c6);have m:Kp F w6 (w6.setCell (g,5) (.slice A6 (n+1) c6)):=(h.fl.kp l).self h.fg f;refine⟨⟨?_,i.kept f (tL i),a.kept f (tL a),(h.fl.kp l).kp m,h.fg,h.fA,λq hq hF=>?_⟩,l.trans m⟩
 .have:=p.cB 5 (.slice A6 (n+1) c6);subst o;simpa[zM] using this
 .rcases k with e|e
  .exact h.fB q (e ▸ hq) hF
  .rw[e] at hq;injection hq with hq;have:=h.fl q hF;omega
theorem YT{c:Nat}{s:Sv}(h:gY F w g s A c B d)(x:Ck)(I:∀r∈s.rf,r.at_<=x.de)(hl:s.rf.length<=3000000):
 aG prog 155 #[.pointer g, .agg #[x.lf,x.us,x.de]] w λe w'=>e= .returned (.tuple #[])/\(∃B' d',gY F w' g (nC s x) A c B' d')/\Kp F w w':=by
 have q:=bF.new w 329 #[x.lf,x.us,x.de];have h1:=h.keep (aX w (aI #[x.lf,x.us,x.de] 329));have D:=h.fl.below (aX w (aI #[x.lf,x.us,x.de] 329));by_cases hu:x.us=0
 .have J:aH (nC s x=s):=by unfold aH nC;rw[abS hu]
  have u:=q.cell 1 x.us rfl;have xu:(x.us==0)=true:=by simp[hu]
  have HD:=bO h1 D;clear h1 D q hu h I;go_enter func155,ntmps155
  go_wp2_with fail
  refine bodyPost_ret (v:= .tuple #[]) (by simp[results,results155,go_sem]) rfl ?_;exact⟨rfl,by rw[J.o];exact⟨B,d,HD.o.1⟩,HD.o.2⟩
 .have J:aH (nC s x={s with rf:=s.rf++ [⟨x.de,x.us⟩]}):=by unfold aH nC;rw[abT hu]
  have E:=aP (VG B s.rf d x.de w.heap.size _ (h1.oB.sl pQ) aQ (q.cell 2 _ rfl));have hp:JY s.rf x.de= -1:=by
   unfold JY;rw[ac1.2 (λr hr=>by have:=I r hr;simp;omega)]
  rw[hp] at E;have u:=q.cell 1 x.us rfl;have c5:=h1.b.cell 5 (.slice B s.rf.length d) rfl;have xu:(x.us==0)=false:=by simpa using hu
  have HD:=dE h1 D q;obtain⟨n,L⟩:∃n,n=s.rf.length:=⟨_,rfl⟩
  rw[<-L] at E c5 hl;have M:=aP L;clear h1 D q hu h I L hp;go_enter func155,ntmps155
  go_upto_region 1 with(fail)
  generalize w.alloc (aI #[x.lf,x.us,x.de] 329)=w1 at *;generalize w.heap.size=xq at *;go_wp2_with fail
  refine aR E ?_;rintro e w2 ⟨rfl,hb⟩;replace c5:=bK hb c5;have T:=(HD.o.2.2.keep hb).cell 2 x.de rfl;replace u:=bK hb u;have l:=bO (HD.o.1.keep hb) (HD.o.2.1.trans (HD.o.1.fl.below hb));clear hb E HD;obtain⟨y,N⟩:∃y:Rl,y=⟨x.de,x.us⟩:=⟨_,rfl⟩
  have U:aH (∀(W:aA) t,Sl tV 2 (W.alloc (.cells #[x.de,x.us] t)) (some ⟨W.heap.size,0,none⟩) [y]):=λW t=>Sl.new pQ W y _ (by rw[N];rfl) t
  have O:=aP N;clear N;go_upto_region 5 with(fail)
  have a:=bE u;have f:=bE T;have i:=bE c5;refine bN (bP _) (λ_=>bP) [32] (λ_ v w=>YE y w2 v w) [12,15] [[12,11,10,7], [12,11,10,9]] 36 (bZ _) (λ_ _ _ h P=>bV h P) (λ_ d hd _ v w w' _ h P=>h.keep P) aV aV aZ ?_;repeat (first|(refine eK ?_)|(refine sF 32 [] aZ aZ aZ aZ (λγ w hC Q=>?_) ?_;(simp only[cE];go_simp;exact pG (aX w _) ⟨_,rfl,Below.size hC,U.o w _⟩);(try refine cI ?_)))
  refine dG ?_;intro γ w5 m Q;clear a f i;simp only[cE,Act.put,abP,abV,abU];refine dS ?_;obtain⟨G,V,hG,z⟩:=Q 32 aT;rw[V];have H:=l.o.1.keep m;have R:=Jv y G 1 w5 H.oB (by have:=H.b.lt;omega) z (by rw[<-M.o];omega);rw[<-M.o] at R;have S:=aP R;have j:=bO H (l.o.2.trans (l.o.1.fl.below m));clear V Q U c5 u T H m z R;refine wpList_plain rfl (λK hK=>?_);go_wp2_with fail
  refine aR S ?_;rintro e X ⟨A6,c6,rfl,k,p,C⟩;refine hK _ _ ?_;clear hK K;try refine cI ?_
  have Y:=j.o.1.b.grown p (λe=>by have:=(j.o.1.oB.lt g e.symm).1;omega);refine dY X rfl 301 _ _ rfl g 5 (.slice A6 (n+1) c6) rfl rfl aV rfl (Y.one (by simp[zM])) ?_;refine cY ?_;try simp only[Act.put]
  obtain⟨m1,m2⟩:=j.o.1.PL M.o k p C;have Z:=bO m1 (j.o.2.trans m2);generalize X.setCell (g,5) (.slice A6 (n+1) c6)=w7 at *;clear m1 m2 k p C Y;go_wp2_with fail
  go_end0
  exact⟨rfl,by rw[J.o,<-O.o];exact⟨_,_,Z.o.1⟩,Z.o.2⟩
theorem Hs{s:Sv}(h:sU F w g s)(x:Ck)(a:∀r∈s.rf,r.at_<=x.de)(hl:s.rf.length<=3000000):
 aG prog 155 #[.pointer g, .agg #[x.lf,x.us,x.de]] w (Ty F g (.tuple #[]) (nC s x) w):=by
 obtain⟨A,c,B,d,h⟩:=h;exact(YT h x a hl).mono λe w' ⟨h1,⟨f,i,b⟩,h3⟩=>⟨h1,⟨_,_,_,_,b⟩,h3⟩
end
variable{j:Nat}{w5:aA}
section
section
variable{F:Nat->Prop}{w:aA}{g q c d:Nat}{s:Sv}{B:Option aJ}{x:Ck}{xs:List Ck}
structure HdF(w:aA)(g q c:Nat)(x:Ck)(n:Nat):Prop where
 c4:w.cell? (g,4)=some (.slice q (n+1) c)
 d0:w.cell? (q,0)=some (.int .i64 x.lf)
 d1:w.cell? (q,1)=some (.int .i64 x.us)
 d2:w.cell? (q,2)=some (.int .i64 x.de)
 f0:w.frozen? (q,0)=false
 f1:w.frozen? (q,1)=false
theorem gY.hd(h:gY F w g s q c B d)(hs:s.ch=x::xs):HdF w g q c x xs.length:=by
 have a:=h.oA;rw[hs] at a;have e:=a.cap;simp only[acR] at e;refine⟨?_,?_,?_,?_,(dD a 0 aQ).2,(dD a 1 aQ).2⟩
 .have:=h.b.cell 4 (.slice q s.ch.length c) rfl;rw[hs] at this;exact this
 .simpa using bM kW a (i:=0) aT (j:=0) (v:= .int .i64 x.lf) rfl
 .simpa using bM kW a (i:=0) aT (j:=1) (v:= .int .i64 x.us) rfl
 .simpa using bM kW a (i:=0) aT (j:=2) (v:= .int .i64 x.de) rfl
theorem gY.head(h:gY F w g s q c B d)(hs:s.ch=x::xs)(n:j<3)(a:Ck)(v:aC)(o:yZ a=(yZ x).set j v):gY F (w.setCell (q,j) v) g {s with ch:=a::xs} (some ⟨q,0,none⟩) c B d/\Kp F w (w.setCell (q,j) v):=by
 have m:=h.oA;rw[hs] at m;obtain⟨h1,f⟩:=qX kW.len m (i:=0) aT n a v o;simp only[ae6,acT,abV] at h1 f;have k:=h.fl.self (h.fA q rfl) f;have l:g≠q:=λe=>by have t:=(h.oA.lt q rfl).1;omega
 refine⟨⟨?_,h1,h.oB.kept f ?_,h.fl.kp k,h.fg,h.fA,h.fB⟩,k⟩
 .have:=h.b.r8 (p:=⟨q,j,none⟩) l v;simpa[zM,hs] using this
 .cases hb:aY B with
  |none=>exact .inl rfl
  |some r=>right;intro e;exact h.apart q rfl (by rw[hb];exact e)
theorem gY.Wh(h:gY F w g s q c B d)(v:Int):gY F (w.setCell (g,6) v) g {s with cg:=v} (some ⟨q,0,none⟩) c B d/\Kp F w (w.setCell (g,6) v):=
 h.cells (s':={s with cg:=v}) rfl rfl (bC (bL w g) 6 _) (by have:=h.b.cB 6 v;simpa[zM] using this)
end
theorem gY.cut{c:Nat}{s:Sv}{xs:List Ck}(h:gY F w g s q c B d)(o:n=xs.length)(a:bH yZ 3 w5 (g+1) 329 q c xs)(j:w.grownBy w5 (some q)):
 gY F (w5.setCell (g,4) (.slice q n c)) g {s with ch:=xs} (some ⟨q,0,none⟩) c B d/\Kp F w (w5.setCell (g,4) (.slice q n c)):=by
 subst o;have k:Kp F w w5:=h.fl.self (h.fA q rfl) j;have l:g≠q:=λe=>by have t:=(h.oA.lt q rfl).1;omega
 have p:=h.b.grown j (λe=>l (by injection e));have i:bH tV 2 w5 (g+1) 327 B d s.rf:=h.oB.kept j (by
  cases hb:aY B with
  |none=>exact .inl rfl
  |some r=>right;intro e;exact h.apart q rfl (by rw[hb];exact e))
 have f:=bC (bL w5 g) 4 (.slice q xs.length c);have m:=(h.fl.kp k).self h.fg f;exact⟨⟨by have:=p.cB 4 (.slice q xs.length c);simpa[zM] using this,a.kept f (tL a),i.kept f (tL i),(h.fl.kp k).kp m,h.fg,h.fA,h.fB⟩,k.trans m⟩
theorem Jp(s:Sv)(x:Ck):(nC s x).ch=s.ch:=by unfold nC;split <;> rfl
def DF(s:Sv):Sv:=match s.ch with
 | []=>s
 |x::xs=>if x.lf - 1=0 then {nC {s with ch:=⟨x.lf - 1,x.us+1,x.de⟩::xs,cg:=s.cg+1} ⟨x.lf - 1,x.us+1,x.de⟩ with ch:=xs} else {s with ch:=⟨x.lf - 1,x.us+1,x.de⟩::xs,cg:=s.cg+1}
theorem Hi{s:Sv}{x:Ck}{xs:List Ck}(h:sU F w g s)(hs:s.ch=x::xs)(J:∀r∈s.rf,r.at_<=x.de)(hl:s.rf.length<=3000000)(t:s.ch.length<=3000000)
 (b1:1<=x.lf/\x.lf<=1048576) (b2:0<=x.us/\x.us<=1048576) (b3:0<=s.cg/\s.cg<=1048576):
 aG prog 114 #[.pointer g] w (Ty F g (.bool true) (DF s) w):=by
 obtain⟨A,c,B,d,h⟩:=h;obtain⟨q,rfl⟩:∃q,A=some ⟨q,0,none⟩:=by
  rcases h.oA.shape with⟨_,f,_⟩|f
  .rw[f] at hs;cases hs
  .exact f
 have V:=h.hd hs;obtain⟨m1,K⟩:=h.head hs (j:=0) aQ ⟨x.lf - 1,x.us,x.de⟩ (.int .i64 (x.lf - 1)) rfl;have h1:=m1.hd rfl;obtain⟨m2,L⟩:=m1.head rfl (j:=1) aQ ⟨x.lf - 1,x.us+1,x.de⟩ (.int .i64 (x.us+1)) rfl;have f:=m2.b.cell 6 s.cg rfl;obtain⟨m3,M⟩:=m2.Wh (s.cg+1);have N:=m3.hd rfl;have G:xs.length+1<=3000000:=by rw[hs] at t;exact t
 have O:aH (DF s=if x.lf - 1=0 then {nC {s with ch:=⟨x.lf - 1,x.us+1,x.de⟩::xs,cg:=s.cg+1} ⟨x.lf - 1,x.us+1,x.de⟩ with ch:=xs} else {s with ch:=⟨x.lf - 1,x.us+1,x.de⟩::xs,cg:=s.cg+1}):=by unfold aH DF;rw[hs]
 have P:=aP (Hs (s:={s with ch:=⟨x.lf - 1,x.us+1,x.de⟩::xs,cg:=s.cg+1}) ⟨_,_,_,_,m3⟩ ⟨x.lf - 1,x.us+1,x.de⟩ J hl);have E:=bO m3 ((K.trans L).trans M);obtain⟨a0,i,a2,a3,a4,a5⟩:=V;have f6:=m2.b.frozen 6;have n0:(0:Int)<(xs.length:Int)+1:=aQ;have H1:=aP h1;have W:=aP f;have Q:=aP N;have X:=aP f6;clear h m1 m2 m3 K L M h1 f N J hs hl t f6;obtain⟨n,H⟩:∃n,n=xs.length:=⟨_,rfl⟩
 rw[<-H] at a0 H1 Q n0 G;have k:=aP H;clear H;go_enter func114,ntmps114
 go_upto_region 4 with(fail)
 generalize w.setCell ⟨q,0,none⟩ (.int .i64 (x.lf - 1))=Y at *;clear a0 i a2 a3 a4 a5;obtain⟨a0,i,a2,a3,a4,a5⟩:=H1.o;simp only at i a2 a3;go_upto_region 5 with(fail)
 generalize Y.setCell ⟨q,1,none⟩ (.int .i64 (x.us+1))=Z at *;clear a0 i a2 a3 a4 a5;have a6:=W.o;have a7:=X.o;go_upto_region 6 with(fail)
 generalize Z.setCell (g,6) (.int .i64 (s.cg+1))=w3 at *;clear a6 a7;obtain⟨a0,i,a2,a3,a4,a5⟩:=Q.o;simp only at i a2 a3;by_cases z:x.lf - 1=0
 .have z1:(x.lf - 1==0)=true:=by simp[z]
  have u:=O.o;rw[abS z] at u;have v:=aP u;clear u z;go_wp2_with fail
  refine aR P ?_;rintro e I ⟨rfl,⟨A4,c4,B4,d4,m4⟩,R⟩;have a:=Jp {s with ch:=⟨x.lf - 1,x.us+1,x.de⟩::xs,cg:=s.cg+1} ⟨x.lf - 1,x.us+1,x.de⟩;simp only at a;generalize nC {s with ch:=⟨x.lf - 1,x.us+1,x.de⟩::xs,cg:=s.cg+1} ⟨x.lf - 1,x.us+1,x.de⟩=s4 at *;obtain⟨m,rfl⟩:∃q,A4=some ⟨q,0,none⟩:=by
   rcases m4.oA.shape with⟨_,f,_⟩|f
   .rw[f] at a;cases a
   .exact f
  have S:=m4.hd a;rw[<-k.o] at S;have y:=m4.oA;rw[a] at y;have T:aG prog 156 #[.slice m (n+1) c4,aU, .int .i64 1] I λe w'=>e= .returned (.slice m n c4)/\bH yZ 3 w' (g+1) 329 m c4 xs/\I.grownBy w' (some m):=by
   have:=Xv.lV m c4 0 xs.length (g+1) (⟨x.lf - 1,x.us+1,x.de⟩::xs) I y bX (by have:=k.o;simp;omega);rw[k.o];simpa using this
  have HD:=aP T;have C:=bO m4 (E.o.2.trans R);clear T m4 R y P E a0 i a2 a3 a4 a5;obtain⟨a0,i,a2,a3,a4,a5⟩:=S;go_wp2_with fail
  refine aR HD ?_;rintro e w5 ⟨rfl,p,l⟩;obtain⟨m6,U⟩:=C.o.1.cut k.o p l;have f4:=(C.o.1.b.grown l (λe=>by have h9:=(C.o.1.oA.lt m rfl).1;injection e with e;omega)).frozen 4;have c4':=(C.o.1.b.grown l (λe=>by have h9:=(C.o.1.oA.lt m rfl).1;injection e with e;omega)).cell 4 (.slice m s4.ch.length c4) rfl;have D:=bO m6 (C.o.2.trans U);clear m6 U p l a0 i a2 a3 a4 a5;go_wp2_with fail
  go_ret
  exact⟨rfl,by rw[v.o];exact⟨_,_,_,_,D.o.1⟩,D.o.2⟩
 .have z1:(x.lf - 1==0)=false:=by simpa using z
  have u:=O.o;rw[abT z] at u;have v:=aP u;clear u z;go_wp2_with fail
  go_ret
  exact⟨rfl,by rw[v.o];exact⟨_,_,_,_,E.o.1⟩,E.o.2⟩
end
end
section
def rI(now:Int):Int->List Rl->Int×List Rl
 |av, []=>(av, [])
 |av,r::rs=>if r.at_<=now then rI now (av+r.am) rs else(av,r::rs)
def uU(now:Int)(s:Sv):Sv:={s with nw:=now,av:=(rI now s.av s.rf).1,rf:=(rI now s.av s.rf).2}
def iH(s:Sv)(x:Ck):Sv:=nC {s with av:=s.av+x.lf} x
def kC(s:Sv)(now:Int)(ready:Bool):Sv:=
 if ready then(if 0<(uU now s).av then {uU now s with ch:=(uU now s).ch++ [⟨(uU now s).av,0,now+s.pe⟩],av:=0} else uU now s)
 else {s.ch.foldl iH (uU now s) with ch:= []}
def pH(l:List Rl):Int:=(l.map Rl.am).sum
def sK(l:List Ck):Int:=(l.map λx=>x.lf+x.us).sum
structure QK(s:Sv):Prop where
 av:0<=s.av
 ch:∀x∈s.ch,1<=x.lf/\0<=x.us
 rf:∀r∈s.rf,0<=r.am
 all:s.av+sK s.ch+pH s.rf=s.bu
 bu:1<=s.bu/\s.bu<=s.pe/\s.pe<=1048576
 ord:s.ch.Pairwise λx y=>x.de<=y.de
 CJ:∀r∈s.rf,∀x∈s.ch,r.at_<=x.de
theorem BH(r:Rl)(l:List Rl):pH (r::l)=r.am+pH l:=by simp[pH]
theorem E9(r:Rl)(l:List Rl):pH (l++ [r])=pH l+r.am:=by simp[pH]
theorem oP(x:Ck)(l:List Ck):sK (x::l)=x.lf+x.us+sK l:=by simp[sK]
theorem Bh(x:Ck)(l:List Ck):sK (l++ [x])=sK l+(x.lf+x.us):=by simp[sK]
theorem GY{l:List Rl}(h:∀r∈l,0<=r.am):0<=pH l:=by
 induction l with
 |nil=>simp[pH]
 |cons r l a=>
  have:=h r aT;have:=a λr b=>h r (by simp[b])
  rw[BH];omega
theorem M1{l:List Ck}(h:∀x∈l,1<=x.lf/\0<=x.us):0<=sK l:=by
 induction l with
 |nil=>simp[sK]
 |cons r l a=>
  have:=h r aT;have:=a λr b=>h r (by simp[b])
  rw[oP];omega
theorem VA{now:Int}:∀{l:List Rl} {av:Int},(∀r∈l,0<=r.am)->0<=av->0<=(rI now av l).1/\(rI now av l).1+pH (rI now av l).2=av+pH l/\(∀r∈(rI now av l).2,r∈l)/\(rI now av l).2.length<=l.length
 | [],av,_,h=>⟨h,rfl,λr a=>a,abQ _⟩
 |r::l,av,a,h=>by
  have d:=a r aT;unfold rI;split
  .obtain⟨h1,e,f,g⟩:=VA (now:=now) (l:=l) (av:=av+r.am) (λr b=>a r (by simp[b])) aQ;refine⟨h1,?_,λx c=>by simp[f x c],bX⟩;rw[e,BH];omega
  .exact⟨h,rfl,λx c=>c,abQ _⟩
theorem QK.pop{s:Sv}(h:QK s)(now:Int):QK (uU now s):=by
 obtain⟨h1,d,b,_⟩:=VA (now:=now) h.rf h.av;have:=h.all;exact⟨h1,h.ch,λr a=>h.rf r (b r a),by simp only[uU];omega,h.bu,h.ord,λr a x c=>h.CJ r (b r a) x c⟩
structure FN(s:Sv)(s':Sv)(k:Nat):Prop where
 eq:s'=(s.ch.take k).foldl iH s
 ch:s'.ch=s.ch
 av:0<=s'.av
 rf:∀r∈s'.rf,0<=r.am
 sum:s'.av+sK (s.ch.drop k)+pH s'.rf=s.bu
 CJ:∀r∈s'.rf,∀x∈s.ch.drop k,r.at_<=x.de
 len:s'.rf.length<=s.rf.length+k
theorem FN.zero{s:Sv}(h:QK s):FN s s 0:=⟨rfl,rfl,h.av,h.rf,h.all,h.CJ,abQ _⟩
theorem FN.step{s s':Sv}{k:Nat}(h:QK s)(f:FN s s' k)(hk:k<s.ch.length):FN s (iH s' s.ch[k]) (k+1):=by
 have hd:s.ch.drop k=s.ch[k]::s.ch.drop (k+1):=aeD hk;have c:=h.ch _ (abY hk);have hs:=f.sum;rw[hd,oP] at hs;have hp:∀y∈s.ch.drop (k+1),s.ch[k].de<=y.de:=by
  have h1:=h.ord.sublist (List.drop_sublist k s.ch);rw[hd] at h1;exact(ae2.1 h1).1
 have d:=f.av;have heq:iH s' s.ch[k]=(s.ch.take (k+1)).foldl iH s:=by
  rw[ac3,abO hk,ad2,<-f.eq];rfl
 have hlen:=f.len;by_cases hu:s.ch[k].us=0
 .have b:iH s' s.ch[k]={s' with av:=s'.av+s.ch[k].lf}:=by unfold iH nC;rw[abS hu]
  exact⟨heq,by rw[b];exact f.ch,by rw[b];simp only;omega,by rw[b];exact f.rf,by rw[b];simp only;omega,by rw[b];exact λr a x c=>f.CJ r a x (by rw[hd];exact List.mem_cons_of_mem _ c),by rw[b];simp only;omega⟩
 .have b:iH s' s.ch[k]={s' with av:=s'.av+s.ch[k].lf,rf:=s'.rf++ [⟨s.ch[k].de,s.ch[k].us⟩]}:=by unfold iH nC;rw[abT hu]
  refine⟨heq,by rw[b];exact f.ch,by rw[b];simp only;omega,?_,by rw[b];simp only;rw[E9];simp only;omega,?_,by rw[b];simp only[ab6,afF];omega⟩
  .rw[b];intro r a;rcases ab9.1 a with a|a
   .exact f.rf r a
   .simp at a;subst a;exact c.2
  .rw[b];intro r a x c;rcases ab9.1 a with a|a
   .exact f.CJ r a x (by rw[hd];exact List.mem_cons_of_mem _ c)
   .simp at a;subst a;exact hp x c
end
section
open Go.RowKit Go.Lib Go.Shelf
variable{A6 A B:Option aJ}{n q g d:Nat}{F:Nat->Prop}{w w':aA}{v:aC}
section
section
variable{F:Nat->Prop}{w w5:aA}{g c d:Nat}{s:Sv}{A B:Option aJ}
theorem gY.Vs(h:gY F w g s A c B d)(v:Int):gY F (w.setCell (g,2) v) g {s with nw:=v} A c B d/\Kp F w (w.setCell (g,2) v):=
 h.cells (s':={s with nw:=v}) rfl rfl (bC (bL w g) 2 _) (by have:=h.b.cB 2 v;simpa[zM] using this)
theorem gY.WD(h:gY F w g s A c B d)(v:Int):gY F (w.setCell (g,3) v) g {s with av:=v} A c B d/\Kp F w (w.setCell (g,3) v):=
 h.cells (s':={s with av:=v}) rfl rfl (bC (bL w g) 3 _) (by have:=h.b.cB 3 v;simpa[zM] using this)
theorem gY.Yq(h:gY F w g s A c B d):gY F (w.setCell (g,4) (.slice none 0 0)) g {s with ch:= []} none 0 B d/\Kp F w (w.setCell (g,4) (.slice none 0 0)):=by
 have a:=bC (bL w g) 4 (.slice none 0 0);have k:=h.fl.self h.fg a;exact⟨⟨by have:=h.b.cB 4 (.slice none 0 0);simpa[zM] using this,bH.nil _ _ _,h.oB.kept a (tL h.oB),h.fl.kp k,h.fg,(λq hq=>by cases hq),h.fB⟩,k⟩
theorem gY.Ws{c6:Nat}{x:Ck}(h:gY F w g s A c B d)(o:n=s.ch.length)(a:bH yZ 3 w5 (g+1) 329 A6 c6 (s.ch++ [x]))(j:w.grownBy w5 (aY A))(k:aY A6=aY A\/aY A6=some w.heap.size):
 gY F (w5.setCell (g,4) (.slice A6 (n+1) c6)) g {s with ch:=s.ch++ [x]} A6 c6 B d/\Kp F w (w5.setCell (g,4) (.slice A6 (n+1) c6)):=by
 have l:Kp F w w5:=Kp.grown j λb hb=>⟨h.fl b hb,λe=>h.fA b e.symm hb⟩
 have p:=h.b.grown j (λe=>by have:=(h.oA.lt g e.symm).1;omega);have i:bH tV 2 w5 (g+1) 327 B d s.rf:=h.oB.kept j (by
  cases hb:aY B with
  |none=>exact .inl rfl
  |some q=>right;intro e;exact h.apart q e.symm hb)
 have f:=bC (bL w5 g) 4 (.slice A6 (n+1) c6);have m:=(h.fl.kp l).self h.fg f;refine⟨⟨?_,a.kept f (tL a),i.kept f (tL i),(h.fl.kp l).kp m,h.fg,λq hq hF=>?_,h.fB⟩,l.trans m⟩
 .have:=p.cB 4 (.slice A6 (n+1) c6);subst o;simpa[zM] using this
 .rcases k with e|e
  .exact h.fA q (e ▸ hq) hF
  .rw[e] at hq;injection hq with hq;have:=h.fl q hF;omega
theorem gY.Ze{rs:List Rl}(h:gY F w g s A c q d)(o:n=rs.length)(a:bH tV 2 w5 (g+1) 327 q d rs)(j:w.grownBy w5 (some q)):
 gY F (w5.setCell (g,5) (.slice q n d)) g {s with rf:=rs} A c q d/\Kp F w (w5.setCell (g,5) (.slice q n d)):=by
 subst o;have k:Kp F w w5:=h.fl.self (h.fB q rfl) j;have l:g≠q:=λe=>by have t:=(h.oB.lt q rfl).1;omega
 have p:=h.b.grown j (λe=>l (by injection e));have i:bH yZ 3 w5 (g+1) 329 A c s.ch:=h.oA.kept j (by
  cases hb:aY A with
  |none=>exact .inl rfl
  |some r=>right;intro e;exact h.apart r hb e.symm)
 have f:=bC (bL w5 g) 5 (.slice q rs.length d);have m:=(h.fl.kp k).self h.fg f;exact⟨⟨by have:=p.cB 5 (.slice q rs.length d);simpa[zM] using this,i.kept f (tL i),a.kept f (tL a),(h.fl.kp k).kp m,h.fg,h.fA,h.fB⟩,k.trans m⟩
end
def MY(w:aA)(g:Nat):Nat:=match w.cell? (g,5) with|some (.slice _ n _)=>n|_=>0
theorem gY.MY{c:Nat}{s:Sv}(h:gY F w g s A c B d):MY w g=s.rf.length:=by
 unfold Go.Proofs.YtacgiflhgdaeaaaGreat.MY;rw[h.b.cell 5 (.slice B s.rf.length d) rfl]
structure HdR(w:aA)(g q d:Nat)(x:Rl)(n:Nat)(av:Int):Prop where
 c5:w.cell? (g,5)=some (.slice q (n+1) d)
 c3:w.cell? (g,3)=some (.int .i64 av)
 d0:w.cell? (q,0)=some (.int .i64 x.at_)
 d1:w.cell? (q,1)=some (.int .i64 x.am)
theorem gY.Sk{c:Nat}{s:Sv}{x:Rl}{xs:List Rl}(h:gY F w g s A c q d)(hs:s.rf=x::xs):HdR w g q d x xs.length s.av:=by
 have a:=h.oB;rw[hs] at a;refine⟨?_,h.b.cell 3 _ rfl,?_,?_⟩
 .have:=h.b.cell 5 (.slice q s.rf.length d) rfl;rw[hs] at this;exact this
 .simpa using bM pQ a (i:=0) aT (j:=0) (v:= .int .i64 x.at_) rfl
 .simpa using bM pQ a (i:=0) aT (j:=1) (v:= .int .i64 x.am) rfl
def XZ(y:Ck)(v:aC)(w:aA):Prop:=∃G,v= .slice (some ⟨G,0,none⟩) 1 1/\Sl yZ 3 w (some ⟨G,0,none⟩) [y]
theorem XZ.keep{y:Ck}(h:XZ y v w)(a:bP w w'):XZ y v w':=by obtain⟨G,h1,b⟩:=h;exact⟨G,h1,b.keep a⟩
structure Yl(now:Int)(s:Sv)(av:Int)(rf:List Rl):Prop where
 eq:rI now av rf=rI now s.av s.rf
 pav:0<=av
 Ua:∀r∈rf,0<=r.am
 sum:av+pH rf=s.av+pH s.rf
 len:rf.length<=s.rf.length
theorem Cn{s:Sv}(h:sU F w g s)(now:Int)(rd:Bool)(hb:QK s)(hn:s.nw<=now)(hn2:now<=1048576)(h0:0<=s.nw)(hl:s.rf.length+s.ch.length<=2000000):
 aG prog 112 #[.pointer g,now,rd] w (Ty F g (.bool true) (kC s now rd) w):=by
 obtain⟨A,c,B,d,h⟩:=h;have c2:=h.b.cell 2 s.nw rfl;have f2:=h.b.frozen 2;obtain⟨m1,k1⟩:=h.Vs now;have hnn:¬now<s.nw:=aQ;have hA:=GY hb.rf;have hL:=M1 hb.ch;have Z:=hb.all;have hbu:=hb.bu;have h00:=hb.av;have HB:=aP hb;have H1:aH (∃A c B d,gY F (w.setCell (g,2) now) g {s with nw:=now,av:=s.av,rf:=s.rf} A c B d):=⟨A,c,B,d,m1⟩
 have K1:=aP k1;clear h m1 k1 hb;go_enter func112,ntmps112
 go_upto_region 4 with(fail)
 generalize w.setCell (g,2) now=w1 at *;clear c2 f2;go_loopw [23] (λ_ wr=>∃(av:Int) (rf:List Rl),aH (Yl now s av rf)/\aH (∃A c B d,gY F wr g {s with nw:=now,av:=av,rf:=rf} A c B d)/\aH (Kp F w wr)) (λ_ wr=>MY wr g)
 case atStart=>exact⟨s.av,s.rf,⟨rfl,h00,HB.o.rf,rfl,abQ _⟩,H1,K1⟩
 case round=>
  clear H1 K1;obtain⟨av,rf,HP,⟨A,c,B,d,m⟩,K⟩:=hrel;have HLw:=aP m.MY;by_cases E:∃r rs,rf=r::rs/\r.at_<=now
  .obtain⟨r,rs,rfl,hr⟩:=E;obtain⟨q,rfl⟩:∃q,B=some ⟨q,0,none⟩:=by
    rcases m.oB.shape with⟨_,L,_⟩|L
    .cases L
    .exact L
   obtain⟨a0,a1,a2,a3⟩:=m.Sk rfl;simp only at a1;have hp:=HP.o;have hrm:=hp.Ua r aT;have hsm:=hp.sum;rw[BH] at hsm;have hrs:=GY (λx hx=>hp.Ua x (by simp[hx]):∀x∈rs,0<=x.am);have hpa:=hp.pav;have hln:=hp.len;simp only[acR] at hln;have HP2:aH (Yl now s (av+r.am) rs):=⟨by rw[<-hp.eq,rI,abS hr],aQ,λx hx=>hp.Ua x (by simp[hx]),aQ,aQ⟩
   have D:=bO m K.o;have hln2:rs.length+1<=2000000:=aQ;have hw1:av+r.am<=1048576:=aQ;obtain⟨n,hn⟩:∃n,n=rs.length:=⟨_,rfl⟩
   rw[<-hn] at a0 hln2;have HN:=aP hn;have n0:(0:Int)<(n:Int)+1:=aQ;clear m K hn hp hsm hln hL hA Z h00 HP hrs;go_upto_region 5 with(fail)
   have Q:=bE a0;have R:=bE a1;have S:=bE a3;refine bN (bP _) (λ_=>bP) [] (λ_ _ _=>True) [14] [] 118 (bZ _) (λ_ _ _ h M=>bV h M) (λ_ d hd _ v w w' _ h M=>by cases hd) aV aV aZ ?_;repeat refine eK ?_
   refine dG ?_;intro γ w5 a hT;clear Q R S;simp only[cE,Act.put,abP,abV,abU];refine dS ?_;have m5:=D.o.1.keep a;have k5:=D.o.2.trans (D.o.1.fl.below a);refine dY w5 rfl 3 _ _ rfl g 3 (.int .i64 (av+r.am)) rfl rfl aV rfl (m5.b.one (by simp[zM])) ?_;refine cY ?_;try simp only[Act.put]
   obtain⟨m6,k6⟩:=m5.WD (av+r.am);generalize w5.setCell (g,3) (.int .i64 (av+r.am))=w6 at *;have hD:aG prog 154 #[.slice (some ⟨q,0,none⟩) (n+1) d,aU, .int .i64 1] w6 λe w'=>e= .returned (.slice (some ⟨q,0,none⟩) n d)/\bH tV 2 w' (g+1) 327 (some ⟨q,0,none⟩) d rs/\w6.grownBy w' (some q):=by
    have:=Xr.lV q d 0 rs.length (g+1) (r::rs) w6 m6.oB bX (by have:=HN.o;simp;omega);rw[HN.o];simpa using this
   have h6:=m6.Sk rfl;rw[<-HN.o] at h6;have HD:=aP hD;have H6:=bO m6 (k5.trans k6);clear a0 a1 a2 a3 m5 k5 m6 k6 hD hT a;obtain⟨a0,a1,a2,a3⟩:=h6;go_wp2_with fail
   refine aR HD ?_;rintro e w7 ⟨rfl,own7,hg7⟩;obtain⟨m8,k8⟩:=H6.o.1.Ze HN.o own7 hg7;have b7:=H6.o.1.b.grown hg7 (λe=>by have h9:=(H6.o.1.oB.lt q rfl).1;injection e with e;omega);have f7:=b7.frozen 5;have c7:=b7.cell 5 _ rfl;have HLe:=aP m8.MY;have HM8:=bO m8 (H6.o.2.trans k8);clear a0 a1 a2 a3 m8 k8 own7 hg7 b7;go_wp2_with fail
   go_roundw
   case rel=>exact⟨av+r.am,rs,HP2.o,⟨_,_,_,_,HM8.o.1⟩,HM8.o.2⟩
   case measure=>rw[HLe.o,HLw.o];simp
  .have hp:=HP.o;have hE:rI now av rf=(av,rf):=by
    cases rf with
    |nil=>rfl
    |cons r rs=>unfold rI;rw[abT];intro h;exact E ⟨r,rs,rfl,h⟩
   obtain⟨p,N⟩:∃p,p=uU now s:=⟨_,rfl⟩
   have hs':({s with nw:=now,av:=av,rf:=rf}:Sv)=p:=by rw[N];unfold uU;rw[<-hp.eq,hE]
   have T:p.rf=rf/\p.av=av:=by rw[<-hs'];exact⟨rfl,rfl⟩
   rw[hs'] at m;have O:=HB.o.pop now;rw[<-N] at O;have hpe:p.pe=s.pe/\p.ch=s.ch:=by rw[N];exact⟨rfl,rfl⟩
   have hpb:=O.bu;have hpa:=O.av;have HV:aH (kC s now rd=if rd then(if 0<p.av then {p with ch:=p.ch++ [⟨p.av,0,now+p.pe⟩],av:=0} else p) else {p.ch.foldl iH p with ch:= []}):=by unfold aH;rw[N];rfl
   have D:=dE m K.o O;have hlr:rf.length+p.ch.length<=2000000:=by have:=hp.len;rw[hpe.2];omega
   have c5:=m.b.cell 5 (.slice B p.rf.length d) rfl;have HPR:=aP T;have HLR:aH (p.rf.length+p.ch.length<=2000000):=by unfold aH;rw[T.1];exact hlr
   rw[T.1] at c5;have HNP:=aP E;clear hp hE hs' T K hn Z hA hL h00 O E HP N hpe;rcases rf with _|⟨r,rs⟩;clear m;simp only[ac6] at c5;go_upto_region 7 with(fail)
   rotate_left
   obtain⟨q,rfl⟩:∃q,B=some ⟨q,0,none⟩:=by
    rcases m.oB.shape with⟨_,L,_⟩|L
    .rw[HPR.o.1] at L;cases L
    .exact L
   have a2:=(m.Sk HPR.o.1).d0;have hr:¬r.at_<=now:=λh=>HNP.o ⟨r,rs,rfl,h⟩
   simp only[acR] at c5 hlr;have n0:(0:Int)<(rs.length:Int)+1:=aQ;clear m;generalize rs.length=n at *;go_upto_region 7 with(fail)
   all_goals
    clear c5 HPR HNP;have c3:=D.o.1.b.cell 3 p.av rfl;have c4:=D.o.1.b.cell 4 (.slice A p.ch.length c) rfl;have c1:=D.o.1.b.cell 1 p.pe rfl;cases rd
    .have I:aH (kC s now false={p.ch.foldl iH p with ch:= []}):=by have:=HV.o;rw[abT aT] at this;exact this
     have hlc:p.ch.length<=2000000:=aQ;have hlr2:p.rf.length+p.ch.length<=2000000:=HLR.o;obtain⟨H,f⟩:∃H,H=p.ch.length:=⟨_,rfl⟩
     rw[<-f] at c4 hlc hlr2;have P:=aP f;have HF0:aH (FN p p 0):=FN.zero D.o.2.2;have HM0:aH (∃B d,gY F wr g p A c B d):=⟨_,_,D.o.1⟩
     have HK0:=aP D.o.2.1;clear f HV c3 c1;go_wp2_with fail
     go_loopw [69] (λv69 wz=>∃(k:Nat) (st:Sv),v69= .int .i64 k/\k<=H/\aH (FN p st k)/\aH (∃B d,gY F wz g st A c B d)/\aH (Kp F w wz)) (λv69 _=>H - (aL v69).toNat)
     case atStart=>exact⟨0,p,rfl,ab0 _,HF0,HM0,HK0⟩
     case round=>
      clear HF0 HM0 HK0;obtain⟨k,st,rfl,hk,i,⟨B2,d2,m⟩,HK⟩:=hrel;by_cases hkn:k<H
      .have J:k<p.ch.length:=by rw[<-P.o];exact hkn
       have hst:=aP (i.o.step D.o.2.2 J);have hxs:p.ch[k]∈p.ch.drop k:=by rw[aeD J];exact List.mem_cons_self
       have hbe:=i.o.CJ;have hfl:=i.o.len;have hfs:=i.o.sum;have hfa:=i.o.av;have hx:=D.o.2.2.ch _ (abY J);have hns:=GY i.o.rf;have hnl:=M1 (l:=p.ch.drop (k+1)) (λz M=>D.o.2.2.ch z (List.mem_of_mem_drop M));have hdk:p.ch.drop k=p.ch[k]::p.ch.drop (k+1):=aeD J;rw[hdk,oP] at hfs;have u:k<st.ch.length:=by rw[i.o.ch];exact J
       have hge:st.ch[k]=p.ch[k]:=by simp only[i.o.ch]
       obtain⟨q,rfl⟩:∃q,A=some ⟨q,0,none⟩:=by
        rcases m.oA.shape with⟨_,L,_⟩|L
        .rw[L] at u;simp at u
        .exact L
       have e0:=bM kW m.oA u (j:=0) (v:= .int .i64 st.ch[k].lf) rfl;have e1:=bM kW m.oA u (j:=1) (v:= .int .i64 st.ch[k].us) rfl;have e2:=bM kW m.oA u (j:=2) (v:= .int .i64 st.ch[k].de) rfl;rw[hge] at e0 e1 e2;rw[acD] at e0;have hbx:∀r∈st.rf,r.at_<=p.ch[k].de:=λr hr=>hbe r hr _ hxs
       have HS:=dE hst.o hbx HK.o;have hlr3:st.rf.length<=2000000:=aQ;obtain⟨y,hy⟩:∃y,y=p.ch[k]:=⟨_,rfl⟩
       rw[<-hy] at HS e0 e1 e2 hx hfs;have HM2:=aP m;have k0:(0:Int)<=k:=aQ;have k1:(k:Int)<(H:Int):=aQ;have hw1:st.av+y.lf<=1048576:=aQ;have hw2:0<=st.av+y.lf:=aQ;have yb:=bF.new wr 329 #[y.lf,y.us,y.de];clear hst hbx hbe hfl hfs hns hnl hdk hge u hxs hy J HK i m;go_upto_region 11 with(fail)
       have hyg:wr.heap.size≠g:=by have:=HM2.o.b.lt;omega
       have m3:=HM2.o.keep (aX wr (aI #[y.lf,y.us,y.de] 329));have kk:=HS.o.2.2.trans (HM2.o.fl.below (aX wr (aI #[y.lf,y.us,y.de] 329)));generalize wr.alloc (aI #[y.lf,y.us,y.de] 329)=w3 at *;generalize wr.heap.size=yq at *;have x0:=yb.cell 0 y.lf rfl;have c3:=m3.b.cell 3 st.av rfl;have H3:=dE m3 kk yb;clear m3 kk yb e0 e1 e2;have U:=bE x0;have C:=bE c3;refine bN (bP _) (λ_=>bP) [] (λ_ _ _=>True) [9] [] 118 (bZ _) (λ_ _ _ h M=>bV h M) (λ_ d hd _ v w w' _ h M=>by cases hd) aV aV aZ ?_;repeat refine eK ?_
       refine dG ?_;intro γ w5 a hT;clear U C;simp only[cE,Act.put,abP,abV,abU];refine dS ?_;have m5:=H3.o.1.keep a;have k5:=H3.o.2.1.trans (H3.o.1.fl.below a);refine dY w5 rfl 3 _ _ rfl g 3 (.int .i64 (st.av+y.lf)) rfl rfl aV rfl (m5.b.one (by simp[zM])) ?_;refine cY ?_;try simp only[Act.put]
       obtain⟨m6,k6⟩:=m5.WD (st.av+y.lf);have V:=(H3.o.2.2.keep a).r8 (p:=⟨g,3,none⟩) hyg (.int .i64 (st.av+y.lf));generalize w5.setCell (g,3) (.int .i64 (st.av+y.lf))=w6 at *;have vD:=aP (YT m6 y HS.o.2.1 (by simp only;omega));have HK6:=aP (k5.trans k6);clear m5 k5 m6 k6 hT a c3 x0;have x0:=V.cell 0 y.lf rfl;have x1:=V.cell 1 y.us rfl;have x2:=V.cell 2 y.de rfl;clear V;go_wp2_with fail
       refine aR vD ?_;rintro e w7 ⟨rfl,⟨B3,d3,m7⟩,k7⟩;have HF7:=bO m7 (HK6.o.trans k7);clear m7 k7 x0 x1 x2;go_wp2_with fail
       go_roundw
       case rel=>exact⟨k+1,iH st y,by go_num,aQ,HS.o.1,⟨_,_,HF7.o.1⟩,HF7.o.2⟩
       case measure=>simp[aL];omega
      .obtain rfl:k=H:=aQ;have k1:¬(k:Int)<(k:Int):=aQ;have hE:st=p.ch.foldl iH p:=by rw[i.o.eq,acC (by rw[<-P.o];exact abQ _)]
       have f4:=m.b.frozen 4;have c4:=m.b.cell 4 (.slice A st.ch.length c) rfl;obtain⟨m8,k8⟩:=m.Yq;have HF:=dE m8 (HK.o.trans k8) hE;clear m m8 k8 hE i HK;go_wp2_with fail
       go_ret
       exact⟨rfl,by rw[I.o,<-HF.o.2.2];exact⟨_,_,_,_,HF.o.1⟩,HF.o.2.1⟩
    .by_cases hav:0<p.av
     .have I:aH (kC s now true={p with ch:=p.ch++ [⟨p.av,0,now+p.pe⟩],av:=0}):=by have:=HV.o;rw[abS rfl,abS hav] at this;exact this
      obtain⟨y,hy⟩:∃y:Ck,y=⟨p.av,0,now+p.pe⟩:=⟨_,rfl⟩
      have HY:aH (∀(W:aA) t,Sl yZ 3 (W.alloc (.cells #[p.av,aU, .int .i64 (now+p.pe)] t)) (some ⟨W.heap.size,0,none⟩) [y]):=λW t=>Sl.new kW W y _ (by rw[hy];rfl) t
      rw[<-hy] at I;clear hy HV;obtain⟨H,f⟩:∃H,H=p.ch.length:=⟨_,rfl⟩
      rw[<-f] at c4 hlr;have P:=aP f;clear f;go_upto_region 16 with(fail)
      have X:=bE c1;have C:=bE c3;have Y:=bE c4;refine bN (bP _) (λ_=>bP) [111] (λ_ v w=>XZ y v w) [18,21] [[18,17,16,8], [18,17,16,15,14]] 118 (bZ _) (λ_ _ _ h M=>bV h M) (λ_ d hd _ v w w' _ h M=>h.keep M) aV aV aZ ?_;repeat (first|(refine eK ?_)|(refine sF 111 [] aZ aZ aZ aZ (λγ w hC hT=>?_) ?_;(simp only[cE];go_simp;exact pG (aX w _) ⟨_,rfl,HY.o w _⟩);(try refine cI ?_)))
      refine dG ?_;intro γ w5 a hT;clear X C Y;simp only[cE,Act.put,abP,abV,abU];refine dS ?_;obtain⟨G,hv,hsl⟩:=hT 111 aT;rw[hv];have m5:=D.o.1.keep a;have k5:=D.o.2.1.trans (D.o.1.fl.below a);clear hT hv HY c1 c3 c4;refine bQ w5 rfl (.tmp 98) (.tmp 111) rfl Zw kW m5.oA (n:=H) P.o.symm rfl (m:=1) rfl (ys:= [y]) rfl hsl dN aQ (by have:=m5.b.lt;omega) _ rfl (H+1) rfl ?_;intro A6 c6 w6 own6 hg6 at6;have b6:=m5.b.grown hg6 (λe=>by have:=(m5.oA.lt g e.symm).1;omega);refine dY w6 rfl 300 _ _ rfl g 4 (.slice A6 (H+1) c6) rfl rfl aV rfl (b6.one (by simp[zM])) ?_;refine cY ?_;try simp only[Act.put]
      obtain⟨m7,k7⟩:=m5.Ws P.o own6 hg6 at6;generalize w6.setCell (g,4) (.slice A6 (H+1) c6)=w7 at *;have f3:=m7.b.frozen 3;have c3:=m7.b.cell 3 p.av rfl;obtain⟨m8,k8⟩:=m7.WD 0;have HF:=bO m8 ((k5.trans k7).trans k8);clear m5 k5 m7 k7 m8 k8 own6 hg6 at6 b6 hsl a;go_wp2_with fail
      go_ret
      exact⟨rfl,by rw[I.o];exact⟨_,_,_,_,HF.o.1⟩,HF.o.2⟩
     .have I:aH (kC s now true=p):=by have:=HV.o;rw[abS rfl,abT hav] at this;exact this
      have hav2:¬0<p.av:=hav;clear HV;go_wp2_with fail
      go_ret
      exact⟨rfl,by rw[I.o];exact⟨_,_,_,_,D.o.1⟩,D.o.2.1⟩
end
variable{G H:Nat->Prop}
section
theorem sU.move{s:Sv}(h:sU F w g s)(k:Kp G w w')(a:∀r,r<w.heap.size->¬F r->G r)(fl:Ol H w')(hH:∀r,r<w.heap.size->¬F r->¬H r):sU H w' g s:=by
 obtain⟨A,c,B,d,h⟩:=h;exact⟨A,c,B,d,k.aY h.b (a g h.b.lt h.fg),h.oA.kp k (λq hq=>a q (h.oA.lt q hq).2 (h.fA q hq)),h.oB.kp k (λq hq=>a q (h.oB.lt q hq).2 (h.fB q hq)),fl,hH g h.b.lt h.fg,λq hq=>hH q (h.oA.lt q hq).2 (h.fA q hq),λq hq=>hH q (h.oB.lt q hq).2 (h.fB q hq)⟩
def n9(bu pe:Int):Bool:=decide (1<=bu/\bu<=pe/\pe<=1048576)
theorem DU(bu pe:Int)(w:aA):aG prog 129 #[.agg #[bu,pe]] w λe w'=>e= .returned (.bool (n9 bu pe))/\aD w w w':=by
 have hb:=aP (aX w (aI #[bu,pe] 112));by_cases h1:1<=bu
 .by_cases b:bu<=pe
  .by_cases c:pe<=1048576
   .have a:aH (n9 bu pe=true):=acF ⟨h1,b,c⟩;go_enter func129,ntmps129
    go_wp2_with fail
    go_ret
    exact⟨by first|(rw[a.o];rfl)|rw[a.o],hb.o⟩
   .have a:aH (n9 bu pe=false):=ab8 (λh=>c h.2.2);go_enter func129,ntmps129
    go_wp2_with fail
    go_ret
    exact⟨by first|(rw[a.o];rfl)|rw[a.o],hb.o⟩
  .have a:aH (n9 bu pe=false):=ab8 (λh=>b h.2.1);go_enter func129,ntmps129
   go_wp2_with fail
   go_ret
   exact⟨by first|(rw[a.o];rfl)|rw[a.o],hb.o⟩
 .have a:aH (n9 bu pe=false):=ab8 (λh=>h1 h.1);go_enter func129,ntmps129
  go_wp2_with fail
  go_ret
  exact⟨by first|(rw[a.o];rfl)|rw[a.o],hb.o⟩
end
end
section
open Go.RowKit
section
variable{w w':aA}{b:Nat}
theorem C9{es:Array MapEntry}{c:Nat}{o:Obj}(hb:w.heap[b]?=some (.map es c)):w.grownBy {w with heap:=w.heap.setIfInBounds b o} (some b):=
 ⟨rfl,rfl,rfl,aT,λi _ a=>(MapKept.heap_set hb).2 i (λe=>a (by rw[e]))⟩
end
variable{es:List MapEntry}{j g:Nat}{en:MapEntry}{P:aO}{z:aC}{Q:Exit->Act->aA->Prop}{w:aA}
section
structure D4{α:Type}(ev:α->aC)(es:List MapEntry)(f:Int->Option α):Prop where
 ky:∀x∈es,MapKept.IsKey (.int .i64) x.key
 ap:es.Pairwise (λx y=>x.key≠y.key)
 tq:∀x v,f x=some v->∃e∈es,e.key= .int .i64 x/\e.val=ev v
 Kq:∀e∈es,∀x,e.key= .int .i64 x->∃v,f x=some v/\e.val=ev v
def iJ{α:Type}(ev:α->aC)(w:aA)(b:Nat)(f:Int->Option α):Prop:=∃es clock,w.heap[b]?=some (.map es clock)/\D4 ev es.toList f
def gG{α:Type}(f:Int->Option α)(x:Int)(v:Option α):Int->Option α:=λy=>if y=x then v else f y
section
variable{α:Type}{ev:α->aC}{w w':aA}{b:Nat}{f:Int->Option α}
theorem EC(x:Int):MapKept.IsKey (.int .i64) (.int .i64 x):=by simp[MapKept.IsKey]
theorem D4.MN(h:D4 ev es f){x:Int}(a:∀e∈es,e.key≠ .int .i64 x):f x=none:=by
 cases hf:f x with
 |none=>rfl
 |some v=>
  obtain⟨e,he,h1,_⟩:=h.tq x v hf;exact absurd h1 (a e he)
theorem D4.push(h:D4 ev es f){x:Int}(g:∀e∈es,e.key≠ .int .i64 x)(v:α)(c:Nat):D4 ev (es++ [{key:= .int .i64 x,val:=ev v,born:=c}]) (gG f x (some v)):=by
 refine⟨λy d=>?_,?_,λy u d=>?_,λe he y d=>?_⟩
 .rcases ab9.1 d with d|d
  .exact h.ky y d
  .rw[ab3.1 d];exact EC x
 .rw[aeI];exact⟨h.ap,aeJ _ _,λa ha c hc=>by rw[ab3.1 hc];exact g a ha⟩
 .unfold gG at d;split at d
  .rename_i e;subst e;injection d with d;subst d;exact⟨{key:= .int .i64 y,val:=ev v,born:=c},aT,rfl,rfl⟩
  .obtain⟨e,he,h1⟩:=h.tq y u d;exact⟨e,by simp[he],h1⟩
 .rcases ab9.1 he with he|he
  .obtain⟨u,h1,i⟩:=h.Kq e he y d;refine⟨u,?_,i⟩;unfold gG;rw[abT (λj=>g e he (by rw[d,j]))];exact h1
  .rw[ab3.1 he] at d⊢;simp only[Value.int.injEq,adG] at d;exact⟨v,by unfold gG;rw[abS d.symm],rfl⟩
theorem D4.set(h:D4 ev es f){x:Int}(l:es[j]?=some en)(hk:en.key= .int .i64 x)(v:α):D4 ev (es.set j {en with val:=ev v}) (gG f x (some v)):=by
 have c:j<es.length:=by
  rcases aeH j es.length with q|q
  .exact q
  .rw[adC q] at l;cases l
 have d:es[j]=en:=by rw[abO c] at l;injection l
 have g:(es.set j {en with val:=ev v}).map (·.key)=es.map (·.key):=by
  rw[adS];apply adJ
  .simp
  .intro i h1 m;rw[acS];split
   .rename_i e;subst e;simp[d]
   .rfl
 have other:∀i (hi:i<es.length),es[i].key= .int .i64 x->i=j:=by
  intro i hi e;rcases Nat.lt_trichotomy i j with q|q|q
  .exact absurd (by rw[e,d,hk]) (ad5.1 h.ap i j hi c q)
  .exact q
  .exact absurd (by rw[e,d,hk]) (ad5.1 h.ap j i c hi q)
 refine⟨λy a=>?_,?_,λy u a=>?_,λe he y a=>?_⟩
 .rcases acW a with a|a
  .exact h.ky y a
  .rw[a];exact h.ky en (d ▸ abY c)
 .rw[<-List.pairwise_map (f:=λx:MapEntry=>x.key) (R:=(· ≠ ·)),g,List.pairwise_map];exact h.ap
 .unfold gG at a;split at a
  .rename_i e;subst e;injection a with a;subst a;exact⟨_,List.mem_set c _,hk,rfl⟩
  .rename_i n;obtain⟨e,he,h1,m⟩:=h.tq y u a;obtain⟨i,hi,rfl⟩:=acL he;refine⟨es[i],?_,h1,m⟩;rw[af5];refine⟨i,by simpa using hi,?_⟩;rw[List.getElem_set_ne];intro o;subst o;rw[d,hk] at h1;simp at h1;exact n h1.symm
 .obtain⟨i,hi,rfl⟩:=acL he;rw[ab5] at hi;by_cases k:j=i
  .subst k;rw[List.getElem_set_self] at a⊢;simp only at a⊢;rw[hk] at a;simp at a;exact⟨v,by unfold gG;rw[abS a.symm],rfl⟩
  .rw[List.getElem_set_ne k] at a⊢;obtain⟨u,h1,m⟩:=h.Kq es[i] (abY hi) y a;refine⟨u,?_,m⟩;unfold gG;rw[abT (λo=>k (other i hi (by rw[a,o])).symm)];exact h1
theorem D4.del(h:D4 ev es f){x:Int}(g:es[j]?=some en)(hk:en.key= .int .i64 x):D4 ev (es.eraseIdx j) (gG f x none):=by
 have c:j<es.length:=by
  rcases aeH j es.length with q|q
  .exact q
  .rw[adC q] at g;cases g
 have d:es[j]=en:=by rw[abO c] at g;injection g
 have other:∀i (hi:i<es.length),es[i].key= .int .i64 x->i=j:=by
  intro i hi e;rcases Nat.lt_trichotomy i j with q|q|q
  .exact absurd (by rw[e,d,hk]) (ad5.1 h.ap i j hi c q)
  .exact q
  .exact absurd (by rw[e,d,hk]) (ad5.1 h.ap j i c hi q)
 refine⟨λy a=>h.ky y (aeG a),h.ap.sublist (af0 es j),λy u a=>?_,λe he y a=>?_⟩
 .unfold gG at a;split at a
  .cases a
  .rename_i k;obtain⟨e,he,h1,l⟩:=h.tq y u a;obtain⟨i,hi,rfl⟩:=acL he;refine⟨es[i],?_,h1,l⟩;rw[aeT];exact⟨i,hi,λm=>by subst m;rw[d,hk] at h1;simp at h1;exact k h1.symm,rfl⟩
 .rw[aeT] at he;obtain⟨i,hi,n,rfl⟩:=he;obtain⟨u,h1,l⟩:=h.Kq es[i] (abY hi) y a;refine⟨u,?_,l⟩;unfold gG;rw[abT (λm=>n (other i hi (by rw[a,m])))];exact h1
theorem iJ.lt(h:iJ ev w b f):b<w.heap.size:=by
 obtain⟨es,c,h1,_⟩:=h;rcases aeH b w with a|hge
 .exact a
 .rw[aeM hge] at h1;cases h1
theorem iJ.same(h:iJ ev w b f)(hb:w'.heap[b]?=w.heap[b]?):iJ ev w' b f:=by
 obtain⟨es,c,h1,a⟩:=h;exact⟨es,c,hb.trans h1,a⟩
theorem iJ.keep(h:iJ ev w b f)(hb:aD w w w'):iJ ev w' b f:=h.same (hb.block b h.lt)
theorem iJ.r8(h:iJ ev w b f)(c:w.grownBy w' (some g))(a:b≠g):iJ ev w' b f:=h.same (c.block b h.lt (λe=>a (by injection e)))
theorem iJ.new(w:aA)(ev:α->aC):iJ ev (w.alloc (.map #[] 0)) w (λ_=>none):=⟨#[],0,(MapKept.heap_alloc w _).1,aT,aT,aT,aT⟩
theorem wY{t k e:aN}(l:P.underlying t=some (.map k e))(hk:P.underlying k=some (.int .i64))(m:(zeroValue e).run P w= .ok z w)(h:iJ ev w b f)(x:Int)(c:Bool):
 (Instr.lookup t (.map (some b)) (.int .i64 x) c).run P w= .ok (if c then .tuple #[((f x).map ev).getD z, .bool (f x).isSome] else((f x).map ev).getD z) w:=by
 obtain⟨es,cl,h1,a⟩:=h;have d:=EC x;rcases MapKept.findNow_spec d es.toList 0 a.ky with⟨g,i⟩|⟨j,en,g,i,n⟩
 .simp[Instr.lookup,run_underlying l,MapKept.run_getObj_map h1,MapKept.run_checkKey hk d,MapKept.run_findKey hk g,m,Result.andThen,a.MN i]
 .obtain⟨v,o,p⟩:=a.Kq en (adI i) x n;simp[Instr.lookup,run_underlying l,MapKept.run_getObj_map h1,MapKept.run_checkKey hk d,MapKept.run_findKey hk g,Result.andThen,o,p]
theorem KV{t k e:aN}(s:P.underlying t=some (.map k e))(hk:P.underlying k=some (.int .i64))(h:iJ ev w b f)(x:Int)(v:α):
 ∃w',(Instr.mapUpdate t (.map (some b)) (.int .i64 x) (ev v)).run P w= .ok () w'/\iJ ev w' b (gG f x (some v))/\w.grownBy w' (some b):=by
 obtain⟨es,c,h1,d⟩:=h;have l:=EC x;rcases MapKept.findNow_spec l es.toList 0 d.ky with⟨n,m⟩|⟨j,en,n,m,o⟩
 .exact⟨_,by simp[Instr.mapUpdate,run_underlying s,MapKept.run_getObj_map h1,MapKept.run_checkKey hk l,MapKept.run_findKey hk n,MapKept.run_setObj_map _ h1,Result.andThen];rfl,⟨_,_,(MapKept.heap_set h1).1,by rw[Array.toList_push];exact d.push m v _⟩,C9 h1⟩
 .have a:es[j]?=some en:=by simpa using m
  refine⟨_,by simp[Instr.mapUpdate,run_underlying s,MapKept.run_getObj_map h1,MapKept.run_checkKey hk l,MapKept.run_findKey hk n,a,o,MapKept.run_keyThatStays l,MapKept.run_setObj_map _ h1,Result.andThen];rfl,⟨_,_,(MapKept.heap_set h1).1,?_⟩,C9 h1⟩;have p:j<es.size:=by
   rcases aeH j es.size with q|q
   .exact q
   .rw[aeM q] at a;cases a
  have r:es[j]=en:=by rw[acV p] at a;injection a
  have heq:∀g:MapEntry->MapEntry,(es.modify j g).toList=es.toList.set j (g en):=by
   intro g;apply adJ
   .simp
   .intro i h1 d;simp only[af6,Array.getElem_modify,acS];split
    .rename_i e;subst e;rw[r]
    .rfl
  rw[heq];have:=d.set m o v;simpa[o] using this
theorem BX{t k e:aN}(m:P.underlying t=some (.map k e))(hk:P.underlying k=some (.int .i64))(h:iJ ev w b f)(x:Int)(ty:aN):
 ∃w',(Builtin.delete_ #[t,k] ty #[.map (some b),x]).run P w= .ok (.tuple #[]) w'/\iJ ev w' b (gG f x none)/\w.grownBy w' (some b):=by
 obtain⟨es,c,h1,d⟩:=h;have g:=EC x;rcases MapKept.findNow_spec g es.toList 0 d.ky with⟨i,a⟩|⟨j,en,i,a,n⟩
 .have hf:gG f x none=f:=by
   funext y
   unfold gG;split
   .rename_i e;rw[e];exact(d.MN a).symm
   .rfl
  exact⟨_,by simp[Builtin.delete_,run_underlying m,MapKept.run_getObj_map h1,MapKept.run_checkKey hk g,MapKept.run_findKey hk i,MapKept.run_setObj_map _ h1,Result.andThen];rfl,⟨_,_,(MapKept.heap_set h1).1,by rw[hf];exact d⟩,C9 h1⟩
 .refine⟨_,by simp[Builtin.delete_,run_underlying m,MapKept.run_getObj_map h1,MapKept.run_checkKey hk g,MapKept.run_findKey hk i,MapKept.run_setObj_map _ h1,Result.andThen];rfl,⟨_,_,(MapKept.heap_set h1).1,?_⟩,C9 h1⟩;have l:j<es.size:=by
   rcases aeH j es.size with q|q
   .exact q
   .rw[adC (by simpa using q)] at a;cases a
  have hd:=d.del a n;rw[Array.eraseIdxIfInBounds,dif_pos l,Array.toList_eraseIdx];exact hd
theorem Ft{t k e:aN}(a:P.underlying t=some (.map k e))(h:iJ ev w b f)(ty:aN):
 ∃n:Nat,(Builtin.len_ #[t] ty #[.map (some b)]).run P w= .ok (.int .i64 n) w/\(n=0->∀x,f x=none):=by
 obtain⟨es,c,h1,d⟩:=h;refine⟨es.size,by simp[Builtin.len_,run_underlying a,MapKept.run_getObj_map h1,Result.andThen,goInt],λg x=>d.MN λe he=>?_⟩;rw[Array.size_eq_zero_iff.1 g] at he;simp at he
end
theorem G7{α:Type}(ev:α->aC){f:Int->Option α}{ops:Array aK}{rest:List aK}{o:aK}{a:Act}(w:aA)(g:o.guard=none)(m x v:Operand)(t k e:aN)(d:o.op=Op.mapUpdate t m x v)
 (i:P.underlying t=some (.map k e)) (hk:P.underlying k=some (.int .i64)) (b:Nat) (n:Int) (y:α) (hm:a.eval m= .map (some b)) (j:a.eval x= .int .i64 n) (l:a.eval v=ev y) (h:iJ ev w b f)
 (hK:∀w',iJ ev w' b (gG f n (some y))->w.grownBy w' (some b)->wpList P ops Q rest (a.put o.dst undef) w'):wpList P ops Q (o::rest) a w:=by
 refine wpList_plain g λK' hK'=>?_
 obtain⟨w',c,r1,p⟩:=KV i hk h n y;unfold Oper.wp;simp[execOp,d,hm,j,l,c,Result.andThen];exact hK' _ _ (hK w' r1 p)
theorem TB{t k e:aN}(a:P.underlying t=some (.map k e))(hk:P.underlying k=some (.int .i64))(d:(zeroValue e).run P w= .ok z w)(x:Int)(c:Bool):
 (Instr.lookup t (.map none) (.int .i64 x) c).run P w= .ok (if c then .tuple #[z,false] else z) w:=by
 simp[Instr.lookup,run_underlying a,MapKept.run_checkKey hk (EC x),Instr.findKey,run_underlying hk,Instr.findNow,d,Result.andThen]
end
end
variable{bu pe p e E:Int}
section
section
structure Bk where
 sh:Int
 un:Int
structure Bs where
 bn:Int
 us:Int
 f:Int->Option Int
 L:List Bk
def jC(bu pe:Int):Int:=(4294967296 *bu+pe - 1) /pe
def EY(f:Int->Option Int):Int:=(f 0).getD 0+(f 1).getD 0+(f 2).getD 0+(f 3).getD 0+(f 4).getD 0+(f 5).getD 0+(f 6).getD 0+(f 7).getD 0
def iF(l:List Bk):Int:=(l.map Bk.sh).sum
structure tO(b:Bs):Prop where
 nn:∀x v,b.f x=some v->0<=v/\0<=x/\x<8
 pn:∀p∈b.L,0<=p.sh
 all:b.us=EY b.f+iF b.L
 top:b.us<=4294967296
def nV(b:Bs)(who bu pe:Int):Int:=if n9 bu pe then(if(b.f who).isSome then 7 else if 4294967296<b.us+jC bu pe then 24 else 0) else 1
def sE(b:Bs)(who bu pe:Int):Bs:=if nV b who bu pe=0 then {b with f:=gG b.f who (some (jC bu pe)),us:=b.us+jC bu pe} else b
def DH(b:Bs)(who:Int):Int:=if(b.f who).isSome then 0 else 6
def tR(b:Bs)(who until_:Int):Bs:=match b.f who with
 |none=>b
 |some v=>if b.bn<until_ then {b with f:=gG b.f who none,L:=b.L++ [⟨v,until_⟩]} else {b with f:=gG b.f who none,us:=b.us - v}
def mF(now:Int)(l:List Bk):List Bk:=l.filter λp=>decide (p.un<=now)
def vP(now:Int)(l:List Bk):List Bk:=l.filter λp=>!decide (p.un<=now)
def l9(b:Bs)(now:Int):Bs:=if now<b.bn then b else {b with bn:=now,us:=b.us - iF (mF now b.L),L:=vP now b.L}
theorem FD(p:Bk)(l:List Bk):iF (p::l)=p.sh+iF l:=by simp[iF]
theorem O0(p:Bk)(l:List Bk):iF (l++ [p])=iF l+p.sh:=by simp[iF]
theorem yN{l:List Bk}(h:∀p∈l,0<=p.sh):0<=iF l:=by
 induction l with
 |nil=>simp[iF]
 |cons p l a=>
  have:=h p aT;have:=a λq hq=>h q (by simp[hq])
  rw[FD];omega
theorem DS(now:Int):∀l:List Bk,iF l=iF (mF now l)+iF (vP now l)
 | []=>rfl
 |p::l=>by
  have:=DS now l;unfold mF vP at *;by_cases h:p.un<=now
  .simp only[List.filter_cons,h,decide_true,ac2,Bool.not_true,acJ,acI,FD];omega
  .simp only[List.filter_cons,h,decide_false,ac2,Bool.not_false,acJ,acI,FD];omega
theorem V5(now:Int)(l:List Bk)(p:Bk):mF now (l++ [p])=mF now l++(if p.un<=now then [p] else []):=by
 unfold mF;by_cases h:p.un<=now <;> simp[aeA,h]
theorem XW(now:Int)(l:List Bk)(p:Bk):vP now (l++ [p])=vP now l++(if p.un<=now then [] else [p]):=by
 unfold vP;by_cases h:p.un<=now <;> simp[aeA,h]
theorem eight{x:Int}(h:0<=x/\x<8):x=0\/x=1\/x=2\/x=3\/x=4\/x=5\/x=6\/x=7:=aQ
theorem RK{f:Int->Option Int}{x:Int}(h:0<=x/\x<8)(v:Option Int):EY (gG f x v)=EY f+v.getD 0 - (f x).getD 0:=by
 rcases eight h with rfl|rfl|rfl|rfl|rfl|rfl|rfl|rfl <;> simp[EY,gG] <;> omega
theorem Oj{f:Int->Option Int}(h:∀x v,f x=some v->0<=v/\0<=x/\x<8){x v:Int}(b:f x=some v):v<=EY f:=by
 have a:∀y,0<=(f y).getD 0:=λy=>by
  cases c:f y with
  |none=>simp
  |some u=>simpa using (h y u c).1
 have d:=a 0;have h1:=a 1;have e:=a 2;have g:=a 3;have i:=a 4;have j:=a 5;have k:=a 6;have l:=a 7;have m:v=(f x).getD 0:=by rw[b];rfl
 unfold EY;rcases eight (h x v b).2 with rfl|rfl|rfl|rfl|rfl|rfl|rfl|rfl <;> omega
theorem T0{f:Int->Option Int}(h:∀x v,f x=some v->0<=v/\0<=x/\x<8):0<=EY f:=by
 have a:∀y,0<=(f y).getD 0:=λy=>by
  cases b:f y with
  |none=>simp
  |some u=>simpa using (h y u b).1
 have c:=a 0;have h1:=a 1;have d:=a 2;have e:=a 3;have g:=a 4;have i:=a 5;have j:=a 6;have k:=a 7;unfold EY;omega
theorem BD(h:n9 bu pe=true):1<=bu/\bu<=pe/\pe<=1048576:=adD h
theorem EA(h:1<=bu/\bu<=pe/\pe<=1048576):1<=jC bu pe/\jC bu pe<=4294967296:=by
 unfold jC;refine⟨(Int.le_ediv_iff_mul_le aQ).2 aQ,?_⟩;have:(4294967296 *bu+pe - 1) /pe<4294967297:=(Int.ediv_lt_iff_lt_mul aQ).2 aQ;omega
theorem tO.us0{b:Bs}(h:tO b):0<=b.us:=by
 have:=h.all;have:=T0 h.nn;have:=yN h.pn;omega
theorem tO.adm{b:Bs}(h:tO b)(hw:0<=p/\p<8):tO (sE b p bu pe):=by
 unfold sE;split
 .rename_i he;unfold nV at he;split at he
  .rename_i c;split at he
   .cases he
   .rename_i hs;split at he
    .cases he
    .rename_i d;have hb:=EA (BD c);have hf:b.f p=none:=by
      cases hf:b.f p with
      |none=>rfl
      |some v=>rw[hf] at hs;simp at hs
     refine⟨λx v a=>?_,h.pn,?_,by simp only;omega⟩
     .simp only[gG] at a;split at a
      .rename_i e;injection a with a;subst a;exact⟨aQ,aQ,aQ⟩
      .exact h.nn x v a
     .have:=h.all;simp only[RK hw,hf,af2,Option.getD_none];omega
  .cases he
 .exact h
theorem tO.rel{b:Bs}(h:tO b):tO (tR b e E):=by
 unfold tR;split
 .exact h
 .rename_i v g;have h1:=h.nn e v g;have hs:=RK h1.2 (none:Option Int) (f:=b.f);rw[g] at hs;simp only[Option.getD_none,af2] at hs;have i:=h.all;have a:=h.top;have c:∀x u,gG b.f e none x=some u->0<=u/\0<=x/\x<8:=λx u d=>by
   simp only[gG] at d;split at d
   .cases d
   .exact h.nn x u d
  split
  .refine⟨c,λp hp=>?_,by simp only[O0,hs];omega,a⟩;rcases ab9.1 hp with hp|hp
   .exact h.pn p hp
   .rw[ab3.1 hp];exact h1.1
  .exact⟨c,h.pn,by simp only[hs];omega,by simp only;omega⟩
theorem tO.adv{b:Bs}(h:tO b){now:Int}:tO (l9 b now):=by
 unfold l9;split
 .exact h
 .have hs:=DS now b.L;have a:0<=iF (mF now b.L):=yN λp hp=>h.pn p (adB.1 hp).1
  have:=h.all;have:=h.top;exact⟨h.nn,λp hp=>h.pn p (adB.1 hp).1,by simp only;omega,by simp only;omega⟩
end
end
section
open Go.RowKit Go.Lib Go.Shelf
variable{w:aA}{g n d:Nat}{cs:Array aC}{M:Option Nat}{F:Nat->Prop}{B:Option aJ}{tu:Int}
section
def U1(x:Bk):List aC:= [.int .u64 x.sh, .int .i64 x.un]
theorem B9:eW U1 2:=⟨λ_=>rfl,λx u hu=>by simp[U1] at hu;rcases hu with rfl|rfl <;> rfl⟩
def KZ(x:Int):aC:= .int .u64 x
def IB(E:Option aJ)(n c:Nat)(bn us:Int)(M:Option Nat)(B:Option aJ)(m d:Nat)(nw tu:Int):Array aC:=#[(E,n,c),bn, .int .u64 us, .map M,(B,m,d),nw,tu]
def Hg{α:Type}(ev:α->aC)(w:aA)(M:Option Nat)(f:Int->Option α):Prop:=(M=none->∀x,f x=none)/\∀r,M=some r->iJ ev w r f
structure gH(F:Nat->Prop)(w:aA)(g:Nat)(E:Option aJ)(n c:Nat)(s:Bs)(M:Option Nat)(B:Option aJ)(d:Nat)(nw tu:Int):Prop where
 b:bF w g 186 (IB E n c s.bn s.us M B s.L.length d nw tu)
 oB:bH U1 2 w (g+1) 331 B d s.L
 mp:Hg KZ w M s.f
 fl:Ol F w
 fg:¬F g
 fB:∀q,aY B=some q->¬F q
 fM:∀r,M=some r->¬F r
theorem zL{α:Type}{ev:α->aC}{f:Int->Option α}{b:Nat}{t:aN}(h:iJ ev w b f)(hb:bF w g t cs):b≠g:=λe=>by
 subst e;obtain⟨es,c,h1,_⟩:=h;unfold bF at hb;rw[h1] at hb;cases hb
section
variable{F:Nat->Prop}{w w':aA}{g n c d:Nat}{E B:Option aJ}{nw tu:Int}{M:Option Nat}{b:Bs}
theorem gH.keep(h:gH F w g E n c b M B d nw tu)(hb:aD w w w'):gH F w' g E n c b M B d nw tu:=⟨h.b.keep hb,h.oB.keep hb,⟨h.mp.1,λr a=>(h.mp.2 r a).keep hb⟩,h.fl.kp (h.fl.below hb),h.fg,h.fB,h.fM⟩
theorem gH.cells(h:gH F w g E n c b M B d nw tu){bn' us' nw' tu':Int}(a:w.grownBy w' (some g))(hb:bF w' g 186 (IB E n c bn' us' M B b.L.length d nw' tu')):gH F w' g E n c {b with bn:=bn',us:=us'} M B d nw' tu'/\Kp F w w':=by
 have k:=h.fl.self h.fg a;exact⟨⟨hb,h.oB.kept a (tL h.oB),⟨h.mp.1,λr e=>(h.mp.2 r e).r8 a (zL (h.mp.2 r e) h.b)⟩,h.fl.kp k,h.fg,h.fB,h.fM⟩,k⟩
theorem gH.VL(h:gH F w g E n c b M B d nw tu)(v:Int):gH F (w.setCell (g,2) (.int .u64 v)) g E n c {b with us:=v} M B d nw tu/\Kp F w (w.setCell (g,2) (.int .u64 v)):=
 h.cells (bn':=b.bn) (bC (bL w g) 2 _) (by have:=h.b.cB 2 (.int .u64 v);simpa[IB] using this)
theorem gH.Xd(h:gH F w g E n c b M B d nw tu)(v:Int):gH F (w.setCell (g,1) v) g E n c {b with bn:=v} M B d nw tu/\Kp F w (w.setCell (g,1) v):=
 h.cells (us':=b.us) (bC (bL w g) 1 _) (by have:=h.b.cB 1 v;simpa[IB] using this)
theorem gH.Th(h:gH F w g E n c b M B d nw tu){r:Nat}{f:Int->Option Int}(hm:iJ KZ w r f)(hF:¬F r):gH F (w.setCell (g,3) (.map (some r))) g E n c {b with f:=f} (some r) B d nw tu/\Kp F w (w.setCell (g,3) (.map (some r))):=by
 have a:=bC (bL w g) 3 (.map (some r));have k:=h.fl.self h.fg a;refine⟨⟨by have:=h.b.cB 3 (.map (some r));simpa[IB] using this,h.oB.kept a (tL h.oB),⟨λh=>(by cases h),λq hq=>?_⟩,h.fl.kp k,h.fg,h.fB,λq hq=>?_⟩,k⟩
 .injection hq with hq;subst hq;exact hm.r8 a (zL hm h.b)
 .injection hq with hq;subst hq;exact hF
theorem gH.map{r:Nat}{f:Int->Option Int}(h:gH F w g E n c b (some r) B d nw tu)(hm:iJ KZ w' r f)(a:w.grownBy w' (some r)):gH F w' g E n c {b with f:=f} (some r) B d nw tu/\Kp F w w':=by
 have k:=h.fl.self (h.fM r rfl) a;have i:=zL (h.mp.2 r rfl) h.b;refine⟨⟨h.b.grown a (λe=>i (by injection e with e;exact e.symm)),h.oB.kept a ?_,⟨λh=>(by cases h),λq hq=>?_⟩,h.fl.kp k,h.fg,h.fB,h.fM⟩,k⟩
 .cases hb:aY B with
  |none=>exact .inl rfl
  |some q=>
   right
   intro e;obtain⟨cs,h1⟩:=qP h.oB q hb;injection e with e;exact zL (h.mp.2 r rfl) h1 e.symm
 .injection hq with hq;subst hq;exact hm
end
theorem Sy(r:Nat)(w:aA):(binOp BinOp.eql 181 (.map (some r)) (.map none)).run prog w= .ok (.bool false) w:=aV
theorem Mu(w:aA):(binOp BinOp.eql 181 (.map none) (.map none)).run prog w= .ok (.bool true) w:=aV
theorem I9:∀w,(zeroValue 75).run prog w= .ok (.int .u64 0) w:=λw=>by kernel_rfl
theorem Z2{f:Int->Option Int}(h:Hg KZ w M f)(a:Int):∃v:aC,(Instr.lookup 181 (.map M) (.int .i64 a) true).run prog w= .ok (.tuple #[v, .bool (f a).isSome]) w:=by
 cases M with
 |none=>rw[h.1 rfl a];exact⟨_,TB underlying181 underlying3 (I9 w) a true⟩
 |some r=>exact⟨_,wY underlying181 underlying3 (I9 w) (h.2 r rfl) a true⟩
theorem RM{c:Nat}{E:Option aJ}{nw:Int}{b:Bs}(h:gH F w g E n c b M B d nw tu)(a:Int):
 aG prog 135 #[.pointer (some ⟨g,1,none⟩),a] w λe w'=>e= .returned (.bool (b.f a).isSome)/\w=w':=by
 have c3:=h.b.cell 3 (.map M) rfl;obtain⟨v,hl⟩:=Z2 h.mp a;clear h;generalize (b.f a).isSome=ok at *;go_enter func135,ntmps135
 go_wp2_with fail
 go_ret
 exact⟨rfl,rfl⟩
theorem Cw(bu pe:Int)(w:aA)(v:n9 bu pe=true):aG prog 136 #[.agg #[bu,pe]] w λe w'=>e= .returned (.int .u64 (jC bu pe))/\aD w w w':=by
 have x:=BD v;have y:aH (jC bu pe=(4294967296 *bu+pe - 1) /pe):=rfl;have k:=aP (λW=>DU bu pe W);rw[v] at k;have j:=aX w (aI #[bu,pe] 112);have m:=bF.new w 112 #[bu,pe];go_enter func136,ntmps136
 go_upto_region 1 with(fail)
 generalize w.alloc (aI #[bu,pe] 112)=w1 at *;generalize hq:w.heap.size=q at m⊢;have p:=m.cell 0 bu rfl;have r:=m.cell 1 pe rfl;go_wp2_with fail
 refine aS (k.o _) ?_;rintro e z ⟨rfl,a⟩;replace p:=bK a p;replace r:=bK a r;have A:(0:Int)<=pe:=aQ;have z0:IntKind.u64.wrap bu=bu:=by rw[IntKind.wrap_u64];omega
 have C:IntKind.u64.wrap pe=pe:=by rw[IntKind.wrap_u64];omega
 go_upto_region 3 with(fail)
 (have f:=cC.cell p;have h:=cC.cell r;refine dH aV aV ?_;(repeat (go_big_quiet_step (fail)));refine wpQuiet_nil ?_;clear f h;intro w5 i;have t:=cC.below i;clear i)
 have p0:¬pe=0:=aQ;have z2:IntKind.u64.wrap (4294967296 *bu)=4294967296 *bu:=by rw[IntKind.wrap_u64];omega
 have z3:IntKind.u64.wrap (4294967296 *bu+pe)=4294967296 *bu+pe:=by rw[IntKind.wrap_u64];omega
 have z4:IntKind.u64.wrap (4294967296 *bu+pe - 1)=4294967296 *bu+pe - 1:=by rw[IntKind.wrap_u64];omega
 have hb:=EA x;have z5:Int.tdiv (4294967296 *bu+pe - 1) pe=jC bu pe:=by rw[y.o];exact Int.tdiv_eq_ediv_of_nonneg aQ
 have D:IntKind.u64.wrap (jC bu pe)=jC bu pe:=by rw[IntKind.wrap_u64];omega
 generalize l:jC bu pe=s at *;have u:=aP l;clear l;go_wp2_with fail
 go_ret
 exact⟨by simp;exact u.o.symm,(j.trans (Below.mono a j.size)).trans (Below.mono t (abX j.size a.size))⟩
theorem Y2{c:Nat}{E:Option aJ}{nw:Int}{b:Bs}(h:gH F w g E n c b M B d nw tu)(hb:tO b)(a bu pe:Int):
 aG prog 96 #[.pointer (some ⟨g,1,none⟩),a, .agg #[bu,pe]] w λe w'=>e= .returned (.int .i64 (nV b a bu pe))/\(∃M,gH F w' g E n c (sE b a bu pe) M B d nw tu)/\Kp F w w':=by
 have p:=aP (λW=>DU bu pe W);have A:=aX w (aI #[bu,pe] 112);have t:=bF.new w 112 #[bu,pe];have m1:=h.keep A;have T:=h.fl.below A;by_cases u:n9 bu pe=true
 .have hR:=BD u;have hs:=EA hR;have hu:=hb.us0;have ht:=hb.top;have J:=aP (λW=>Cw bu pe W u);rw[u] at p;have x:aH (nV b a bu pe=if(b.f a).isSome then 7 else if 4294967296<b.us+jC bu pe then 24 else 0):=by unfold aH nV;rw[abS u]
  have C:aH (sE b a bu pe=if nV b a bu pe=0 then {b with f:=gG b.f a (some (jC bu pe)),us:=b.us+jC bu pe} else b):=rfl;generalize sE b a bu pe=b' at *;generalize nV b a bu pe=I at *;clear h u hb;generalize jC bu pe=s at *;go_enter func96,ntmps96
  go_upto_region 3 with(fail)
  generalize w.alloc (aI #[bu,pe] 112)=w1 at *;generalize hq:w.heap.size=q at t⊢;have U:=t.cell 0 bu rfl;have V:=t.cell 1 pe rfl;clear t;have y:=bO m1 T;clear m1 T A;go_wp2_with fail
  refine aS (p.o _) ?_;rintro e w2 ⟨rfl,j⟩;replace U:=bK j U;replace V:=bK j V;have m2:=y.o.1.keep j;have k:=bO m2 (y.o.2.trans (y.o.1.fl.below j));have z:=aP (RM m2 a);clear m2 j y;go_wp2_with fail
  refine aR z ?_;rintro e w3 ⟨rfl,rfl⟩;cases hf:b.f a with
  |some v=>
   rw[hf] at x;have he:aH (I=7):=by show I=7;have:=x.o;simpa using this
   clear x;simp only[adQ];go_wp2_with fail
   go_ret
   refine⟨by rw[he.o];rfl,?_,k.o.2⟩;rw[C.o,he.o,abT aQ];exact⟨_,k.o.1⟩
  |none=>
   rw[hf] at x;simp only[adR];clear hf z;go_wp2_with fail
   refine aS (J.o _) ?_;rintro e m ⟨rfl,D⟩;have m4:=k.o.1.keep D;have i:=bO m4 (k.o.2.trans (k.o.1.fl.below D));have c2:=m4.b.cell 2 (.int .u64 b.us) rfl;clear m4 D k U V p J;have z1:IntKind.u64.wrap (b.us+s)=b.us+s:=by rw[IntKind.wrap_u64];omega
   by_cases G:4294967296<b.us+s
   .have he:aH (I=24):=by have:=x.o;rw[abT aT,abS G] at this;exact this
    clear x;go_wp2_with fail
    go_ret
    refine⟨by rw[he.o];rfl,?_,i.o.2⟩;rw[C.o,he.o,abT aQ];exact⟨_,i.o.1⟩
   .have he:aH (I=0):=by have:=x.o;rw[abT aT,abT G] at this;exact this
    clear x;have c3:=i.o.1.b.cell 3 (.map M) rfl;obtain⟨K,H⟩:∃K,K=b.us:=⟨_,rfl⟩
    rw[<-H] at c2 z1 G hu ht;have HU:=aP H;clear H;have L:=λr=>Sy r m
    rcases M with _|r;have X:= @run_makeMap prog;have Y:=Mu m;have m5:=i.o.1.keep (aX m (Obj.map #[] 0));have c5:=m5.b.cell 3 (.map none) rfl;have f5:=m5.b.frozen 3;go_upto_region 12 with(fail)
    obtain⟨m6,k6⟩:=m5.Th (iJ.new m KZ) (λhF=>by have:=i.o.1.fl _ hF;omega);have N:b.f=λ_=>none:=funext (i.o.1.mp.1 rfl)
    have m7:gH F ((m.alloc (Obj.map #[] 0)).setCell (g,3) (.map (some m.heap.size))) g E n c b (some m.heap.size) B d nw tu:=by
     have:=m6;rw[<-N] at this;exact this
    have l:=aP (And.intro m7 (i.o.2.trans ((i.o.1.fl.below (aX m _)).trans k6)));clear m5 c5 f5 m6 k6 m7 N i X Y L c2 c3;generalize (m.alloc (Obj.map #[] 0)).setCell (g,3) (.map (some m.heap.size))=w6 at *;generalize m.heap.size=r at *;rotate_left
    all_goals try go_upto_region 12 with(fail)
    clear L c2 c3;have l:=i;clear i;generalize m=w6 at *
    all_goals
     obtain⟨w7,O,P,Q⟩:=KV underlying181 underlying3 (l.o.1.mp.2 r rfl) a s;have c3:=l.o.1.b.cell 3 (.map (some r)) rfl;obtain⟨m7,k7⟩:=l.o.1.map P Q;obtain⟨m8,k8⟩:=m7.VL (K+s);have c2:=m7.b.cell 2 (.int .u64 b.us) rfl;have f2:=m7.b.frozen 2;rw[<-HU.o] at c2;have R:=bO m8 ((l.o.2.trans k7).trans k8);clear m7 k7 m8 k8 P Q l;simp only[KZ] at O;go_wp2_with fail
     have Z:aH (Ending.returned (.int .i64 0)=Ending.returned (.int .i64 I)/\(∃M,gH F (w7.setCell (g,2) (.int .u64 (K+s))) g E n c b' M B d nw tu)/\Kp F w (w7.setCell (g,2) (.int .u64 (K+s)))):=by
      refine⟨by rw[he.o],?_,R.o.2⟩;rw[C.o,he.o,abS rfl,<-HU.o];exact⟨_,R.o.1⟩
     exact bodyPost_ret (v:= .int .i64 0) (by simp[results,results96,go_sem]) rfl Z.o
 .have S:n9 bu pe=false:=by simpa using u
  have he:aH (nV b a bu pe=1):=by unfold aH nV;rw[abT u]
  have hB:aH (sE b a bu pe=b):=by unfold aH sE;rw[he.o,abT aQ]
  rw[S] at p;have y:=bO m1 T;clear h hb u S m1 T;generalize sE b a bu pe=b' at *;generalize nV b a bu pe=I at *;go_enter func96,ntmps96
  go_upto_region 3 with(fail)
  generalize w.alloc (aI #[bu,pe] 112)=w1 at *;generalize hq:w.heap.size=q at t⊢;have U:=t.cell 0 bu rfl;have V:=t.cell 1 pe rfl;clear t;go_wp2_with fail
  refine aS (p.o _) ?_;rintro e w2 ⟨rfl,j⟩;go_wp2_with fail
  go_ret
  exact⟨by rw[he.o];rfl,by rw[hB.o];exact⟨_,y.o.1.keep j⟩,y.o.2.trans (y.o.1.fl.below j)⟩
end
variable{A6:Option aJ}{m:Nat}
section
theorem Rp:jR prog 182 331 2 16:=fX (z:= .agg #[bD,aU]) underlying182 aV (by simp[Value.cells]) aQ
section
variable{F:Nat->Prop}{w w' w5:aA}{g n c d:Nat}{E B:Option aJ}{nw tu:Int}{M:Option Nat}{b:Bs}
theorem gH.mpK(h:gH F w g E n c b M B d nw tu)(a:w.grownBy w' (aY B)):Hg KZ w' M b.f:=⟨h.mp.1,λr i=>by
 cases hb:aY B with
 |none=>rw[hb] at a;exact(h.mp.2 r i).same (a.block r (h.mp.2 r i).lt aT)
 |some q=>
  rw[hb] at a;refine(h.mp.2 r i).r8 a (λe=>?_);obtain⟨cs,h1⟩:=qP h.oB q hb;exact zL (h.mp.2 r i) h1 e⟩
theorem gH.Zo{c6:Nat}{x:Bk}(h:gH F w g E n c b M B d nw tu)(hm:m=b.L.length)(a:bH U1 2 w5 (g+1) 331 A6 c6 (b.L++ [x]))(j:w.grownBy w5 (aY B))(k:aY A6=aY B\/aY A6=some w.heap.size):
 gH F (w5.setCell (g,4) (.slice A6 (m+1) c6)) g E n c {b with L:=b.L++ [x]} M A6 c6 nw tu/\Kp F w (w5.setCell (g,4) (.slice A6 (m+1) c6)):=by
 have l:Kp F w w5:=Kp.grown j λb hb=>⟨h.fl b hb,λe=>h.fB b e.symm hb⟩
 have o:=h.b.grown j (λe=>by have:=(h.oB.lt g e.symm).1;omega);have f:=bC (bL w5 g) 4 (.slice A6 (m+1) c6);have p:=(h.fl.kp l).self h.fg f;have i:=h.mpK j;refine⟨⟨?_,a.kept f (tL a),⟨i.1,λr s=>(i.2 r s).r8 f (zL (i.2 r s) o)⟩,(h.fl.kp l).kp p,h.fg,λq hq hF=>?_,h.fM⟩,l.trans p⟩
 .have:=o.cB 4 (.slice A6 (m+1) c6);subst hm;simpa[IB] using this
 .rcases k with e|e
  .exact h.fB q (e ▸ hq) hF
  .rw[e] at hq;injection hq with hq;have:=h.fl q hF;omega
theorem gH.Zl{c6:Nat}{R:List Bk}(h:gH F w g E n c b M B d nw tu)(hm:m=R.length)(a:bH U1 2 w (g+1) 331 A6 c6 R)(f:∀q,aY A6=some q->¬F q):
 gH F (w.setCell (g,4) (.slice A6 m c6)) g E n c {b with L:=R} M A6 c6 nw tu/\Kp F w (w.setCell (g,4) (.slice A6 m c6)):=by
 have e:=bC (bL w g) 4 (.slice A6 m c6);have i:=h.fl.self h.fg e;refine⟨⟨?_,a.kept e (tL a),⟨h.mp.1,λr j=>(h.mp.2 r j).r8 e (zL (h.mp.2 r j) h.b)⟩,h.fl.kp i,h.fg,f,h.fM⟩,i⟩;have:=h.b.cB 4 (.slice A6 m c6);subst hm;simpa[IB] using this
end
theorem SM{c:Nat}{E:Option aJ}{nw:Int}{b:Bs}(h:gH F w g E n c b M B d nw tu)(hb:tO b)(a i:Int)(hl:b.L.length<=2000000):
 aG prog 100 #[.pointer (some ⟨g,1,none⟩),a,i] w λe w'=>e= .returned (.int .i64 (DH b a))/\(∃M B d,gH F w' g E n c (tR b a i) M B d nw tu)/\Kp F w w':=by
 have j:=aP (RM h a);cases hf:b.f a with
 |none=>
  have C:aH (DH b a=6/\tR b a i=b):=by unfold aH DH tR;rw[hf];exact⟨rfl,rfl⟩
  rw[hf] at j;have q:=aP h;clear h hb hf;generalize tR b a i=P at *;generalize DH b a=U at *;go_enter func100,ntmps100
  go_wp2_with fail
  refine aR j ?_;rintro e V ⟨rfl,rfl⟩;go_wp2_with fail
  go_ret
  exact⟨by rw[C.o.1];rfl,by rw[C.o.2];exact⟨_,_,_,q.o⟩,Kp.refl _ _⟩
 |some s=>
  have C:aH (DH b a=0):=by unfold aH DH;rw[hf];rfl
  have t:aH (tR b a i=if b.bn<i then {b with f:=gG b.f a none,L:=b.L++ [⟨s,i⟩]} else {b with f:=gG b.f a none,us:=b.us - s}):=by unfold aH tR;rw[hf]
  rw[hf] at j;obtain⟨r,rfl⟩:∃r,M=some r:=by
   cases M with
   |none=>have:=h.mp.1 rfl a;rw[hf] at this;cases this
   |some r=>exact⟨r,rfl⟩
  have hs:=hb.nn a s hf;have R:=Oj hb.nn hf;have S:=yN hb.pn;have D:=hb.all;have G:=hb.top;have l:=wY underlying181 underlying3 (I9 w) (h.mp.2 r rfl) a false;rw[hf] at l;simp only[acP,KZ,af2,acJ,acI] at l;obtain⟨u,H,I,W⟩:∃u,iJ KZ u r (gG b.f a none)/\w.grownBy u (some r)/\aH (∀ty,(Builtin.delete_ #[181,3] ty #[.map (some r),a]).run prog w= .ok (.tuple #[]) u):=by
   obtain⟨u,h1,h2,h3⟩:=BX underlying181 underlying3 (h.mp.2 r rfl) a 0;exact⟨u,h2,h3,λty=>h1⟩
  have X:=W.o;have c3:=h.b.cell 3 (.map (some r)) rfl;obtain⟨m7,Y⟩:=h.map H I;have c1:=m7.b.cell 1 b.bn rfl;have J:b.us - s<=4294967296:=aQ;have K:0<=b.us - s:=aQ;have Z:IntKind.u64.wrap (b.us - s)=b.us - s:=by rw[IntKind.wrap_u64];omega
  have q:=bO m7 Y;clear h hb hf S D G R H I m7 Y W;generalize tR b a i=P at *;generalize DH b a=U at *;by_cases Q:b.bn<i
  .have x:aH (P={b with f:=gG b.f a none,L:=b.L++ [⟨s,i⟩]}):=by have:=t.o;rw[abS Q] at this;exact this
   clear t Z J K;have c4:=q.o.1.b.cell 4 (.slice B b.L.length d) rfl;obtain⟨m,hm⟩:∃m,m=b.L.length:=⟨_,rfl⟩
   try simp only at c4
   rw[<-hm] at c4 hl;have HN:=aP hm;clear hm;obtain⟨bn,p⟩:∃bn,bn=b.bn:=⟨_,rfl⟩
   rw[<-p] at c1 Q;clear p;go_enter func100,ntmps100
   go_wp2_with fail
   refine aR j ?_;rintro e V ⟨rfl,rfl⟩;have m8:=q.o.1.keep (aX u (aI #[.int .u64 s,i] 331));have k:=aP (And.intro m8 (q.o.2.trans (q.o.1.fl.below (aX u (aI #[.int .u64 s,i] 331)))));clear m8;go_wp2_with(at_builtin;refine bQ _ rfl _ _ rfl Rp B9 k.o.1.oB (n:=m) HN.o.symm rfl (m:=1) rfl (ys:= [⟨s,i⟩]) rfl (Sl.new B9 u ⟨s,i⟩ _ rfl _) dN aQ (by have:=k.o.1.b.lt;omega) _ rfl (m+1) rfl ?_;intro A6 c6 w6 y z N;(have T:=(k.o.1.b.grown z (λe=>by have:=(k.o.1.oB.lt g e.symm).1;omega)));(have f6:=T.frozen 4);(have d6:=T.cell 4 _ rfl);(have A:=aP (k.o.1.Zo HN.o y z N));clear T y z N)
   have HR:aH (Ending.returned (.int .i64 0)=Ending.returned (.int .i64 U)/\(∃M B d,gH F (w6.setCell (g,4) (.slice A6 (m+1) c6)) g E n c P M B d nw tu)/\Kp F w (w6.setCell (g,4) (.slice A6 (m+1) c6))):=
    ⟨by rw[C.o],by rw[x.o];exact⟨_,_,_,A.o.1⟩,k.o.2.trans A.o.2⟩
   exact bodyPost_ret (v:= .int .i64 0) (by simp[results,results100,go_sem]) rfl HR.o
  .have x:aH (P={b with f:=gG b.f a none,us:=b.us - s}):=by have:=t.o;rw[abT Q] at this;exact this
   clear t;have c2:=q.o.1.b.cell 2 (.int .u64 b.us) rfl;have f2:=q.o.1.b.frozen 2;have A:=aP (q.o.1.VL (b.us - s));obtain⟨bn,p⟩:∃bn,bn=b.bn:=⟨_,rfl⟩
   rw[<-p] at c1 Q;clear p;obtain⟨us,O⟩:∃us,us=b.us:=⟨_,rfl⟩
   rw[<-O] at c2 Z J K A x;clear O;go_enter func100,ntmps100
   go_wp2_with fail
   refine aR j ?_;rintro e V ⟨rfl,rfl⟩;go_wp2_with fail
   go_ret
   exact⟨by rw[C.o];rfl,by rw[x.o];exact⟨_,_,_,A.o.1⟩,q.o.2.trans A.o.2⟩
end
variable{r:Option Nat}
section
structure Yf(F:Nat->Prop)(H g:Nat)(B:Option aJ)(M:Option Nat):Prop where
 g:g<H
 B:∀q,aY B=some q->q<H
 M:∀r,M=some r->r<H
 F:∀b,F b->b<H
section
variable{F:Nat->Prop}{w w' w5:aA}{g n c d H:Nat}{E B:Option aJ}{nw tu:Int}{M:Option Nat}{b:Bs}
theorem gH.lo(h:gH F w g E n c b M B d nw tu):Yf F w g B M:=⟨h.b.lt,λq hq=>(h.oB.lt q hq).2,λr a=>(h.mp.2 r a).lt,h.fl⟩
theorem gH.beside(h:gH F w g E n c b M B d nw tu)(a:w.grownBy w' r)(l:Yf F H g B M)(f:∀q,r=some q->H<=q):gH F w' g E n c b M B d nw tu/\Kp F w w':=by
 have k:Kp F w w':=Kp.grown a λb hb=>⟨h.fl b hb,λe=>by have:=f b e.symm;have:=l.F b hb;omega⟩
 refine⟨⟨h.b.grown a (λe=>by have:=f g e.symm;have:=l.g;omega),h.oB.kept a ?_,⟨h.mp.1,λq hq=>(h.mp.2 q hq).same (a.block q (h.mp.2 q hq).lt (λe=>by have:=f q e.symm;have:=l.M q hq;omega))⟩,h.fl.kp k,h.fg,h.fB,h.fM⟩,k⟩;cases hb:aY B with
 |none=>exact .inl rfl
 |some q=>right;intro e;have:=f q e.symm;have:=l.B q hb;omega
end
theorem R3(now:Int){l:List Bk}(h:∀p∈l,0<=p.sh)(j:Nat):iF (mF now (l.take j))<=iF l:=by
 have h1:=DS now (l.take j);have e:0<=iF (vP now (l.take j)):=yN λp hp=>h p (ae8 (adB.1 hp).1)
 have f:iF l=iF (l.take j)+iF (l.drop j):=by
  have a:iF (l.take j++l.drop j)=iF (l.take j)+iF (l.drop j):=by simp[iF, -List.take_append_drop]
  rw[List.take_append_drop] at a;exact a
 have i:0<=iF (l.drop j):=yN λp hp=>h p (List.mem_of_mem_drop hp)
 omega
structure YF(F:Nat->Prop)(w wr:aA)(g:Nat)(E:Option aJ)(n c:Nat)(b:Bs)(M:Option Nat)(B:Option aJ)(d:Nat)(nw tu now us:Int)(k:Nat)(A:Option aJ)(c6:Nat)(R:List Bk):Prop where
 m:gH F wr g E n c {b with bn:=now,us:=us} M B d nw tu
 o:bH U1 2 wr w.heap.size 331 A c6 R
 kp:Kp F w wr
 eR:R=vP now (b.L.take k)
 eu:us=b.us - iF (mF now (b.L.take k))
 sz:w.heap.size<=wr.heap.size
theorem R2{c:Nat}{E:Option aJ}{nw:Int}{b:Bs}(h:gH F w g E n c b M B d nw tu)(hb:tO b)(now:Int)(hl:b.L.length<=2000000):
 aG prog 111 #[.pointer (some ⟨g,1,none⟩),now] w λe w'=>(∃v:Int,e= .returned (.int .i64 v))/\(∃M B d,gH F w' g E n c (l9 b now) M B d nw tu)/\Kp F w w':=by
 have c1:=h.b.cell 1 b.bn rfl;have f1:=h.b.frozen 1;obtain⟨bn,T⟩:∃bn,bn=b.bn:=⟨_,rfl⟩
 rw[<-T] at c1;have HBN:=aP T;clear T;by_cases hn:now<bn
 .have U:aH (l9 b now=b):=by unfold aH l9;rw[abS (by rw[<-HBN.o];exact hn)]
  have HM:=aP h;clear h hb;generalize l9 b now=b' at *;go_enter func111,ntmps111
  go_wp2_with fail
  go_ret
  exact⟨⟨0,rfl⟩,by rw[U.o];exact⟨_,_,_,HM.o⟩,Kp.refl _ _⟩
 .have U:aH (l9 b now={b with bn:=now,us:=b.us - iF (mF now b.L),L:=vP now b.L}):=by unfold aH l9;rw[abT (by rw[<-HBN.o];exact hn)]
  obtain⟨m1,k1⟩:=h.Xd now;have G:=aP h.lo;have t:=aP hb;have c4:=m1.b.cell 4 (.slice B b.L.length d) rfl;obtain⟨m,hm⟩:∃m,m=b.L.length:=⟨_,rfl⟩
  rw[<-hm] at c4 hl;have HN:=aP hm;have H1:aH (YF F w (w.setCell (g,1) now) g E n c b M B d nw tu now b.us 0 none 0 []):=⟨m1,bH.nil _ _ _,k1,rfl,by simp[mF,iF],k1.size⟩
  clear h hb m1 k1 hm;generalize l9 b now=b' at *;go_enter func111,ntmps111
  go_upto_region 4 with(fail)
  generalize w.setCell (g,1) now=w1 at *;clear c1 f1;go_wp2_with fail
  go_loopw [5,6,8,28] (λv5 v6 _ v28 wr=>∃(k:Nat) (V us:Int) (A:Option aJ) (c6 r:Nat) (R:List Bk),v5= .int .i64 V/\v6= .slice A r c6/\v28= .int .i64 k/\k<=m/\0<=V/\V<=k/\r<=k/\aH (r=R.length)/\aH (YF F w wr g E n c b M B d nw tu now us k A c6 R)) (λ_ _ _ v28 _=>m - (aL v28).toNat)
  case atStart=>exact⟨0,0,b.us,none,0,0, [],rfl,rfl,rfl,ab0 _,aQ,aQ,abQ _,rfl,H1⟩
  case round=>
   clear H1 c4;obtain⟨k,V,us,A,c6,r,R,rfl,rfl,rfl,hk,hg0,hg1,hrk,I,a⟩:=hrel;by_cases hkm:k<m
   .have f:k<b.L.length:=by rw[<-HN.o];exact hkm
    obtain⟨q,rfl⟩:∃q,B=some ⟨q,0,none⟩:=by
     rcases a.o.m.oB.shape with⟨_,h2,_⟩|h2
     .simp only at h2;rw[h2] at f;simp at f
     .exact h2
    have e0:=bM B9 a.o.m.oB (i:=k) f (j:=0) (v:= .int .u64 b.L[k].sh) rfl;have e1:=bM B9 a.o.m.oB (i:=k) f (j:=1) (v:= .int .i64 b.L[k].un) rfl;rw[acD] at e0;have hy:=t.o.pn _ (abY f);have hle:=R3 now t.o.pn (k+1);have l:=V5 now (b.L.take k) b.L[k];have u:=XW now (b.L.take k) b.L[k];have x:b.L.take (k+1)=b.L.take k++ [b.L[k]]:=by rw[ac3,abO f];rfl
    rw[<-x] at l u;have O:=t.o.all;have hsF:=T0 t.o.nn;have P:=t.o.top;have W:=a.o.eu;have J:=a.o.eR;obtain⟨y,X⟩:∃y,y=b.L[k]:=⟨_,rfl⟩
    rw[<-X] at e0 e1 hy l u;have i0:(0:Int)<=k:=aQ;have i1:(k:Int)<(m:Int):=aQ;have s:=aP (aX wr (aI #[.int .u64 y.sh,y.un] 331));have yb:=bF.new wr 331 #[.int .u64 y.sh,y.un];have m2:=a.o.m.keep s.o;have o2:=a.o.o.keep s.o;have k2:=a.o.kp.trans (a.o.m.fl.below s.o);by_cases hu:y.un<=now
    .have hgs:iF (mF now (b.L.take (k+1)))=iF (mF now (b.L.take k))+y.sh:=by rw[l,abS hu,O0]
     have hge:0<=us - y.sh:=aQ;have hlt:us - y.sh<=4294967296:=by
      have:0<=iF (mF now (b.L.take k)):=yN λp hp=>t.o.pn p (ae8 (adB.1 hp).1)
      omega
     have HA:aH (us - y.sh=b.us - iF (mF now (b.L.take (k+1)))/\R=vP now (b.L.take (k+1))):=⟨aQ,by rw[u,abS hu,aeQ];exact J⟩
     have z1:IntKind.u64.wrap (us - y.sh)=us - y.sh:=by rw[IntKind.wrap_u64];omega
     have c2:=m2.b.cell 2 (.int .u64 us) rfl;have D:=dE m2 o2 k2;have jA:w.heap.size<=(wr.alloc (aI #[.int .u64 y.sh,y.un] 331)).heap.size:=abX a.o.sz s.o.size;have Y:=aP jA;clear hgs l u x O hsF P W J X hle m2 o2 k2 a f jA;go_upto_region 11 with(fail)
     clear e0 e1 s;generalize wr.alloc (aI #[.int .u64 y.sh,y.un] 331)=w3 at *;generalize wr.heap.size=yq at *;have x0:=yb.cell 0 (.int .u64 y.sh) rfl;clear yb;have K:=bE x0;have N:=bE c2;refine bN (bP _) (λ_=>bP) [] (λ_ _ _=>True) [9] [] 57 (bZ _) (λ_ _ _ h hz=>bV h hz) (λ_ d hd _ v w w' _ h hz=>by cases hd) aV aV aZ ?_;repeat refine eK ?_
     refine dG ?_;intro γ w5 z hT;clear K N;simp only[cE,Act.put,abP,abV,abU];refine dS ?_;have m5:=D.o.1.keep z;have o5:=D.o.2.1.keep z;have k5:=D.o.2.2.trans (D.o.1.fl.below z);refine dY w5 rfl 75 _ _ rfl g 2 (.int .u64 (us - y.sh)) rfl rfl aV rfl (m5.b.one (by simp[IB])) ?_;refine cY ?_;try simp only[Act.put]
     obtain⟨m6,k6⟩:=m5.VL (us - y.sh);have o6:=o5.kept (bC (bL w5 g) 2 (.int .u64 (us - y.sh))) (o5.ne (p:=⟨g,2,none⟩) (B:=w.heap.size) G.o.g (abQ _));have HF:aH (YF F w (w5.setCell (g,2) (.int .u64 (us - y.sh))) g E n c b M (some ⟨q,0,none⟩) d nw tu now (us - y.sh) (k+1) A c6 R):=⟨m6,o6,k5.trans k6,HA.o.2,HA.o.1,abX Y.o (abX z.size k6.size)⟩
     clear m5 o5 k5 m6 k6 o6 hT z c2 x0;go_wp2_with fail
     go_roundw
     case rel=>exact⟨k+1,V+1,us - y.sh,A,c6,r,R,by go_num,rfl,by go_num,aQ,aQ,aQ,aQ,I,HF⟩
     case measure=>simp[aL];omega
    .have HA:aH (us=b.us - iF (mF now (b.L.take (k+1)))/\R++ [y]=vP now (b.L.take (k+1))):=⟨by rw[l,abT hu,aeQ];exact W,by rw[u,abT hu];rw[J]⟩
     have hus0:0<=us:=by
      have:iF (mF now (b.L.take (k+1)))=iF (mF now (b.L.take k)):=by rw[l,abT hu,aeQ]
      omega
     have Y:aH (w.heap.size<=(wr.alloc (aI #[.int .u64 y.sh,y.un] 331)).heap.size):=abX a.o.sz s.o.size;have D:=dE m2 o2 k2;clear l u x O hsF P W J X hle m2 o2 k2 a f hus0;go_upto_region 12 with(fail)
     clear e0 e1 s;generalize wr.alloc (aI #[.int .u64 y.sh,y.un] 331)=w3 at *;generalize wr.heap.size=yq at *;have x0:=yb.cell 0 (.int .u64 y.sh) rfl;have x1:=yb.cell 1 y.un rfl;clear yb;have C:=aX w3 (aI #[.int .u64 y.sh,y.un] 331);have H4:=dE (D.o.1.keep C) (D.o.2.1.keep C) (D.o.2.2.trans (D.o.1.fl.below C));have Q:aH (w.heap.size<=(w3.alloc (aI #[.int .u64 y.sh,y.un] 331)).heap.size):=abX Y.o C.size;clear C;go_wp2_with(at_builtin;refine bQ _ rfl _ _ rfl Rp B9 H4.o.2.1 (n:=r) I.o.symm rfl (m:=1) rfl (ys:= [y]) rfl (Sl.new B9 w3 y _ rfl _) dN aQ Q.o _ rfl (r+1) rfl ?_;intro A6 c7 w6 S Z at6;(have a1:=H4.o.1.beside Z G.o (λq hq=>(H4.o.2.1.lt q hq).1));(have HF:aH (YF F w w6 g E n c b M (some ⟨q,0,none⟩) d nw tu now us (k+1) A6 c7 (R++ [y])):=⟨a1.1,S,H4.o.2.2.trans a1.2,HA.o.2,HA.o.1,abX Q.o Z.size⟩);clear S Z at6 a1 H4 D)
     go_roundw
     case rel=>exact⟨k+1,V,us,A6,c7,r+1,R++ [y],rfl,rfl,by go_num,aQ,aQ,aQ,aQ,by show r+1=(R++ [y]).length;rw[ab6,<-I.o];rfl,HF⟩
     case measure=>simp[aL];omega
   .obtain rfl:k=m:=aQ;have i1:¬(k:Int)<(k:Int):=aQ;have x:b.L.take k=b.L:=acC (by rw[<-HN.o];exact abQ _);have f4:=a.o.m.b.frozen 4;have c4:=a.o.m.b.cell 4 (.slice B b.L.length d) rfl;have HF:=aP (a.o.m.Zl (A6:=A) (c6:=c6) I.o (a.o.o.from_ (by have:=G.o.g;omega)) (λq hq hF=>by have:=(a.o.o.lt q hq).1;have:=G.o.F q hF;omega));have HB3:aH (b'={b with bn:=now,us:=us,L:=R}):=by unfold aH;rw[U.o,a.o.eu,a.o.eR,x]
    have HK:=aP (a.o.kp.trans HF.o.2);clear a x;go_wp2_with fail
    go_ret
    exact⟨⟨V,rfl⟩,by rw[HB3.o];exact⟨_,_,_,HF.o.1⟩,HK.o⟩
end
end
variable{T T':Int}
section
section
structure rZ(T:Int)(s:Sv):Prop where
 b:QK s
 rp:∀r∈s.rf,1<=r.am/\r.at_<=T+s.pe
 cd:∀x∈s.ch,x.de<=T+s.pe
 ro:s.rf.Pairwise λx y=>x.at_<=y.at_
 nw:0<=s.nw/\s.nw<=T
 cg:0<=s.cg/\s.cg<=T
theorem rZ.mono{s:Sv}(h:rZ T s)(d:T<=T'):rZ T' s:=
 ⟨h.b,λr a=>⟨(h.rp r a).1,by have:=(h.rp r a).2;omega⟩,λx c=>by have:=h.cd x c;omega,h.ro,⟨h.nw.1,by have:=h.nw.2;omega⟩,⟨h.cg.1,by have:=h.cg.2;omega⟩⟩
def wQ(bu pe:Int):Sv:=⟨bu,pe,0,bu, [], [],0⟩
theorem rZ.new(h:1<=bu/\bu<=pe/\pe<=1048576)(a:0<=T):rZ T (wQ bu pe):=by
 refine⟨⟨?_,?_,?_,?_,h,?_,?_⟩,?_,?_,?_,⟨?_,a⟩,⟨?_,a⟩⟩ <;> simp[wQ,sK,pH]
 omega
theorem Kb{l:List Ck}(h:∀x∈l,1<=x.lf/\0<=x.us):(l.length:Int)<=sK l:=by
 induction l with
 |nil=>simp[sK]
 |cons r l a=>
  have:=h r aT;have:=a λr b=>h r (by simp[b])
  rw[oP];simp only[acR];omega
theorem Gr{l:List Rl}(h:∀r∈l,1<=r.am):(l.length:Int)<=pH l:=by
 induction l with
 |nil=>simp[pH]
 |cons r l a=>
  have:=h r aT;have:=a λr b=>h r (by simp[b])
  rw[BH];simp only[acR];omega
theorem rZ.len{s:Sv}(h:rZ T s):s.rf.length+s.ch.length<=1048576:=by
 have h1:=Kb h.b.ch;have c:=Gr λr a=>(h.rp r a).1
 have:=h.b.all;have:=h.b.bu;have:=h.b.av;omega
theorem B0(now:Int):∀(l:List Rl) (av:Int),(rI now av l).2<:+l
 | [],_=>List.suffix_refl _
 |r::l,av=>by
  unfold rI;split
  .exact(B0 now l _).trans (List.suffix_cons r l)
  .exact List.suffix_refl _
def BN(s:Sv):Bool:=!s.rf.isEmpty || s.ch.any λx=>decide (0<x.us)
theorem uK{s:Sv}(h:BN s=false):s.rf= []/\∀x∈s.ch,¬0<x.us:=by
 unfold BN at h;rw[Bool.or_eq_false_iff] at h;refine⟨by simpa using h.1,λx a hu=>?_⟩;have:=List.any_eq_false.1 h.2 x a;simp[hu] at this
theorem AB{s:Sv}(h:s.rf= [])(a:∀x∈s.ch,¬0<x.us):BN s=false:=by
 unfold BN;rw[h,Bool.or_eq_false_iff];exact⟨rfl,List.any_eq_false.2 λx b=>by simp;have:=a x b;omega⟩
theorem JD{T:Int}(bu pe:Int):∀(l:List Ck) (s:Sv),0<=s.av->(∀x∈l,1<=x.lf/\0<=x.us/\x.de<=T+pe)->(∀r∈s.rf,1<=r.am/\r.at_<=T+pe)->s.rf.Pairwise (λx y=>x.at_<=y.at_)->l.Pairwise (λx y=>x.de<=y.de)->(∀r∈s.rf,∀x∈l,r.at_<=x.de)->s.av+sK l+pH s.rf=bu->
 0<=(l.foldl iH s).av/\(∀r∈(l.foldl iH s).rf,1<=r.am/\r.at_<=T+pe)/\(l.foldl iH s).rf.Pairwise (λx y=>x.at_<=y.at_)/\(l.foldl iH s).av+pH (l.foldl iH s).rf=bu/\(l.foldl iH s).bu=s.bu/\(l.foldl iH s).pe=s.pe/\(l.foldl iH s).nw=s.nw/\(l.foldl iH s).cg=s.cg/\((s.rf= []/\∀x∈l,¬0<x.us)->(l.foldl iH s).rf= [])
 | [],s,h1,_,f,g,_,_,i=>⟨h1,f,g,by simpa[sK] using i,rfl,rfl,rfl,rfl,λh=>h.1⟩
 |x::l,s,h1,h2,f,g,h5,j,i=>by
  have q:=h2 x aT;rw[oP] at i;have e:=ae2.1 h5;rw[aeB];by_cases hu:x.us=0
  .have k:iH s x={s with av:=s.av+x.lf}:=by unfold iH nC;rw[abS hu]
   rw[k];obtain⟨m,a2,a3,a4,a5,n,o,p,a9⟩:=JD bu pe l {s with av:=s.av+x.lf} (by simp only;omega) (λy d=>h2 y (by simp[d])) f g e.2 (λr c y d=>j r c y (by simp[d])) (by simp only;omega);exact⟨m,a2,a3,a4,a5,n,o,p,λh=>a9 ⟨h.1,λy d=>h.2 y (by simp[d])⟩⟩
  .have k:iH s x={s with av:=s.av+x.lf,rf:=s.rf++ [⟨x.de,x.us⟩]}:=by unfold iH nC;rw[abT hu]
   rw[k];obtain⟨m,a2,a3,a4,a5,n,o,p,a9⟩:=JD (T:=T) bu pe l {s with av:=s.av+x.lf,rf:=s.rf++ [⟨x.de,x.us⟩]} (by simp only;omega) (λy d=>h2 y (by simp[d])) (λr c=>by
    rcases ab9.1 c with c|c
    .exact f r c
    .rw[ab3.1 c];exact⟨by simp only;omega,q.2.2⟩) (aeI.2 ⟨g,aeJ _ _,λa ha b hb=>by rw[ab3.1 hb];exact j a ha x aT⟩) e.2 (λr c y d=>by
    rcases ab9.1 c with c|c
    .exact j r c y (by simp[d])
    .rw[ab3.1 c];exact e.1 y d) (by simp only;rw[E9];simp only;omega)
   exact⟨m,a2,a3,a4,a5,n,o,p,λh=>absurd (show 0<x.us by omega) (h.2 x aT)⟩
theorem rZ.pop{s:Sv}(h:rZ T s)(c:0<=T):rZ T (uU T s):=by
 have hs:=B0 T s.rf s.av;have hm:∀r∈(rI T s.av s.rf).2,r∈s.rf:=λr a=>hs.subset a
 exact⟨h.b.pop T,λr a=>h.rp r (hm r a),h.cd,h.ro.sublist hs.sublist,⟨c,adO _⟩,h.cg⟩
theorem rZ.begin{s:Sv}(h:rZ T s)(n:0<=T)(rd:Bool):rZ T (kC s T rd)/\(kC s T rd).nw=T/\(BN s=false->BN (kC s T rd)=false)/\(kC s T rd).bu=s.bu/\(kC s T rd).pe=s.pe:=by
 have hp:=h.pop n;have f:=B0 T s.rf s.av;have hu:BN s=false->(uU T s).rf= []:=λhu=>by
  have h1:=(uK hu).1;have k:(uU T s).rf<:+s.rf:=f;rw[h1] at k;exact List.suffix_nil.1 k
 have i:=hp.b.av;have g:=hp.b.all;unfold kC;cases rd with
 |false=>
  simp only[acJ,acI];obtain⟨o,a2,a3,a4,a5,j,l,p,a9⟩:=JD (T:=T) s.bu s.pe s.ch (uU T s) i (λx c=>⟨(hp.b.ch x c).1,(hp.b.ch x c).2,hp.cd x c⟩) hp.rp hp.ro hp.b.ord hp.b.CJ g;refine⟨⟨⟨o,aT,λr e=>by have:=(a2 r e).1;omega,by simp only[sK,List.map_nil,List.sum_nil,Int.add_zero];rw[a4,a5];rfl,by simp only;rw[a5,j];exact hp.b.bu,aT,aT⟩,λr e=>by simp only;rw[j];exact a2 r e,aT,a3,by simp only;rw[l];exact hp.nw,by simp only;rw[p];exact hp.cg⟩,l,λd=>AB (a9 ⟨hu d,λx c=>(uK d).2 x c⟩) aT,a5,j⟩
 |true=>
  simp only[ac2];split
  .rename_i m;refine⟨⟨⟨?_,?_,hp.b.rf,?_,hp.b.bu,?_,?_⟩,hp.rp,?_,hp.ro,hp.nw,hp.cg⟩,rfl,λd=>AB (hu d) λx c=>?_,rfl,rfl⟩
   .simp
   .intro x c;rcases ab9.1 c with c|c
    .exact hp.b.ch x c
    .rw[ab3.1 c];exact⟨by simp only;omega,aT⟩
   .simp only[Bh];omega
   .refine aeI.2 ⟨hp.b.ord,aeJ _ _,λa ha b hb=>?_⟩;rw[ab3.1 hb];exact hp.cd a ha
   .intro r e x c;rcases ab9.1 c with c|c
    .exact hp.b.CJ r e x c
    .rw[ab3.1 c];exact(hp.rp r e).2
   .intro x c;rcases ab9.1 c with c|c
    .exact hp.cd x c
    .rw[ab3.1 c];exact adO _
   .rcases ab9.1 c with c|c
    .exact(uK d).2 x c
    .rw[ab3.1 c];simp
  .exact⟨hp,rfl,λd=>AB (hu d) (uK d).2,rfl,rfl⟩
theorem rZ.run{T:Int}{s:Sv}(h:rZ T s){x:Ck}{xs:List Ck}(hs:s.ch=x::xs):rZ (T+1) (DF s)/\(DF s).bu=s.bu/\(DF s).pe=s.pe:=by
 have m:=h.b.ch x (by rw[hs];simp);have g:=h.b.bu;have k:=h.cd x (by rw[hs];simp);have i:=h.b.all;rw[hs,oP] at i;have f:=h.b.ord;rw[hs] at f;have e:=ae2.1 f;have hm:∀y∈xs,y∈s.ch:=λy c=>by rw[hs];simp[c]
 have n:=h.nw;have hc:=h.cg;unfold DF;rw[hs];simp only;split
 .rename_i l;have j:¬(x.us+1=0):=aQ;unfold nC;simp only[abT j];refine⟨⟨⟨h.b.av,λy c=>h.b.ch y (hm y c),λr d=>?_,?_,g,e.2,λr d y c=>?_⟩,λr d=>?_,λy c=>by have:=h.cd y (hm y c);simp only;omega,aeI.2 ⟨h.ro,aeJ _ _,λa ha b hb=>?_⟩,by simp only;omega,by simp only;omega⟩,by first|exact⟨rfl,rfl⟩|trivial⟩
  .rcases ab9.1 d with d|d
   .exact h.b.rf r d
   .rw[ab3.1 d];simp only;omega
  .simp only[E9];omega
  .rcases ab9.1 d with d|d
   .exact h.b.CJ r d y (hm y c)
   .rw[ab3.1 d];exact e.1 y c
  .rcases ab9.1 d with d|d
   .have:=h.rp r d;simp only;omega
   .rw[ab3.1 d];simp only;omega
  .rw[ab3.1 hb];exact h.b.CJ a ha x (by rw[hs];simp)
 .rename_i l;refine⟨⟨⟨h.b.av,λy c=>?_,h.b.rf,?_,g,?_,λr d y c=>?_⟩,λr d=>by have:=h.rp r d;simp only;omega,λy c=>?_,h.ro,by simp only;omega,by simp only;omega⟩,by first|exact⟨rfl,rfl⟩|trivial⟩
  .rcases ad3.1 c with rfl|c
   .simp only;omega
   .exact h.b.ch y (hm y c)
  .simp only[oP];omega
  .exact ae2.2 ⟨λy c=>e.1 y c,e.2⟩
  .rcases ad3.1 c with rfl|c
   .exact h.b.CJ r d x (by rw[hs];simp)
   .exact h.b.CJ r d y (hm y c)
  .rcases ad3.1 c with rfl|c
   .simp only;omega
   .have:=h.cd y (hm y c);simp only;omega
def yJ(l:List Rl):Int:=l.foldl (λa r=>max a r.at_) 0
def yG(a:Int)(l:List Ck):Int:=l.foldl (λa x=>if 0<x.us then max a x.de else a) a
def tG(s:Sv):Int:=yG (yJ s.rf) s.ch
theorem LB{a:Int}:∀{l:List Ck},(∀x∈l,¬0<x.us)->yG a l=a
 | [],_=>rfl
 |x::l,h=>by
  have:=LB (a:=a) (l:=l) (λy b=>h y (by simp[b]));unfold yG at *;rw[aeB,abT (h x aT)];exact this
theorem LR{s:Sv}(h:BN s=false):tG s=0:=by
 unfold tG;rw[LB (uK h).2,(uK h).1];rfl
theorem VR(l:List Rl)(r:Rl):yJ (l++ [r])=max (yJ l) r.at_:=by simp[yJ]
theorem V8(a:Int)(l:List Ck)(x:Ck):yG a (l++ [x])=if 0<x.us then max (yG a l) x.de else yG a l:=by simp[yG]
end
end
section
open Go.RowKit Go.Lib Go.Shelf
variable{F:Nat->Prop}{w:aA}{g:Nat}
section
theorem Y3{s:Sv}(h:sU F w g s)(hl:s.rf.length+s.ch.length<=2000000):
 aG prog 99 #[.pointer g] w λe w'=>e= .returned (.int .i64 (tG s))/\aD w w w':=by
 obtain⟨A,c,B,d,h⟩:=h;have c4:=h.b.cell 4 (.slice A s.ch.length c) rfl;have c5:=h.b.cell 5 (.slice B s.rf.length d) rfl;have I:=aP h;obtain⟨n,D⟩:∃n,n=s.rf.length:=⟨_,rfl⟩
 obtain⟨m,hm⟩:∃m,m=s.ch.length:=⟨_,rfl⟩
 rw[<-D] at c5 hl;rw[<-hm] at c4 hl;have C:=bO D hm;clear h D hm;go_enter func99,ntmps99
 go_wp2_with fail
 go_loopw [3,16] (λv3 r wr=>∃(k:Nat) (x:Int),r= .int .i64 k/\v3= .int .i64 x/\k<=n/\aH (x=yJ (s.rf.take k))/\aD w w wr) (λ_ r _=>n - (aL r).toNat)
 case atStart=>exact⟨0,0,rfl,rfl,ab0 _,rfl,Below.refl _ _⟩
 case round=>
  obtain⟨k,x,rfl,rfl,hk,t,a⟩:=hrel;by_cases J:k<n
  .have u:k<s.rf.length:=by have:=C.o.1;omega
   obtain⟨b,off,rfl,Q,R⟩:=((I.o.oB.sl pQ).keep a).Lw u;have S:(0:Int)<=k:=aQ;have K:(k:Int)<(n:Int):=aQ;have i:s.rf.take (k+1)=s.rf.take k++ [s.rf[k]]:=by rw[ac3,abO u];rfl
   have l:aH (yJ (s.rf.take (k+1))=max x s.rf[k].at_):=by unfold aH;rw[i,VR,<-t.o]
   clear i;generalize s.rf[k]=y at *;have p:=aP (a.alloc a.size (aI #[y.at_,y.am] 327));clear a;by_cases E:x<y.at_
   all_goals
    go_wp2_with fail
    go_roundw
    case rel=>exact⟨k+1,_,by go_num,rfl,aQ,by show _=_;rw[l.o];omega,p.o⟩
    case measure=>simp[aL];omega
  .obtain rfl:k=n:=aQ;have K:¬(k:Int)<(k:Int):=aQ;replace c4:=bK a c4;have G:aH (x=yJ s.rf):=by show x=_;rw[t.o,acC (by have:=C.o.1;omega)]
   clear t;go_wp2_with fail
   go_loopw [3,30] (λv3 v30 L=>∃(j:Nat) (x:Int),v30= .int .i64 j/\v3= .int .i64 x/\j<=m/\aH (x=yG (yJ s.rf) (s.ch.take j))/\aD w w L) (λ_ v30 _=>m - (aL v30).toNat)
   case atStart=>exact⟨0,x,rfl,rfl,ab0 _,G,a⟩
   case round=>
    clear a c4;obtain⟨j,x,rfl,rfl,T,t,a⟩:=hrel;by_cases M:j<m
    .have f:j<s.ch.length:=by have:=C.o.2;omega
     have z:=I.o.oA.keep (w':=wr) a;obtain⟨q,rfl⟩:∃q,A=some ⟨q,0,none⟩:=by
      rcases z.shape with⟨_,H,_⟩|H
      .rw[H] at f;simp at f
      .exact H
     have N:=bM kW z f (j:=0) (v:= .int .i64 s.ch[j].lf) rfl;have U:=bM kW z f (j:=1) (v:= .int .i64 s.ch[j].us) rfl;have V:=bM kW z f (j:=2) (v:= .int .i64 s.ch[j].de) rfl;rw[acD] at N;have W:(0:Int)<=j:=aQ;have O:(j:Int)<(m:Int):=aQ;clear z;have i:s.ch.take (j+1)=s.ch.take j++ [s.ch[j]]:=by rw[ac3,abO f];rfl
     have l:aH (yG (yJ s.rf) (s.ch.take (j+1))=if 0<s.ch[j].us then max x s.ch[j].de else x):=by unfold aH;rw[i,V8,<-t.o]
     clear i;generalize s.ch[j]=y at *;have p:=aP (a.alloc a.size (aI #[y.lf,y.us,y.de] 329));clear a;by_cases hu:0<y.us
     .by_cases E:x<y.de
      all_goals
       go_wp2_with fail
       go_roundw
       case rel=>exact⟨j+1,_,by go_num,rfl,aQ,by show _=_;rw[l.o,abS hu];omega,p.o⟩
       case measure=>simp[aL];omega
     .go_wp2_with fail
      go_roundw
      case rel=>exact⟨j+1,_,by go_num,rfl,aQ,by show _=_;rw[l.o,abT hu],p.o⟩
      case measure=>simp[aL];omega
    .obtain rfl:j=m:=aQ;have O:¬(j:Int)<(j:Int):=aQ;go_wp2_with fail
     go_ret
     have P:x=tG s:=by rw[t.o,acC (by have:=C.o.2;omega)];rfl
     exact⟨by rw[<-P];rfl,a⟩
theorem Jz(bu pe:Int)(w:aA)(l:n9 bu pe=true):aG prog 97 #[.agg #[bu,pe]] w λe w'=>∃g,e= .returned (.tuple #[.pointer (some ⟨g,0,none⟩),aU])/\w.heap.size<=g/\sU (λb=>b<w.heap.size) w' g (wQ bu pe)/\aD w w w':=by
 have d:=aP (λW=>DU bu pe W);rw[l] at d;have c:=aX w (aI #[bu,pe] 112);have f:=bF.new w 112 #[bu,pe];go_enter func97,ntmps97
 go_upto_region 1 with(fail)
 generalize w.alloc (aI #[bu,pe] 112)=w1 at *;generalize hq:w.heap.size=q at f⊢;have j:=f.cell 0 bu rfl;have k:=f.cell 1 pe rfl;go_wp2_with fail
 refine aS (d.o _) ?_;rintro e h ⟨rfl,a⟩;replace j:=bK a j;replace k:=bK a k;have i:=aP (c.trans (Below.mono a c.size));clear c a;go_wp2_with fail
 have m:w.heap.size<=h.heap.size:=i.o.size;exact bodyPost_ret (v:= .tuple #[.pointer h.heap.size,aU]) (by simp[results,results97,go_sem]) rfl ⟨h.heap.size,rfl,m,⟨none,0,none,0,bF.new _ _ _,bH.nil _ _ _,bH.nil _ _ _,λb hb=>by have:=hb;simp;omega,aQ,λq hq=>(by cases hq),λq hq=>(by cases hq)⟩,i.o.alloc i.o.size _⟩
end
def Fo(w:aA)(ow:Nat->Nat)(i:Nat):Nat->Prop:=λb=>b<w.heap.size/\ow b≠i
def nx(w:aA)(ow:Nat->Nat)(i:Nat):Nat->Nat:=λb=>if b<w.heap.size then ow b else i
def dV(X:(Nat->Prop)->aA->Prop):Prop:=∀(F G H:Nat->Prop) (w w':aA),X F w->Kp G w w'->(∀r,r<w.heap.size->¬F r->G r)->Ol H w'->(∀r,r<w.heap.size->¬F r->¬H r)->X H w'
def BI(F:Nat->Prop)(w:aA)(ow:Nat->Nat):Prop:=∀b,F b->b<w.heap.size/\ow b=0
variable{n d:Nat}{A B:Option aJ}{tu:Int}
section
variable{F G H:Nat->Prop}{w w':aA}{ow:Nat->Nat}{i j:Nat}{X:(Nat->Prop)->aA->Prop}
theorem Fo.ol(w:aA)(ow:Nat->Nat)(i:Nat):Ol (Fo w ow i) w:=λ_ h=>h.1
theorem dV.own(M:dV X)(h:X (Fo w ow i) w')(k:Kp (Fo w ow i) w w'):X (Fo w' (nx w ow i) i) w':=
 M _ (λ_=>True) _ w' w' h (Kp.refl _ _) (λ_ _ _=>trivial) (Fo.ol _ _ _) (λr _ a hf=>hf.2 (by
  unfold nx;split
  .rename_i b;exact acE λhc=>a ⟨b,hc⟩
  .rfl))
theorem dV.other(M:dV X)(h:X (Fo w ow j) w)(k:Kp (Fo w ow i) w w')(b:j≠i):X (Fo w' (nx w ow i) j) w':=
 M _ _ _ w w' h k (λr a c=>⟨a,λe=>c ⟨a,λd=>b (by rw[<-d,e])⟩⟩) (Fo.ol _ _ _) (λr a c hf=>hf.2 (by
  unfold nx;rw[abS a];exact acE λhc=>c ⟨a,hc⟩))
theorem BI.kp(h:BI F w ow)(k:Kp (Fo w ow i) w w')(hi:i≠0):Kp F w w':=k.mono λb hb=>⟨(h b hb).1,by rw[(h b hb).2];exact λe=>hi e.symm⟩
theorem BI.next(h:BI F w ow)(k:Kp (Fo w ow i) w w')(i:Nat):BI F w' (nx w ow i):=λb hb=>⟨abR (h b hb).1 k.size,by unfold nx;rw[abS (h b hb).1];exact(h b hb).2⟩
theorem BI.ol(h:BI F w ow):Ol F w:=λb hb=>(h b hb).1
noncomputable def mv (w:aA) (ow:Nat->Nat) (H:Nat->Prop):Nat->Nat:=λb=> @ite Nat (b<w.heap.size/\¬H b) (Classical.propDecidable _) (ow b) 0
theorem dV.part(M:dV X)(hF:BI F w ow)(k:Kp G w w')(c:∀r,r<w.heap.size->¬F r->G r)(hH:∀r,r<w.heap.size->¬F r->¬H r)(hi:i≠0)(h:X (Fo w ow i) w):X (Fo w' (mv w ow H) i) w':=by
 have hq:∀r,r<w.heap.size->¬Fo w ow i r->ow r=i/\¬F r:=λr a b=>by
  have h1:ow r=i:=acE λhc=>b ⟨a,hc⟩
  exact⟨h1,λhf=>hi (by rw[<-h1,(hF r hf).2])⟩
 refine M _ G _ w w' h k (λr a b=>c r a (hq r a b).2) (Fo.ol _ _ _) (λr a b hf=>hf.2 ?_);unfold mv;rw[abS ⟨a,hH r a (hq r a b).2⟩];exact(hq r a b).1
theorem BI.mv(a:Ol H w'):BI H w' (mv w ow H):=λb hb=>⟨a b hb,by unfold Go.Proofs.YtacgiflhgdaeaaaGreat.mv;rw[abT (λh=>h.2 hb)]⟩
theorem Wo{r:Nat}(a:r<w.heap.size)(b:¬H r):mv w ow H r=ow r:=by unfold mv;rw[abS ⟨a,b⟩]
theorem zA{r:Nat}(a:r<w.heap.size):nx w ow i r=ow r:=abS a
theorem K9{r:Nat}(a:w.heap.size<=r):nx w ow i r=i:=abT (Nat.not_lt.2 a)
theorem sU.cM(g:Nat)(s:Sv):dV (λF w=>sU F w g s):=λ_ _ _ _ _ h k a fl hH=>h.move k a fl hH
theorem gH.move{c:Nat}{nw:Int}{M:Option Nat}{b:Bs}(h:gH F w g A n c b M B d nw tu)(k:Kp G w w')(e:∀r,r<w.heap.size->¬F r->G r)(fl:Ol H w')(hH:∀r,r<w.heap.size->¬F r->¬H r):gH H w' g A n c b M B d nw tu:=
 ⟨k.aY h.b (e g h.b.lt h.fg),h.oB.kp k (λq hq=>e q (h.oB.lt q hq).2 (h.fB q hq)),⟨h.mp.1,λr a=>(h.mp.2 r a).same (k.block r (e r (h.mp.2 r a).lt (h.fM r a)))⟩,fl,hH g h.b.lt h.fg,λq hq=>hH q (h.oB.lt q hq).2 (h.fB q hq),λr a=>hH r (h.mp.2 r a).lt (h.fM r a)⟩
end
structure Pt where
 X:(Nat->Prop)->aA->Prop
 cM:dV X
def zX(l:List Pt)(F:Nat->Prop)(w:aA)(ow:Nat->Nat):Prop:=BI F w ow/\∀(i:Nat) (p:Pt),l[i]?=some p->p.X (Fo w ow (i+1)) w
def Ob(l:List Pt)(F:Nat->Prop)(w:aA):Prop:=∃ow,zX l F w ow
section
variable{l:List Pt}{F G H:Nat->Prop}{w w':aA}{ow:Nat->Nat}{p p':Pt}{i:Nat}
theorem zX.get(h:zX l F w ow)(i:Nat)(hp:l[i]?=some p):p.X (Fo w ow (i+1)) w:=h.2 i p hp
theorem zX.eQ(h:zX l F w ow)(i:Nat)(p':Pt)(a:p'.X (Fo w ow (i+1)) w')(k:Kp (Fo w ow (i+1)) w w'):zX (l.set i p') F w' (nx w ow (i+1))/\Kp F w w':=by
 refine⟨⟨h.1.next k _,λm p hp=>?_⟩,h.1.kp k aQ⟩;rw[acZ] at hp;split at hp
 .rename_i e;subst e;split at hp
  .injection hp with hp;subst hp;exact p'.cM.own a k
  .cases hp
 .rename_i e;exact p.cM.other (h.2 m p hp) k (λb=>e aQ)
theorem zX.kp0(h:zX l F w ow)(k:Kp (Fo w ow 0) w w'):zX l F w' (nx w ow 0):=⟨h.1.next k _,λm p hp=>p.cM.other (h.2 m p hp) k aQ⟩
theorem zX.below(h:zX l F w ow)(hb:aD w w w'):zX l F w' (nx w ow 0):=h.kp0 (Kp.cD hb λ_ hb=>hb.1)
theorem zX.add(h:zX l F w ow)(p':Pt)(d:p'.X (λb=>b<w.heap.size) w')(hb:aD w w w'):zX (l++ [p']) F w' (nx w ow (l.length+1))/\Kp F w w':=by
 have k:Kp (Fo w ow (l.length+1)) w w':=Kp.cD hb λ_ hb=>hb.1
 refine⟨⟨h.1.next k _,λm p hp=>?_⟩,h.1.ol.below hb⟩;by_cases hm:m<l.length
 .rw[acG hm] at hp;exact p.cM.other (h.2 m p hp) k aQ
 .rw[ab2 aQ] at hp;have a:m - l.length=0:=by
   cases hd:m - l.length with
   |zero=>rfl
   |succ n=>rw[hd] at hp;simp at hp
  rw[a] at hp;simp at hp;subst hp;obtain rfl:m=l.length:=aQ;exact p'.cM _ (λ_=>True) _ w' w' d (Kp.refl _ _) (λ_ _ _=>trivial) (Fo.ol _ _ _) (λr j f hf=>hf.2 (K9 (Nat.not_lt.1 f)))
theorem Ob.none(h:Ol F w)(hF:∀b,F b->b<w.heap.size):Ob [] F w:=⟨λ_=>0,λb hb=>⟨hF b hb,rfl⟩,λi p hp=>by simp at hp⟩
theorem Ob.cM(l:List Pt):dV (Ob l):=λF G H w w' ⟨ow,h⟩ k a fl hH=>⟨mv w ow H,BI.mv fl,λi p hp=>p.cM.part h.1 k a hH aQ (h.2 i p hp)⟩
theorem Ob.fl(h:Ob l F w):Ol F w:=by obtain⟨_,h⟩:=h;exact h.1.ol
theorem Ob.below(h:Ob l F w)(hb:aD w w w'):Ob l F w':=by obtain⟨_,h⟩:=h;exact⟨_,h.below hb⟩
end
structure mV(g:Nat)(t:aN)(cs:Array aC)(F:Nat->Prop)(w:aA):Prop where
 b:bF w g t cs
 ol:Ol F w
 nf:¬F g
theorem mV.cM(g:Nat)(t:aN)(cs:Array aC):dV (mV g t cs):=λ_ _ _ _ _ h k a fl hH=>⟨k.aY h.b (a g h.b.lt h.nf),fl,hH g h.b.lt h.nf⟩
def PB(g:Nat)(t:aN)(cs:Array aC):Pt:=⟨mV g t cs,mV.cM g t cs⟩
structure gQ{α:Type}(enc:α->List aC)(sz:Nat)(e:aN)(A:Option aJ)(c:Nat)(xs:List α)(F:Nat->Prop)(w:aA):Prop where
 o:bH enc sz w 0 e A c xs
 ol:Ol F w
 nf:∀q,aY A=some q->¬F q
theorem gQ.cM{α:Type}(enc:α->List aC)(sz:Nat)(e:aN)(A:Option aJ)(c:Nat)(xs:List α):dV (gQ enc sz e A c xs):=λ_ _ _ _ _ h k a fl hH=>⟨h.o.kp k (λq hq=>a q (h.o.lt q hq).2 (h.nf q hq)),fl,λq hq=>hH q (h.o.lt q hq).2 (h.nf q hq)⟩
def PR{α:Type}(enc:α->List aC)(sz:Nat)(e:aN)(A:Option aJ)(c:Nat)(xs:List α):Pt:=⟨gQ enc sz e A c xs,gQ.cM enc sz e A c xs⟩
variable{A':Option aJ}{c' q i j:Nat}
section
variable{F:Nat->Prop}{w w':aA}{g:Nat}{t e:aN}{cs:Array aC}
theorem PB.mk(h:bF w g t cs)(hF:Ol F w)(a:¬F g):mV g t cs F w:=⟨h,hF,a⟩
theorem mV.eQ(h:mV g t cs F w){cs':Array aC}(hb:bF w' g t cs')(a:w.grownBy w' (some g)):mV g t cs' F w'/\Kp F w w':=by
 have k:=h.ol.self h.nf a;exact⟨⟨hb,h.ol.kp k,h.nf⟩,k⟩
theorem mV.set(h:mV g t cs F w)(j:Nat)(v:aC){cs':Array aC}(he:cs'=cs.setIfInBounds j v):mV g t cs' F (w.setCell (g,j) v)/\Kp F w (w.setCell (g,j) v):=
 h.eQ (by rw[he];exact h.b.cB j v) (bC (bL w g) j v)
variable{α:Type}{enc:α->List aC}{sz c:Nat}{A:Option aJ}{xs:List α}
theorem gQ.eQ(h:gQ enc sz e A c xs F w){ys:List α}(ho:bH enc sz w' 0 e A' c' ys)(a:w.grownBy w' (aY A))(ha:aY A'=aY A\/aY A'=some w.heap.size):gQ enc sz e A' c' ys F w'/\Kp F w w':=by
 have k:Kp F w w':=Kp.grown a λb hb=>⟨h.ol b hb,λd=>h.nf b d.symm hb⟩
 refine⟨⟨ho,h.ol.kp k,λq hq hF=>?_⟩,k⟩;rcases ha with ha|ha
 .exact h.nf q (by rw[<-ha];exact hq) hF
 .rw[ha] at hq;injection hq with hq;have:=h.ol q hF;omega
theorem gQ.cell(he:∀x,(enc x).length=sz)(h:gQ enc sz e q c xs F w)(hi:i<xs.length)(a:j<sz)(x:α)(v:aC)(b:enc x=(enc xs[i]).set j v):gQ enc sz e q c (xs.set i x) F (w.setCell (q,i *sz+j) v)/\Kp F w (w.setCell (q,i *sz+j) v):=by
 obtain⟨h1,d⟩:=qX he h.o hi a x v b;exact h.eQ h1 d (.inl rfl)
theorem gQ.nil(hF:Ol F w):gQ enc sz e none 0 ([]:List α) F w:=⟨bH.nil _ _ _,hF,λq hq=>by cases hq⟩
end
end
section
open Go.RowKit
variable{w:aA}{g:Nat}
section
structure jJ where
 period:Int
 next:Int
 waits:Bool
 FO:Int
 refused:Int
def shC(s:jJ):Array aC:=#[s.period,s.next,s.waits,s.FO,s.refused]
def Sh(w:aA)(g:Nat)(s:jJ):Prop:=bF w g 251 (shC s)
theorem Sh.cells{s:jJ}(h:Sh w g s):w.cell? (g,0)=some (.int .i64 s.period)/\w.cell? (g,1)=some (.int .i64 s.next)/\w.cell? (g,2)=some (.bool s.waits)/\w.cell? (g,3)=some (.int .i64 s.FO)/\w.cell? (g,4)=some (.int .i64 s.refused):=
 ⟨h.cell 0 _ rfl,h.cell 1 _ rfl,h.cell 2 _ rfl,h.cell 3 _ rfl,h.cell 4 _ rfl⟩
theorem Sh.free{s:jJ}(h:Sh w g s):w.frozen? (g,1)=false/\w.frozen? (g,2)=false/\w.frozen? (g,3)=false/\w.frozen? (g,4)=false:=
 ⟨bF.frozen h 1,bF.frozen h 2,bF.frozen h 3,bF.frozen h 4⟩
def tD(s:jJ)(now:Int):jJ:={s with next:=now+s.period,waits:=false,FO:=s.FO+1}
structure mD(s:jJ)(k:Nat):Prop where
 p0:1<=s.period
 p1:s.period<=1048576
 n0:0<=s.next
 n1:s.next<=1048576 *(2+(k:Int))
 c0:0<=s.FO
 c1:s.FO<=k
 r0:0<=s.refused
 r1:s.refused<=k
def PQ(v:aC)(s:jJ)(g:Nat)(w:aA)(e:aM)(w':aA):Prop:=e= .returned v/\Sh w' g s/\w.grownBy w' (some g)
theorem IE(s:jJ)(now:Int)(g:Nat)(k:Nat)(w:aA)(h:Sh w g s)(ok:mD s k)(hk:k<=100000)(a:0<=now)(h1:now<=1048576):
 aG prog 88 #[.pointer g,now] w (PQ (.tuple #[]) (tD s now) g w):=by
 obtain⟨c0,c1,c2,c3,c4⟩:=h.cells;obtain⟨f1,f2,f3,f4⟩:=h.free;obtain⟨p0,p1,n0,n1,a0,b,r0,r1⟩:=ok;have H:=aP h;clear h;go_enter func88,ntmps88
 go_wp2
 go_end0
 exact⟨rfl,((H.o.cB 1 _).cB 2 _).cB 3 _,bC (bC (bC (bL w g) 1 _) 2 _) 3 _⟩
def qJ(s:jJ)(now:Int):jJ×Bool×Int:=
 if now<0\/1048576<now then(s,false,1) else if s.waits then({s with refused:=s.refused+1},false,20) else if now<s.next then({s with waits:=true},false,0) else(tD s now,true,0)
def lY(s:jJ)(now:Int):jJ×Bool:=if s.waits=false\/now<s.next\/1048576<now then(s,false) else(tD s now,true)
def jS(s:jJ)(now:Int):jJ×Int:=({s with next:=max now s.next+s.period},max now s.next)
theorem OR{s:jJ}{k:Nat}{now:Int}(h:mD s k)(a:0<=now)(h1:now<=1048576):mD (tD s now) (k+1):=by
 obtain⟨p0,p1,n0,n1,a0,b,r0,r1⟩:=h;exact⟨p0,p1,by simp[tD];omega,by simp[tD];omega,by simp[tD];omega,by simp[tD];omega,by simp[tD];omega,by simp[tD];omega⟩
theorem NF{s:jJ}{k:Nat}(h:mD s k):mD s (k+1):=by
 obtain⟨p0,p1,n0,n1,a0,a,r0,r1⟩:=h;exact⟨p0,p1,n0,aQ,a0,aQ,r0,aQ⟩
theorem Q9{s:jJ}{k:Nat}{now:Int}(h:mD s k):mD (qJ s now).1 (k+1):=by
 unfold qJ;split
 .exact NF h
 .split
  .obtain⟨p0,p1,n0,n1,a0,a,r0,r1⟩:=h;exact⟨p0,p1,n0,bX,a0,bX,bX,bX⟩
  .split
   .obtain⟨p0,p1,n0,n1,a0,a,r0,r1⟩:=h;exact⟨p0,p1,n0,bX,a0,bX,r0,bX⟩
   .exact OR h aQ aQ
theorem Q1{s:jJ}{k:Nat}{now:Int}(h:mD s k):mD (lY s now).1 (k+1):=by
 unfold lY;split
 .exact NF h
 .have:=h.n0;exact OR h aQ aQ
theorem Dn{s:jJ}{k:Nat}{now:Int}(h:mD s k)(a:0<=now)(h1:now<=1048576):mD (jS s now).1 (k+1):=by
 obtain⟨p0,p1,n0,n1,a0,b,r0,r1⟩:=h;exact⟨p0,p1,by simp[jS];omega,by simp[jS];omega,a0,by simp[jS];omega,r0,by simp[jS];omega⟩
theorem ZM(s:jJ)(now:Int)(g:Nat)(k:Nat)(w:aA)(h:Sh w g s)(ok:mD s k)(hk:k<=100000):
 aG prog 56 #[.pointer g,now] w (PQ (.tuple #[.bool (qJ s now).2.1, .int .i64 (qJ s now).2.2]) (qJ s now).1 g w):=by
 have f:=aP ok;obtain⟨c0,c1,c2,c3,c4⟩:=h.cells;obtain⟨f1,f2,f3,f4⟩:=h.free;obtain⟨p0,p1,n0,n1,a0,i,r0,r1⟩:=ok;have H:=aP h;clear h;by_cases b1:now<0
 .have a:aH (qJ s now=(s,false,1)):=by unfold aH qJ;rw[abS (.inl b1)]
  go_enter func56,ntmps56
  go_wp2
  go_ret2
  rw[a.o];exact⟨rfl,H.o,bL w g⟩
 .by_cases b2:1048576<now
  .have a:aH (qJ s now=(s,false,1)):=by unfold aH qJ;rw[abS (.inr b2)]
   go_enter func56,ntmps56
   go_wp2
   go_ret2
   rw[a.o];exact⟨rfl,H.o,bL w g⟩
  .cases b3:s.waits
   .rw[b3] at c2;by_cases d:now<s.next
    .have a:aH (qJ s now=({s with waits:=true},false,0)):=by unfold aH qJ;rw[abT aQ,abT (by simp[b3]),abS d]
     go_enter func56,ntmps56
     go_wp2
     go_ret2
     rw[a.o];exact⟨rfl,H.o.cB 2 _,bC (bL w g) 2 _⟩
    .have a:aH (qJ s now=(tD s now,true,0)):=by unfold aH qJ;rw[abT aQ,abT (by simp[b3]),abT d]
     go_enter func56,ntmps56
     go_wp2_with(go_at_call 88;refine(IE s now g k _ H.o f.o hk aQ aQ).mono ?_;rintro e j ⟨rfl,b,c⟩)
     go_ret2
     rw[a.o];exact⟨rfl,b,c⟩
   .rw[b3] at c2;have a:aH (qJ s now=({s with refused:=s.refused+1},false,20)):=by unfold aH qJ;rw[abT aQ,abS b3]
    go_enter func56,ntmps56
    go_wp2
    go_ret2
    rw[a.o];exact⟨rfl,H.o.cB 4 _,bC (bL w g) 4 _⟩
theorem Bf(s:jJ)(now:Int)(g:Nat)(k:Nat)(w:aA)(h:Sh w g s)(ok:mD s k)(hk:k<=100000):
 aG prog 61 #[.pointer g,now] w (PQ (.bool (lY s now).2) (lY s now).1 g w):=by
 have d:=aP ok;obtain⟨c0,c1,c2,c3,c4⟩:=h.cells;obtain⟨f1,f2,f3,f4⟩:=h.free;obtain⟨p0,p1,n0,n1,a0,i,r0,r1⟩:=ok;have H:=aP h;clear h;cases b3:s.waits
 .rw[b3] at c2;have a:aH (lY s now=(s,false)):=by unfold aH lY;rw[abS (.inl b3)]
  go_enter func61,ntmps61
  go_wp2
  go_ret
  rw[a.o];exact⟨rfl,H.o,bL w g⟩
 .rw[b3] at c2;by_cases f:now<s.next
  .have a:aH (lY s now=(s,false)):=by unfold aH lY;rw[abS (.inr (.inl f))]
   go_enter func61,ntmps61
   go_wp2
   go_ret
   rw[a.o];exact⟨rfl,H.o,bL w g⟩
  .by_cases b2:1048576<now
   .have a:aH (lY s now=(s,false)):=by unfold aH lY;rw[abS (.inr (.inr b2))]
    go_enter func61,ntmps61
    go_wp2
    go_ret
    rw[a.o];exact⟨rfl,H.o,bL w g⟩
   .have a:aH (lY s now=(tD s now,true)):=by unfold aH lY;rw[abT (by simp[b3];omega)]
    go_enter func61,ntmps61
    go_wp2_with(go_at_call 88;refine(IE s now g k _ H.o d.o hk aQ aQ).mono ?_;rintro e j ⟨rfl,b,c⟩)
    go_ret
    rw[a.o];exact⟨rfl,b,c⟩
theorem V6(s:jJ)(now:Int)(g:Nat)(k:Nat)(w:aA)(h:Sh w g s)(ok:mD s k)(hk:k<=100000)(c:0<=now)(h1:now<=1048576):
 aG prog 92 #[.pointer g,now] w (PQ (.int .i64 (jS s now).2) (jS s now).1 g w):=by
 obtain⟨c0,c1,c2,c3,c4⟩:=h.cells;obtain⟨f1,f2,f3,f4⟩:=h.free;obtain⟨p0,p1,n0,n1,a0,d,r0,r1⟩:=ok;have H:=aP h;clear h;by_cases b:now<s.next
 .have a:aH (jS s now=({s with next:=s.next+s.period},s.next)):=by unfold aH jS;rw[Int.max_eq_right aQ]
  go_enter func92,ntmps92
  go_wp2
  go_ret
  rw[a.o];exact⟨rfl,H.o.cB 1 _,bC (bL w g) 1 _⟩
 .have a:aH (jS s now=({s with next:=now+s.period},now)):=by unfold aH jS;rw[Int.max_eq_left aQ]
  go_enter func92,ntmps92
  go_wp2
  go_ret
  rw[a.o];exact⟨rfl,H.o.cB 1 _,bC (bL w g) 1 _⟩
def kA(p:Int):jJ:=⟨p,0,false,0,0⟩
theorem Hz(a:1<=p)(h1:p<=1048576):mD (kA p) 0:=⟨a,h1,by simp[kA],by simp[kA],by simp[kA],by simp[kA],by simp[kA],by simp[kA]⟩
def Uc(p:Int)(w:aA)(e:aM)(w':aA):Prop:=∃g,e= .returned (.tuple #[.pointer (some ⟨g,0,none⟩),aU])/\w.heap.size<=g/\Sh w' g (kA p)/\aD w w w'
theorem Ag(p:Int)(w:aA)(a:1<=p)(h1:p<=1048576):aG prog 52 #[p] w (Uc p w):=by
 go_enter func52,ntmps52
 go_wp2
 go_ret2
 exact⟨w.heap.size,rfl,abQ _,bF.new w _ _,aX _ _⟩
end
end
section
structure Sc where
 lk:Int
 fr:Int
 iL:Int
structure Tk where
 co:Int
 pe:Int
 de:Int
 se:List Sc
 po:Int
structure Jb where
 tk:Int
 nu:Int
 ca:Int
 de:Int
 ra:Int
 dm:Int
 lf:Int
 bg:Bool
 bh:Bool
 rs:Int
 lt:Bool
structure Ev where
 kd:Int
 tk:Int
 jb:Int
 at_:Int
structure Lb where
 ts:List Tk
 od:Int
 rk:List Int
 ce:Nat->Int
 nw:Int
 sh:List jJ
 nu:List Int
 wt:List Int
 jb:List Jb
 lg:List Ev
def Yd:Jb:=⟨0,0,0,0,0,0,0,false,false,0,false⟩
def nK:Tk:=⟨0,0,0, [],0⟩
def sh0:jJ:=⟨1,0,false,0,0⟩
def C2(t:Tk)(lock vX:Int):Bool:=t.se.any λs=>decide (s.lk=lock/\s.fr<=vX/\vX<s.iL)
def iG(x:Lb)(i:Int):Tk:=x.ts.getD i.toNat nK
def zR(x:Lb)(i:Int):Int:=x.rk.getD i.toNat 0
def jQ(x:Lb)(i:Int):jJ:=x.sh.getD i.toNat sh0
def dT(x:Lb)(i:Nat):Jb:=x.jb.getD i Yd
def CH(x:Lb)(j:Jb)(lock:Int):Bool:=j.bg&&decide (j.rs=0)&&C2 (iG x j.tk) lock j.ra
def MC(x:Lb)(MO:Int)(j:Jb)(lock:Nat):Bool:=!(decide (x.ce lock<=MO)&&CH x j lock)
def EE(x:Lb)(place:Nat)(i:Nat):Bool:=decide (i=place) || (List.range 8).all (MC x (zR x (dT x place).tk) (dT x i))
def I6(x:Lb)(place:Nat):Bool:=(List.range x.jb.length).all (EE x place)
def pS(x:Lb)(a b:Jb):Bool:=
 if a.bh !=b.bh then b.bh
 else if x.od=1/\zR x a.tk≠zR x b.tk then decide (zR x a.tk<zR x b.tk)
 else if a.de≠b.de then decide (a.de<b.de)
 else if a.tk≠b.tk then decide (a.tk<b.tk)
 else decide (a.nu<b.nu)
def zY(x:Lb)(o:Option Nat)(i:Nat):Bool:=match o with
 |none=>true
 |some f=>pS x (dT x i) (dT x f)
def fW(x:Lb):Nat->Option Nat×Option Nat
 |0=>(none,none)
 |k+1=>if x.nw<(dT x k).ca then fW x k else
  (if zY x (fW x k).1 k then some k else(fW x k).1,if(dT x k).bg&&zY x (fW x k).2 k then some k else(fW x k).2)
def nB(x:Lb):Option Nat:=match(fW x x.jb.length).1 with
 |none=>none
 |some f=>if(dT x f).bg || I6 x f then some f else(fW x x.jb.length).2
def iY(x:Lb)(kd:Int)(j:Jb):Lb:={x with lg:=x.lg++ [⟨kd,j.tk,j.nu,x.nw⟩]}
def qO(x:Lb)(task demand:Int):Jb:=⟨task,x.nu.getD task.toNat 0+1,x.nw,x.nw+(iG x task).de,0,demand,(iG x task).co,false,false,0,false⟩
def sV(x:Lb)(task demand:Int):Lb:=iY {x with nu:=x.nu.set task.toNat (x.nu.getD task.toNat 0+1),jb:=x.jb++ [qO x task demand]} 1 (qO x task demand)
def dZ(x:Lb)(i:Int)(s:jJ):Lb:={x with sh:=x.sh.set i.toNat s}
def cO(x:Lb)(i:Nat)(j:Jb):Lb:={x with jb:=x.jb.set i j}
def F4(x:Lb)(task:Int):jJ×Bool×Int:=qJ (jQ x task) x.nw
def oM(x:Lb)(task demand:Int):Int×Lb:=
 if task<0\/x.ts.length<=task\/demand<1\/1048576<demand then(1,x) else
 if(F4 x task).2.2≠0 then((F4 x task).2.2,dZ x task (F4 x task).1) else
 if(F4 x task).2.1 then(0,sV (dZ x task (F4 x task).1) task demand) else
 (0,{dZ x task (F4 x task).1 with wt:=x.wt.set task.toNat demand})
def xW(x:Lb)(kd:Int)(i:Nat):Lb:={iY x kd (dT x i) with jb:=x.jb.eraseIdx i}
def gO(j:Jb):Jb:={j with bg:=true,ra:=j.ra+1,lf:=if j.bh then j.lf else j.lf - 1}
def qM(x:Lb)(i:Nat):Lb:=
 let j:=gO (dT x i)
 let y:=cO x i j
 if j.ra=j.dm then xW y 2 i else
 if 0<j.lf then y else
 if(iG x j.tk).po=0 then xW y 3 i else
 if(iG x j.tk).po=1 then
  (if j.bh then y else let k:Jb:={j with bh:=true,rs:=j.rs+1};iY (cO y i k) 4 k)
 else
  let p:=jS (jQ x j.tk) x.nw
  let k:Jb:={j with ca:=p.2,de:=p.2+(iG x j.tk).de,lf:=(iG x j.tk).co,rs:=j.rs+1,bg:=false,lt:=false}
  iY (cO (dZ y j.tk p.1) i k) 5 k
def BL(x:Lb)(i:Nat):Lb:=
 let j:=dT x i
 if j.bh=false/\j.lt=false/\j.de<=x.nw then iY (cO x i {j with lt:=true}) 6 {j with lt:=true} else x
def eT(x:Lb):Nat->Lb
 |0=>x
 |k+1=>BL (eT x k) k
def EI(x:Lb)(i:Nat):Lb:=if(lY (jQ x i) x.nw).2 then sV (dZ x i (lY (jQ x i) x.nw).1) i (x.wt.getD i 0) else x
def eL(x:Lb):Nat->Lb
 |0=>x
 |k+1=>EI (eL x k) k
def nZ(x:Lb)(given:Bool):Option Nat:=if given then nB x else none
def rJ(x:Lb)(given:Bool):Lb:=match nZ x given with
 |none=>{x with nw:=x.nw+1}
 |some i=>qM {x with nw:=x.nw+1} i
def jG(x:Lb)(given:Bool):Lb:=eL (eT (rJ x given) (rJ x given).jb.length) x.ts.length
end
section
open Go.RowKit Go.Lib Go.Shelf
def lN(s:Sc):List aC:= [.int .i64 s.lk, .int .i64 s.fr, .int .i64 s.iL]
theorem CS:eW lN 3:=⟨λ_=>rfl,λx u hu=>by simp[lN] at hu;rcases hu with rfl|rfl|rfl <;> rfl⟩
structure Tm where
 t:Tk
 A:Option aJ
 c:Nat
def pP(x:Tm):List aC:= [.int .i64 x.t.co, .int .i64 x.t.pe, .int .i64 x.t.de, .slice x.A x.t.se.length x.c, .int .i64 x.t.po]
theorem lK:eW pP 5:=⟨λ_=>rfl,λx u hu=>by simp[pP] at hu;rcases hu with rfl|rfl|rfl|rfl|rfl <;> rfl⟩
def jU(j:Jb):List aC:= [.int .i64 j.tk, .int .i64 j.nu, .int .i64 j.ca, .int .i64 j.de, .int .i64 j.ra, .int .i64 j.dm, .int .i64 j.lf, .bool j.bg, .bool j.bh, .int .i64 j.rs, .bool j.lt]
theorem kG:eW jU 11:=⟨λ_=>rfl,λx u hu=>by simp[jU] at hu;rcases hu with rfl|rfl|rfl|rfl|rfl|rfl|rfl|rfl|rfl|rfl|rfl <;> rfl⟩
def rD(x:Ev):List aC:= [.int .i64 x.kd, .int .i64 x.tk, .int .i64 x.jb, .int .i64 x.at_]
theorem xJ:eW rD 4:=⟨λ_=>rfl,λx u hu=>by simp[rD] at hu;rcases hu with rfl|rfl|rfl|rfl <;> rfl⟩
def yA(a:Nat):List aC:= [.pointer a]
theorem FL:eW yA 1:=⟨λ_=>rfl,λx u hu=>by simp[yA] at hu;subst hu;rfl⟩
structure NR(F:Nat->Prop)(w:aA)(A:Option aJ)(c:Nat)(L:List Tm):Prop where
 o:bH pP 5 w 0 125 A c L
 sl:∀x∈L,Sl lN 3 w x.A x.t.se
 fl:Ol F w
 fA:∀q,aY A=some q->¬F q
 fS:∀x∈L,∀q,aY x.A=some q->q<w.heap.size/\¬F q
 cp:∀x∈L,x.t.se.length<=x.c
def OT(A:Option aJ)(c:Nat)(L:List Tm):Pt:=⟨λF w=>NR F w A c L,λ_ _ _ _ _ h k hG fl hH=>⟨h.o.kp k (λq hq=>hG q (h.o.lt q hq).2 (h.fA q hq)),λx hx=>(h.sl x hx).kp k (λq hq=>hG q (h.fS x hx q hq).1 (h.fS x hx q hq).2),fl,λq hq=>hH q (h.o.lt q hq).2 (h.fA q hq),λx hx q hq=>⟨abR (h.fS x hx q hq).1 k.size,hH q (h.fS x hx q hq).1 (h.fS x hx q hq).2⟩,h.cp⟩⟩
structure FM(F:Nat->Prop)(w:aA)(a:List Nat)(l:List jJ):Prop where
 len:a.length=l.length
 nd:a.Nodup
 sh:∀(i:Nat) (h:i<a.length) (h':i<l.length),Sh w a[i] l[i]
 fl:Ol F w
 fa:∀q∈a,q<w.heap.size/\¬F q
def OS(a:List Nat)(l:List jJ):Pt:=⟨λF w=>FM F w a l,λ_ _ _ _ _ h k hG fl hH=>⟨h.len,h.nd,λi hi hi'=>k.aY (h.sh i hi hi') (hG _ (h.fa _ (abY hi)).1 (h.fa _ (abY hi)).2),fl,λq hq=>⟨abR (h.fa q hq).1 k.size,hH q (h.fa q hq).1 (h.fa q hq).2⟩⟩⟩
section
variable{F:Nat->Prop}{w w':aA}{a:List Nat}{l:List jJ}{i:Nat}
theorem FM.eQ(h:FM F w a l)(hi:i<a.length)(f:i<l.length){s:jJ}(hs:Sh w' a[i] s)(d:w.grownBy w' (some a[i])):FM F w' a (l.set i s)/\Kp F w w':=by
 have hm:=h.fa _ (abY hi);have k:=h.fl.self hm.2 d;refine⟨⟨by rw[ab5];exact h.len,h.nd,λj g b=>?_,h.fl.kp k,λq hq=>⟨abR (h.fa q hq).1 k.size,(h.fa q hq).2⟩⟩,k⟩;rw[acS];rw[ab5] at b;split
 .rename_i e;subst e;exact hs
 .rename_i e;exact bF.grown (h.sh j g b) d (λc=>e (by
   injection c with c;exact((List.getElem_inj h.nd).1 c.symm)))
end
structure La where
 T:Option aJ
 cT:Nat
 L:List Tm
 K:Option aJ
 cK:Nat
 S:Option aJ
 cS:Nat
 a:List Nat
 U:Option aJ
 cU:Nat
 V:Option aJ
 cV:Nat
 J:Option aJ
 cJ:Nat
 G:Option aJ
 cG:Nat
def fQ(x:Lb)(y:La):Array aC:=#[(y.T,y.L.length,y.cT),x.od,(y.K,x.rk.length,y.cK), .int .i64 (x.ce 0), .int .i64 (x.ce 1), .int .i64 (x.ce 2), .int .i64 (x.ce 3), .int .i64 (x.ce 4), .int .i64 (x.ce 5), .int .i64 (x.ce 6), .int .i64 (x.ce 7),x.nw,(y.S,y.a.length,y.cS),(y.U,x.nu.length,y.cU),(y.V,x.wt.length,y.cV),(y.J,x.jb.length,y.cJ),(y.G,x.lg.length,y.cG)]
def jB(g:Nat)(x:Lb)(y:La):List Pt:= [PB g 193 (fQ x y),OT y.T y.cT y.L,PR eI 1 3 y.K y.cK x.rk,PR yA 1 194 y.S y.cS y.a,OS y.a x.sh,PR eI 1 3 y.U y.cU x.nu,PR eI 1 3 y.V y.cV x.wt,PR jU 11 209 y.J y.cJ x.jb,PR rD 4 165 y.G y.cG x.lg]
variable{l:List Pt}{F G:Nat->Prop}{w w':aA}{sz i m:Nat}{A:Option aJ}
section
theorem Ob.use(h:Ob l F w)(i:Nat)(p:Pt)(hp:l[i]?=some p):∃G,p.X G w/\(∀(a:Pt) (w':aA),a.X G w'->Kp G w w'->Ob (l.set i a) F w'/\Kp F w w'):=by
 obtain⟨c,h⟩:=h;exact⟨_,h.get i hp,λa w' b k=>⟨⟨_,(h.eQ i a b k).1⟩,(h.eQ i a b k).2⟩⟩
theorem Ob.NZ(h:Ob l F w)(hb:aD w w w'):Kp F w w':=h.fl.below hb
theorem Ob.Ut{α:Type}{enc:α->List aC}{e:aN}{c:Nat}{xs:List α}(h:Ob l F w)(i:Nat)(hp:l[i]?=some (PR enc sz e A c xs)):Ob (l.set i (PR enc sz e Option.none 0 ([]:List α))) (λb=>F b\/aY A=some b) w:=by
 obtain⟨a,hF,k⟩:=h;have s:gQ enc sz e A c xs (Fo w a (i+1)) w:=k i _ hp;have hq:∀q,aY A=some q->q<w.heap.size/\a q=i+1:=λq hq=>by
  have h1:=(s.o.lt q hq).2;exact⟨h1,acE λhc=>s.nf q hq ⟨h1,hc⟩⟩
 refine⟨λb=>if aY A=some b then 0 else a b,λb hb=>?_,λm p hm=>?_⟩
 .rcases hb with hb|hb
  .refine⟨(hF b hb).1,?_⟩;simp only;split
   .rfl
   .exact(hF b hb).2
  .exact⟨(hq b hb).1,abS hb⟩
 .rw[acZ] at hm;split at hm
  .split at hm
   .injection hm with hm;subst hm;exact gQ.nil (Fo.ol _ _ _)
   .cases hm
  .rename_i d;refine p.cM _ (λ_=>True) _ w w (k m p hm) (Kp.refl _ _) (λ_ _ _=>trivial) (Fo.ol _ _ _) (λr f t hf=>?_);have h1:a r=m+1:=acE λhc=>t ⟨f,hc⟩
   have j:=hf.2;simp only at j;split at j
   .rename_i u;have:=(hq r u).2;exact d aQ
   .exact j h1
structure Du where
 at_:Int
 hd:Int
 wh:Int
instance:Inhabited Du:=⟨⟨0,0,0⟩⟩
def uS(x:Du):List aC:= [.int .i64 x.at_, .int .i64 x.hd, .int .i64 x.wh]
theorem rM:eW uS 3:=⟨λ_=>rfl,λx u hu=>by simp[uS] at hu;rcases hu with rfl|rfl|rfl <;> rfl⟩
def AM(x:Du):aC:= .agg #[x.at_,x.hd,x.wh]
structure Hr where
 A:Option aJ
 c:Nat
 xs:List Int
structure Wa where
 nw:Int
 hs:Int
 M:Nat
 f:Int->Option Du
 R:List Hr
def Mg(M:Nat)(f:Int->Option Du)(F:Nat->Prop)(w:aA):Prop:=iJ AM w M f/\Ol F w/\¬F M
theorem Mg.cM(M:Nat)(f:Int->Option Du):dV (Mg M f):=λ_ _ _ _ _ ⟨h,_,a⟩ k b fl hH=>⟨h.same (k.block M (b M h.lt a)),fl,hH M h.lt a⟩
def Mc(M:Nat)(f:Int->Option Du):Pt:=⟨Mg M f,Mg.cM M f⟩
def r6(r:Hr):aC:= .slice r.A r.xs.length r.c
def vV(y:Wa):List aC:= [.bool true, .int .i64 y.nw, .int .i64 y.hs, .map (some y.M)]++y.R.map r6
def QL(r:Hr):Pt:=PR eI 1 3 r.A r.c r.xs
def R4(g:Nat)(y:Wa):List Pt:= [PB g 339 (vV y).toArray,Mc y.M y.f]++y.R.map QL
def iD(R:List Hr):Nat:=(R.map λr=>r.xs.length).sum
structure Yg(y:Wa)(n:Nat):Prop where
 nw:0<=y.nw/\y.nw<=1048576
 hs:0<=y.hs/\y.hs<=n
 len:y.R.length=256
 sum:iD y.R<=n
 ok:∀x d,y.f x=some d->(0<=d.wh/\d.wh<4)/\0<=d.at_/\d.at_<=2097152
structure dJ(F:Nat->Prop)(w:aA)(g n:Nat)(y:Wa):Prop where
 o:Ob (R4 g y) F w
 i:Yg y n
def CN(F:Nat->Prop)(w:aA)(g n:Nat):Prop:=∃y,dJ F w g n y
theorem CN.cM(g n:Nat):dV (λF w=>CN F w g n):=λF G H w w' ⟨y,h⟩ k a fl hH=>⟨y,Ob.cM _ F G H w w' h.o k a fl hH,h.i⟩
theorem DP{R:List Hr}(hi:i<R.length)(r:Hr):iD (R.set i r)+R[i].xs.length=iD R+r.xs.length:=by
 unfold iD;induction R generalizing i with
 |nil=>simp at hi
 |cons x R a=>
  cases i with
  |zero=>simp;omega
  |succ i=>
   simp only[abU,List.map_cons,List.sum_cons,ac0];have:=a (i:=i) (by simpa using hi);omega
theorem yP{R:List Hr}(hi:i<R.length):R[i].xs.length<=iD R:=by
 have:=DP hi ⟨none,0, []⟩;simp at this;omega
section
variable{F:Nat->Prop}{w w':aA}{g n:Nat}{y:Wa}
theorem dJ.below(h:dJ F w g n y)(hb:aD w w w'):dJ F w' g n y/\Kp F w w':=⟨⟨h.o.below hb,h.i⟩,h.o.fl.below hb⟩
theorem dJ.fl(h:dJ F w g n y):Ol F w:=h.o.fl
theorem dJ.bk(h:dJ F w g n y):bF w g 339 (vV y).toArray:=by
 obtain⟨a,h1⟩:=h.o;exact(h1.get 0 (p:=PB g 339 (vV y).toArray) rfl).b
theorem dJ.mp(h:dJ F w g n y):iJ AM w y.M y.f:=by
 obtain⟨a,h1⟩:=h.o;exact(h1.get 1 (p:=Mc y.M y.f) rfl).1
theorem GQ(hi:i<y.R.length):(R4 g y)[2+i]?=some (QL y.R[i]):=by
 rw[R4,ab2 aT];simp[hi]
theorem dJ.row(h:dJ F w g n y)(hi:i<y.R.length):bH eI 1 w 0 3 y.R[i].A y.R[i].c y.R[i].xs:=by
 obtain⟨a,h1⟩:=h.o;exact(h1.get (2+i) (GQ hi)).o
theorem dJ.c0(h:dJ F w g n y):w.cell? (g,0)=some (.bool true):=h.bk.cell 0 _ rfl
theorem dJ.c1(h:dJ F w g n y):w.cell? (g,1)=some (.int .i64 y.nw):=h.bk.cell 1 _ rfl
theorem dJ.c2(h:dJ F w g n y):w.cell? (g,2)=some (.int .i64 y.hs):=h.bk.cell 2 _ rfl
theorem dJ.c3(h:dJ F w g n y):w.cell? (g,3)=some (.map (some y.M)):=h.bk.cell 3 _ rfl
theorem dJ.cr(h:dJ F w g n y)(hi:i<y.R.length):w.cell? (g,4+i)=some (r6 y.R[i]):=by
 refine h.bk.cell (4+i) _ ?_;rw[ab4,vV,ab2 aT];simp[hi]
theorem dJ.fz(h:dJ F w g n y)(i:Nat):w.frozen? (g,i)=false:=h.bk.frozen i
theorem dJ.PS(h:dJ F w g n y){v:Int}(b:0<=v/\v<=1048576):dJ F (w.setCell (g,1) v) g n {y with nw:=v}/\Kp F w (w.setCell (g,1) v):=by
 obtain⟨G,a,back⟩:=Ob.use h.o 0 _ rfl;obtain⟨b1,b2⟩:=back (PB g 339 (vV {y with nw:=v}).toArray) _ (a.set 1 (.int .i64 v) rfl).1 (a.set 1 (.int .i64 v) rfl).2;exact⟨⟨b1,⟨b,h.i.hs,h.i.len,h.i.sum,h.i.ok⟩⟩,b2⟩
theorem dJ.Xj(h:dJ F w g n y){v:Int}(b:n<=m)(c:0<=v/\v<=m):dJ F (w.setCell (g,2) v) g m {y with hs:=v}/\Kp F w (w.setCell (g,2) v):=by
 obtain⟨G,a,back⟩:=Ob.use h.o 0 _ rfl;obtain⟨b1,b2⟩:=back (PB g 339 (vV {y with hs:=v}).toArray) _ (a.set 2 (.int .i64 v) rfl).1 (a.set 2 (.int .i64 v) rfl).2;exact⟨⟨b1,⟨h.i.nw,c,h.i.len,abX h.i.sum b,h.i.ok⟩⟩,b2⟩
theorem dJ.V0(h:dJ F w g n y){f:Int->Option Du}(hm:iJ AM w' y.M f)(c:w.grownBy w' (some y.M))(hf:∀x d,f x=some d->(0<=d.wh/\d.wh<4)/\0<=d.at_/\d.at_<=2097152):dJ F w' g n {y with f:=f}/\Kp F w w':=by
 obtain⟨G,e,back⟩:=Ob.use h.o 1 _ rfl;obtain⟨j,a,b⟩:=e;obtain⟨b1,b2⟩:=back (Mc y.M f) w' ⟨hm,a.kp (a.self b c),b⟩ (a.self b c);exact⟨⟨b1,⟨h.i.nw,h.i.hs,h.i.len,h.i.sum,hf⟩⟩,b2⟩
theorem L5(r:Hr):(R4 g y).set (2+i) (QL r)= [PB g 339 (vV y).toArray,Mc y.M y.f]++(y.R.set i r).map QL:=by
 rw[R4,acA _ _ aT,adS];simp
theorem dJ.setRow(h:dJ F w g n y)(hi:i<y.R.length){c:Nat}{xs:List Int}(ho:bH eI 1 w' 0 3 A c xs)(e:w.grownBy w' (aY y.R[i].A))(ha:aY A=aY y.R[i].A\/aY A=some w.heap.size)(hm:n<=m)(hs:iD (y.R.set i ⟨A,c,xs⟩)<=m):
 dJ F (w'.setCell (g,4+i) (.slice A xs.length c)) g m {y with R:=y.R.set i ⟨A,c,xs⟩}/\Kp F w (w'.setCell (g,4+i) (.slice A xs.length c)):=by
 obtain⟨G,f,back⟩:=Ob.use h.o (2+i) _ (GQ hi);have b:gQ eI 1 3 y.R[i].A y.R[i].c y.R[i].xs G w:=f;obtain⟨t1,t2⟩:=b.eQ ho e ha;obtain⟨b1,b2⟩:=back (QL ⟨A,c,xs⟩) w' t1 t2;rw[L5] at b1;obtain⟨j,d,a⟩:=Ob.use b1 0 _ rfl;obtain⟨s1,s2⟩:=mV.set (cs':=(vV {y with R:=y.R.set i ⟨A,c,xs⟩}).toArray) d (4+i) (.slice A xs.length c) (by
  rw[abP];congr 1
  unfold vV;rw[acA _ _ aT,adS];simp[r6])
 obtain⟨d1,d2⟩:=a (PB g 339 (vV {y with R:=y.R.set i ⟨A,c,xs⟩}).toArray) _ s1 s2;exact⟨⟨d1,⟨h.i.nw,⟨h.i.hs.1,by have:=h.i.hs.2;show y.hs<=_;omega⟩,by rw[ab5];exact h.i.len,hs,h.i.ok⟩⟩,b2.trans d2⟩
theorem dJ.take(h:dJ F w g n y)(hi:i<y.R.length):dJ (λb=>F b\/aY y.R[i].A=some b) (w.setCell (g,4+i) (.slice none 0 0)) g n {y with R:=y.R.set i ⟨none,0, []⟩}/\Kp (λb=>F b\/aY y.R[i].A=some b) w (w.setCell (g,4+i) (.slice none 0 0))/\iD (y.R.set i ⟨none,0, []⟩)+y.R[i].xs.length=iD y.R:=by
 have b1:=Ob.Ut h.o (2+i) (GQ hi);have b2:Ob ((R4 g y).set (2+i) (QL ⟨none,0, []⟩)) (λb=>F b\/aY y.R[i].A=some b) w:=b1;rw[L5] at b2;obtain⟨d,c,a⟩:=Ob.use b2 0 _ rfl;obtain⟨s1,s2⟩:=mV.set (cs':=(vV {y with R:=y.R.set i ⟨none,0, []⟩}).toArray) c (4+i) (.slice none 0 0) (by
  rw[abP];congr 1
  unfold vV;rw[acA _ _ aT,adS];simp[r6])
 obtain⟨d1,d2⟩:=a (PB g 339 (vV {y with R:=y.R.set i ⟨none,0, []⟩}).toArray) _ s1 s2;have:=DP hi ⟨none,0, []⟩;exact⟨⟨d1,⟨h.i.nw,h.i.hs,by rw[ab5];exact h.i.len,by have:=h.i.sum;simp at *;omega,h.i.ok⟩⟩,d2,by simpa using this⟩
theorem dJ.less(h:dJ F w g n y)(a:∀b,G b->F b):dJ G w g n y:=by
 exact⟨Ob.cM _ F (λ_=>True) G w w h.o (Kp.refl _ _) (λ_ _ _=>trivial) (λb hb=>h.o.fl b (a b hb)) (λr _ c d=>c (a r d)),h.i⟩
end
end
variable{q:Nat}
section
structure ZV(x:Lb)(n:Nat)(j:Jb):Prop where
 t0:0<=j.tk
 t1:j.tk<x.ts.length
 r0:0<=j.ra
 r1:j.ra<=x.nw
 l0: -x.nw<=j.lf
 l1:j.lf<=1048576
 c0:0<=j.ca
 c1:j.ca<=1048576 *(2+(n:Int))
 d0:0<=j.de
 d1:j.de<=1048576 *(3+(n:Int))
 s0:0<=j.rs
 s1:j.rs<=n
structure Xt(t:Tk):Prop where
 c0:1<=t.co
 c1:t.co<=1048576
 p0:1<=t.pe
 p1:t.pe<=1048576
 d0:1<=t.de
 d1:t.de<=1048576
 sl:t.se.length<=8
 o0:0<=t.po
 o1:t.po<=2
structure IS(x:Lb)(n m:Nat):Prop where
 lr:x.rk.length=x.ts.length
 ls:x.sh.length=x.ts.length
 lu:x.nu.length=x.ts.length
 lw:x.wt.length=x.ts.length
 tl:x.ts.length<=8
 tk:∀t∈x.ts,Xt t
 n0:0<=x.nw
 n1:x.nw<=1048576
 sh:∀s∈x.sh,mD s n
 nu:∀v∈x.nu,0<=v/\v<=n
 jl:x.jb.length<=n
 jo:∀j∈x.jb,ZV x n j
 gl:x.lg.length<=m
structure bU(F:Nat->Prop)(w:aA)(g:Nat)(x:Lb)(y:La):Prop where
 ts:y.L.map Tm.t=x.ts
 o:Ob (jB g x y) F w
structure wR(w:aA)(q o:Nat)(j:Jb):Prop where
 c0:w.cell? (q,o)=some (.int .i64 j.tk)
 c1:w.cell? (q,o+1)=some (.int .i64 j.nu)
 c2:w.cell? (q,o+2)=some (.int .i64 j.ca)
 c3:w.cell? (q,o+3)=some (.int .i64 j.de)
 c4:w.cell? (q,o+4)=some (.int .i64 j.ra)
 c5:w.cell? (q,o+5)=some (.int .i64 j.dm)
 c6:w.cell? (q,o+6)=some (.int .i64 j.lf)
 c7:w.cell? (q,o+7)=some (.bool j.bg)
 c8:w.cell? (q,o+8)=some (.bool j.bh)
 c9:w.cell? (q,o+9)=some (.int .i64 j.rs)
 yB:w.cell? (q,o+10)=some (.bool j.lt)
theorem wR.keep{o:Nat}{j:Jb}(h:wR w q o j)(hb:aD w w w'):wR w' q o j:=
 ⟨bK hb h.c0,bK hb h.c1,bK hb h.c2,bK hb h.c3,bK hb h.c4,bK hb h.c5,bK hb h.c6,bK hb h.c7,bK hb h.c8,bK hb h.c9,bK hb h.yB⟩
theorem wS{α:Type}{enc:α->List aC}{base:Nat}{e:aN}{c:Nat}{xs:List α}(h:bH enc sz w base e A c xs)(a:0<xs.length):∃q,A=some ⟨q,0,none⟩:=by
 rcases h.shape with⟨_,b,_⟩|h
 .rw[b] at a;simp at a
 .exact h
section
variable{F:Nat->Prop}{w w':aA}{g:Nat}{x:Lb}{y:La}{n:Nat}
theorem bU.fl(h:bU F w g x y):Ol F w:=h.o.fl
theorem bU.below(h:bU F w g x y)(hb:aD w w w'):bU F w' g x y:=⟨h.ts,h.o.below hb⟩
theorem bU.bk(h:bU F w g x y):bF w g 193 (fQ x y):=by
 obtain⟨a,h1⟩:=h.o;exact(h1.get 0 (p:=PB g 193 (fQ x y)) rfl).b
theorem bU.len(h:bU F w g x y):y.L.length=x.ts.length:=by rw[<-h.ts,acU]
theorem bU.task(h:bU F w g x y)(d:n<x.ts.length):∃q A c,y.T=some ⟨q,0,none⟩/\w.cell? ⟨q,n *5,none⟩=some (.int .i64 (iG x n).co)/\w.cell? ⟨q,n *5+1,none⟩=some (.int .i64 (iG x n).pe)/\w.cell? ⟨q,n *5+2,none⟩=some (.int .i64 (iG x n).de)/\w.cell? ⟨q,n *5+3,none⟩=some (.slice A (iG x n).se.length c)/\w.cell? ⟨q,n *5+4,none⟩=some (.int .i64 (iG x n).po)/\Sl lN 3 w A (iG x n).se:=by
 obtain⟨f,h1⟩:=h.o;have b:NR (Fo w f 2) w y.T y.cT y.L:=h1.get 1 (p:=OT y.T y.cT y.L) rfl;have a:n<y.L.length:=by rw[h.len];exact d
 obtain⟨q,hq⟩:=wS b.o aQ;have ho:=b.o;rw[hq] at ho;have e:iG x (n:Int)=y.L[n].t:=by
  unfold iG;rw[abZ,ab1,<-h.ts,ad1,abO a];rfl
 rw[e];refine⟨q,y.L[n].A,y.L[n].c,hq,?_,?_,?_,?_,?_,b.sl _ (abY a)⟩
 .simpa using bM lK ho a (j:=0) rfl
 .exact bM lK ho a (j:=1) rfl
 .exact bM lK ho a (j:=2) rfl
 .exact bM lK ho a (j:=3) rfl
 .exact bM lK ho a (j:=4) rfl
theorem LY{base:Nat}{e:aN}{c:Nat}{xs:List Int}(h:bH eI 1 w base e A c xs)(a:n<xs.length):∃q,A=some ⟨q,0,none⟩/\w.cell? ⟨q,n,none⟩=some (.int .i64 (xs.getD n 0)):=by
 obtain⟨q,hq⟩:=wS h aQ;subst hq;refine⟨q,rfl,?_⟩;have:=bM gR h a (j:=0) (v:= .int .i64 xs[n]) rfl;rw[ab1,abO a];simpa using this
theorem bU.MO(h:bU F w g x y)(a:n<x.rk.length):∃q,y.K=some ⟨q,0,none⟩/\w.cell? ⟨q,n,none⟩=some (.int .i64 (zR x n)):=by
 obtain⟨b,h1⟩:=h.o;have c:gQ eI 1 3 y.K y.cK x.rk (Fo w b 3) w:=h1.get 2 (p:=PR eI 1 3 y.K y.cK x.rk) rfl;exact LY c.o a
theorem bU.num(h:bU F w g x y)(a:n<x.nu.length):∃q,y.U=some ⟨q,0,none⟩/\w.cell? ⟨q,n,none⟩=some (.int .i64 (x.nu.getD n 0)):=by
 obtain⟨b,h1⟩:=h.o;have c:gQ eI 1 3 y.U y.cU x.nu (Fo w b 6) w:=h1.get 5 (p:=PR eI 1 3 y.U y.cU x.nu) rfl;exact LY c.o a
theorem bU.wait(h:bU F w g x y)(a:n<x.wt.length):∃q,y.V=some ⟨q,0,none⟩/\w.cell? ⟨q,n,none⟩=some (.int .i64 (x.wt.getD n 0)):=by
 obtain⟨b,h1⟩:=h.o;have c:gQ eI 1 3 y.V y.cV x.wt (Fo w b 7) w:=h1.get 6 (p:=PR eI 1 3 y.V y.cV x.wt) rfl;exact LY c.o a
theorem Sa{base:Nat}{e:aN}{c:Nat}{xs:List Jb}(h:bH jU 11 w base e q c xs)(a:n<xs.length):wR w q (n *11) (xs.getD n Yd):=by
 rw[ab1,abO a];have b:=bM kG h a (j:=0) rfl;rw[acD] at b;exact⟨b,bM kG h a (j:=1) rfl,bM kG h a (j:=2) rfl,bM kG h a (j:=3) rfl,bM kG h a (j:=4) rfl,bM kG h a (j:=5) rfl,bM kG h a (j:=6) rfl,bM kG h a (j:=7) rfl,bM kG h a (j:=8) rfl,bM kG h a (j:=9) rfl,bM kG h a (j:=10) rfl⟩
theorem bU.l7(h:bU F w g x y)(b:n<x.jb.length):∃q,y.J=some ⟨q,0,none⟩/\wR w q (n *11) (dT x n):=by
 obtain⟨c,h1⟩:=h.o;have a:gQ jU 11 209 y.J y.cJ x.jb (Fo w c 8) w:=h1.get 7 (p:=PR jU 11 209 y.J y.cJ x.jb) rfl;obtain⟨q,hq⟩:=wS a.o aQ;have ho:=a.o;rw[hq] at ho;exact⟨q,hq,Sa ho b⟩
theorem IS.l7(h:IS x n m)(hi:i<x.jb.length):ZV x n (dT x i):=by
 unfold dT;rw[ab1,abO hi];exact h.jo _ (abY hi)
end
theorem Sl.LS{xs:List Sc}(h:Sl lN 3 w A xs)(hi:i<xs.length):
 ∃b off,A=some ⟨b,off,none⟩/\w.cell? ⟨b,off+i *3,none⟩=some (.int .i64 xs[i].lk)/\w.cell? ⟨b,off+i *3+1,none⟩=some (.int .i64 xs[i].fr)/\w.cell? ⟨b,off+i *3+2,none⟩=some (.int .i64 xs[i].iL):=by
 obtain⟨b,off,a,hc⟩:=h.at_ hi;exact⟨b,off,a,by simpa using hc 0 _ (show(lN xs[i])[0]?=some (.int .i64 xs[i].lk) from rfl),by simpa[acY] using hc 1 _ (show(lN xs[i])[1]?=some (.int .i64 xs[i].fr) from rfl),by simpa[acY] using hc 2 _ (show(lN xs[i])[2]?=some (.int .i64 xs[i].iL) from rfl)⟩
def FB(lock vX:Int)(s:Sc):Bool:=decide (s.lk=lock/\s.fr<=vX/\vX<s.iL)
theorem V1(t:Tk)(A:Option aJ)(c:Nat)(hs:Sl lN 3 w A t.se)(hl:t.se.length<=8)(lock vX:Int):aG prog 182 #[.agg #[t.co,t.pe,t.de,(A,t.se.length,c),t.po],lock,vX] w λr w'=>r= .returned (.bool (C2 t lock vX))/\aD w w w':=by
 have e:=aX w (aI #[t.co,t.pe,t.de,(A,t.se.length,c),t.po] 125);have l:=bF.new w 125 #[t.co,t.pe,t.de,(A,t.se.length,c),t.po];have u:=l.cell 3 _ rfl;have f:=aP e;have v:aH (Sl lN 3 w A t.se):=hs;clear l hs e;go_enter func182,ntmps182
 go_upto_region 1 with(fail)
 generalize w.alloc (aI #[t.co,t.pe,t.de,(A,t.se.length,c),t.po] 125)=w1 at *;go_wp2_with fail
 go_loopw [12] (λv12 wr=>∃k:Nat,k<=t.se.length/\v12= .int .i64 k/\aH ((t.se.take k).any (FB lock vX)=false)/\aH (aD w w wr)) (λv12 _=>t.se.length - (aL v12).toNat)
 case atStart=>exact⟨0,ab0 _,rfl,rfl,f.o⟩
 case round=>
  obtain⟨k,hk,rfl,i,a⟩:=hrel;clear u;by_cases d:k<t.se.length
  .obtain⟨b,off,rfl,c0,c1,c2⟩:=(v.o.keep a.o).LS d;have j:aH ((t.se.take (k+1)).any (FB lock vX)=FB lock vX t.se[k]):=by
    unfold aH;rw[<-acO d,List.any_append,i.o];simp
   have z:aH (FB lock vX t.se[k]=true->C2 t lock vX=true):=λh=>aeS.2 ⟨_,abY d,h⟩
   have D:(0:Int)<=k:=aQ;have B:(k:Int)<(t.se.length:Int):=aQ;generalize t.se[k]=s at *;by_cases h1:s.lk=lock
   .by_cases m:s.fr<=vX
    .by_cases p:vX<s.iL
     .go_wp2_with fail
      go_ret
      rw[z.o (by simp[FB,h1,m,p])];exact⟨rfl,a.o.alloc a.o.size _⟩
     .go_wp2_with fail
      refine⟨⟨k+1,aQ,rfl,by rw[j.o];simp[FB,p,aH],a.o.alloc a.o.size _⟩,by simp only[aL];omega⟩
    .go_wp2_with fail
     refine⟨⟨k+1,aQ,rfl,by rw[j.o];simp[FB,m,aH],a.o.alloc a.o.size _⟩,by simp only[aL];omega⟩
   .go_wp2_with fail
    refine⟨⟨k+1,aQ,rfl,by rw[j.o];simp[FB,h1,aH],a.o.alloc a.o.size _⟩,by simp only[aL];omega⟩
  .have q:t.se.take k=t.se:=acC aQ;have C:aH (C2 t lock vX=false):=by
    have:=i.o;rw[q] at this;exact this
   have B:¬(k:Int)<(t.se.length:Int):=aQ;clear i q;go_wp2_with fail
   go_ret
   rw[C.o];exact⟨rfl,a.o⟩
end
variable{g n q2 o2:Nat}{x:Lb}{y:La}
section
theorem bU.c(h:bU F w g x y)(i:Nat)(v:aC)(a:(fQ x y)[i]?=some v):w.cell? (g,i)=some v:=h.bk.cell i v a
theorem WU(h:bU F w g x y)(J:IS x n m){o:Nat}{j:Jb}(E:wR w q o j)(I:ZV x n j)(lock:Int):aG prog 127 #[.pointer g, .pointer (some ⟨q,o,none⟩),lock] w λr w'=>r= .returned (.bool (CH x j lock))/\aD w w w':=by
 obtain⟨i,hi⟩:=abW I.t0;have C:i<x.ts.length:=by have:=I.t1;omega
 obtain⟨b,A,c,K,t0,t1,t2,t3,t4,hs⟩:=h.task C;have G:=h.c 0 (.slice y.T y.L.length y.cT) rfl;have c0:=E.c0;have c4:=E.c4;have c7:=E.c7;have c9:=E.c9;rw[hi] at c0;rw[K,h.len] at G;have hl:(iG x i).se.length<=8:=by
  unfold iG;rw[abZ,ab1,abO C];exact(J.tk _ (abY C)).sl
 have D:aH (CH x j lock=(j.bg&&decide (j.rs=0)&&C2 (iG x i) lock j.ra)):=by
  unfold aH CH;rw[hi]
 have i0:(0:Int)<=i:=aQ;have i1:(i:Int)<(x.ts.length:Int):=aQ;have M:aH (∀n:cC w,aG prog 182 #[.agg #[.int .i64 (iG x i).co, .int .i64 (iG x i).pe, .int .i64 (iG x i).de, .slice A (iG x i).se.length c, .int .i64 (iG x i).po],lock,j.ra] n.w λr w'=>r= .returned (.bool (C2 (iG x i) lock j.ra))/\aD n.w.heap.size n.w w'):=λn=>V1 _ A c (hs.keep n.ok) hl lock j.ra
 clear h J E I hs K hi;generalize iG x i=t at *;cases hb:j.bg
 .rw[hb] at c7 D;go_enter func127,ntmps127
  go_upto_region 1 with(fail)
  (have a:=cC.cell G;have d:=cC.cell c0;have e:=cC.cell c4;have f:=cC.cell c7;have k:=cC.cell c9;have l:=cC.cell t0;have p:=cC.cell t1;have s:=cC.cell t2;have u:=cC.cell t3;have v:=cC.cell t4;refine dH aV aV ?_;(repeat (go_big_quiet_step (fail)));refine wpQuiet_nil ?_;clear a d e f k l p s u v;intro w5 z;have B:=cC.below z;clear z)
  go_wp2_with fail
  go_ret
  rw[D.o];exact⟨rfl,B⟩
 .rw[hb] at c7 D;by_cases H:j.rs=0
  .rw[H] at c9;rw[acF H] at D;go_enter func127,ntmps127
   go_upto_region 1 with(fail)
   (have a:=cC.cell G;have d:=cC.cell c0;have e:=cC.cell c4;have f:=cC.cell c7;have k:=cC.cell c9;have l:=cC.cell t0;have p:=cC.cell t1;have s:=cC.cell t2;have u:=cC.cell t3;have v:=cC.cell t4;refine dH aV aV ?_;(repeat (go_big_quiet_step ((go_at_call 182;with_reducible exact iM (M.o _)))));refine wpQuiet_nil ?_;clear a d e f k l p s u v;intro w5 z;have B:=cC.below z;clear z)
   go_wp2_with fail
   go_ret
   rw[D.o];exact⟨rfl,B⟩
  .rw[ab8 H] at D;have N:(j.rs==0)=false:=by simpa using H
   go_enter func127,ntmps127
   go_upto_region 1 with(fail)
   (have a:=cC.cell G;have d:=cC.cell c0;have e:=cC.cell c4;have f:=cC.cell c7;have k:=cC.cell c9;have l:=cC.cell t0;have p:=cC.cell t1;have s:=cC.cell t2;have u:=cC.cell t3;have v:=cC.cell t4;refine dH aV aV ?_;(repeat (go_big_quiet_step (fail)));refine wpQuiet_nil ?_;clear a d e f k l p s u v;intro w5 z;have B:=cC.below z;clear z)
   go_wp2_with fail
   go_ret
   rw[D.o];exact⟨rfl,B⟩
theorem fC(w:aA)(n:Nat):aD w w (w.drewN n):=fL (Below.refl _ _) n
theorem yD(h:bU F w g x y)(v:IS x n m){o:Nat}{a b:Jb}(ha:wR w q o a)(z:ZV x n a)(hb:wR w q2 o2 b)(A:ZV x n b):aG prog 89 #[.pointer g, .pointer (some ⟨q,o,none⟩), .pointer (some ⟨q2,o2,none⟩)] w λr w'=>r= .returned (.bool (pS x a b))/\aD w w w':=by
 obtain⟨i,hi⟩:=abW z.t0;obtain⟨k,hk⟩:=abW A.t0;have B:i<x.rk.length:=by have:=z.t1;rw[v.lr];omega
 have C:k<x.rk.length:=by have:=A.t1;rw[v.lr];omega
 obtain⟨b1,hK,r1⟩:=h.MO B;obtain⟨b2,f,I⟩:=h.MO C;rw[hK] at f;injection f with f;injection f with f;subst f;have J:=h.c 1 (.int .i64 x.od) rfl;have G:=h.c 2 (.slice y.K x.rk.length y.cK) rfl;rw[hK] at G;have a0:=ha.c0;have L:=ha.c1;have a3:=ha.c3;have s:=ha.c8;have z0:=hb.c0;have M:=hb.c1;have z3:=hb.c3;have H:=hb.c8;rw[hi] at a0;rw[hk] at z0;have d:aH (pS x a b=if a.bh !=b.bh then b.bh else if x.od=1/\zR x i≠zR x k then decide (zR x i<zR x k) else if a.de≠b.de then decide (a.de<b.de) else if(i:Int)≠(k:Int) then decide ((i:Int)<(k:Int)) else decide (a.nu<b.nu)):=by
  unfold aH pS;rw[hi,hk]
 have i0:(0:Int)<=i:=aQ;have i1:(i:Int)<(x.rk.length:Int):=aQ;have N:(0:Int)<=k:=aQ;have O:(k:Int)<(x.rk.length:Int):=aQ;clear h v ha z hb A hK hi hk;generalize zR x i=t at *;generalize zR x k=rk at *;by_cases h1:a.bh=b.bh
 .have n1:(a.bh !=b.bh)=false:=by rw[h1];simp
  rw[n1] at d;simp only[acJ,acI] at d;rw[h1] at s n1;by_cases j:x.od=1/\t≠rk
  .rw[abS j] at d;obtain⟨j,D⟩:=j;go_enter func89,ntmps89
   go_upto_region 1 with(fail)
   go_quiet (fail)
   go_upto_region 3 with(fail)
   go_quiet (fail)
   go_upto_region 4 with(fail)
   go_quiet (fail)
   go_wp2_with fail
   go_ret
   rw[d.o];exact⟨aT,fC _ _⟩
  .rw[abT j] at d;have u:aH (¬(x.od=1/\t≠rk)):=j;clear j;by_cases D:x.od=1
   .have P:t=rk:=by
     by_cases e:t=rk
     .exact e
     .exact absurd ⟨D,e⟩ u.o
    by_cases l:a.de=b.de
    .rw[abT (by simpa using l)] at d;by_cases p:(i:Int)=(k:Int)
     .rw[abT (by simpa using p)] at d;go_enter func89,ntmps89
      go_upto_region 1 with(fail)
      go_quiet (fail)
      go_upto_region 3 with(fail)
      go_quiet (fail)
      go_upto_region 5 with(fail)
      go_quiet (fail)
      go_upto_region 7 with(fail)
      go_quiet (fail)
      go_upto_region 9 with(fail)
      go_quiet (fail)
      go_wp2_with fail
      go_ret
      rw[d.o];exact⟨aT,fC _ _⟩
     .rw[abS p] at d;go_enter func89,ntmps89
      go_upto_region 1 with(fail)
      go_quiet (fail)
      go_upto_region 3 with(fail)
      go_quiet (fail)
      go_upto_region 5 with(fail)
      go_quiet (fail)
      go_upto_region 7 with(fail)
      go_quiet (fail)
      go_upto_region 8 with(fail)
      go_quiet (fail)
      go_wp2_with fail
      go_ret
      rw[d.o];exact⟨aT,fC _ _⟩
    .rw[abS l] at d;go_enter func89,ntmps89
     go_upto_region 1 with(fail)
     go_quiet (fail)
     go_upto_region 3 with(fail)
     go_quiet (fail)
     go_upto_region 5 with(fail)
     go_quiet (fail)
     go_upto_region 6 with(fail)
     go_quiet (fail)
     go_wp2_with fail
     go_ret
     rw[d.o];exact⟨aT,fC _ _⟩
   .skip
    by_cases l:a.de=b.de
    .rw[abT (by simpa using l)] at d;by_cases p:(i:Int)=(k:Int)
     .rw[abT (by simpa using p)] at d;go_enter func89,ntmps89
      go_upto_region 1 with(fail)
      go_quiet (fail)
      go_upto_region 3 with(fail)
      go_quiet (fail)
      go_upto_region 5 with(fail)
      go_quiet (fail)
      go_upto_region 7 with(fail)
      go_quiet (fail)
      go_upto_region 9 with(fail)
      go_quiet (fail)
      go_wp2_with fail
      go_ret
      rw[d.o];exact⟨aT,fC _ _⟩
     .rw[abS p] at d;go_enter func89,ntmps89
      go_upto_region 1 with(fail)
      go_quiet (fail)
      go_upto_region 3 with(fail)
      go_quiet (fail)
      go_upto_region 5 with(fail)
      go_quiet (fail)
      go_upto_region 7 with(fail)
      go_quiet (fail)
      go_upto_region 8 with(fail)
      go_quiet (fail)
      go_wp2_with fail
      go_ret
      rw[d.o];exact⟨aT,fC _ _⟩
    .rw[abS l] at d;go_enter func89,ntmps89
     go_upto_region 1 with(fail)
     go_quiet (fail)
     go_upto_region 3 with(fail)
     go_quiet (fail)
     go_upto_region 5 with(fail)
     go_quiet (fail)
     go_upto_region 6 with(fail)
     go_quiet (fail)
     go_wp2_with fail
     go_ret
     rw[d.o];exact⟨aT,fC _ _⟩
 .have n1:(a.bh !=b.bh)=true:=by simpa using h1
  rw[n1] at d;simp only[ac2] at d;have u:a.bh=!b.bh:=by
   cases Q:a.bh <;> cases E:b.bh <;> simp_all
  rw[u] at s;clear h1 n1 u;cases E:b.bh
  all_goals
   rw[E] at s H d;simp only[Bool.not_false,Bool.not_true] at s;go_enter func89,ntmps89
   go_upto_region 1 with(fail)
   go_quiet (fail)
   go_wp2_with fail
   go_ret
   rw[d.o];exact⟨rfl,fC _ _⟩
end
section
theorem JV(n:Nat)(p:Nat->Bool):(List.range (n+1)).all p=((List.range n).all p&&p n):=by
 rw[ad6,List.all_append];simp
theorem Em(x:Lb)(W:aA):∀(l:Nat),l<8->(Instr.index 62 (.agg #[.int .i64 (x.ce 0), .int .i64 (x.ce 1), .int .i64 (x.ce 2), .int .i64 (x.ce 3), .int .i64 (x.ce 4), .int .i64 (x.ce 5), .int .i64 (x.ce 6), .int .i64 (x.ce 7)]) (.int .i64 l)).run prog W= .ok (.int .i64 (x.ce l)) W:=λl hl=>by
 match l,hl with
 |0,_=>
  show(Instr.index 62 (.agg #[.int .i64 (x.ce 0), .int .i64 (x.ce 1), .int .i64 (x.ce 2), .int .i64 (x.ce 3), .int .i64 (x.ce 4), .int .i64 (x.ce 5), .int .i64 (x.ce 6), .int .i64 (x.ce 7)]) (.int .i64 ((0:Nat):Int))).run prog W= .ok (.int .i64 (x.ce 0)) W;kernel_rfl
 |1,_=>
  show(Instr.index 62 (.agg #[.int .i64 (x.ce 0), .int .i64 (x.ce 1), .int .i64 (x.ce 2), .int .i64 (x.ce 3), .int .i64 (x.ce 4), .int .i64 (x.ce 5), .int .i64 (x.ce 6), .int .i64 (x.ce 7)]) (.int .i64 ((1:Nat):Int))).run prog W= .ok (.int .i64 (x.ce 1)) W;kernel_rfl
 |2,_=>
  show(Instr.index 62 (.agg #[.int .i64 (x.ce 0), .int .i64 (x.ce 1), .int .i64 (x.ce 2), .int .i64 (x.ce 3), .int .i64 (x.ce 4), .int .i64 (x.ce 5), .int .i64 (x.ce 6), .int .i64 (x.ce 7)]) (.int .i64 ((2:Nat):Int))).run prog W= .ok (.int .i64 (x.ce 2)) W;kernel_rfl
 |3,_=>
  show(Instr.index 62 (.agg #[.int .i64 (x.ce 0), .int .i64 (x.ce 1), .int .i64 (x.ce 2), .int .i64 (x.ce 3), .int .i64 (x.ce 4), .int .i64 (x.ce 5), .int .i64 (x.ce 6), .int .i64 (x.ce 7)]) (.int .i64 ((3:Nat):Int))).run prog W= .ok (.int .i64 (x.ce 3)) W;kernel_rfl
 |4,_=>
  show(Instr.index 62 (.agg #[.int .i64 (x.ce 0), .int .i64 (x.ce 1), .int .i64 (x.ce 2), .int .i64 (x.ce 3), .int .i64 (x.ce 4), .int .i64 (x.ce 5), .int .i64 (x.ce 6), .int .i64 (x.ce 7)]) (.int .i64 ((4:Nat):Int))).run prog W= .ok (.int .i64 (x.ce 4)) W;kernel_rfl
 |5,_=>
  show(Instr.index 62 (.agg #[.int .i64 (x.ce 0), .int .i64 (x.ce 1), .int .i64 (x.ce 2), .int .i64 (x.ce 3), .int .i64 (x.ce 4), .int .i64 (x.ce 5), .int .i64 (x.ce 6), .int .i64 (x.ce 7)]) (.int .i64 ((5:Nat):Int))).run prog W= .ok (.int .i64 (x.ce 5)) W;kernel_rfl
 |6,_=>
  show(Instr.index 62 (.agg #[.int .i64 (x.ce 0), .int .i64 (x.ce 1), .int .i64 (x.ce 2), .int .i64 (x.ce 3), .int .i64 (x.ce 4), .int .i64 (x.ce 5), .int .i64 (x.ce 6), .int .i64 (x.ce 7)]) (.int .i64 ((6:Nat):Int))).run prog W= .ok (.int .i64 (x.ce 6)) W;kernel_rfl
 |7,_=>
  show(Instr.index 62 (.agg #[.int .i64 (x.ce 0), .int .i64 (x.ce 1), .int .i64 (x.ce 2), .int .i64 (x.ce 3), .int .i64 (x.ce 4), .int .i64 (x.ce 5), .int .i64 (x.ce 6), .int .i64 (x.ce 7)]) (.int .i64 ((7:Nat):Int))).run prog W= .ok (.int .i64 (x.ce 7)) W;kernel_rfl
theorem Gq(h:bU F w g x y)(D:IS x n m)(hn:n<=1000000){p:Nat}(hp:p<x.jb.length):aG prog 90 #[.pointer g,p] w λr w'=>r= .returned (.bool (I6 x p))/\aD w w w':=by
 have R:=D.l7 hp;obtain⟨i,hi⟩:=abW R.t0;have S:i<x.rk.length:=by have:=R.t1;rw[D.lr];omega
 obtain⟨b1,hK,r1⟩:=h.MO S;obtain⟨q,hq,hc⟩:=h.l7 hp;have e2:=h.c 2 (.slice y.K x.rk.length y.cK) rfl;have t:=h.c 15 (.slice y.J x.jb.length y.cJ) rfl;rw[hK] at e2;rw[hq] at t;have c0:=hc.c0;rw[hi] at c0;have hr:aH (zR x (dT x p).tk=zR x i):=by unfold aH;rw[hi]
 have i0:(0:Int)<=i:=aQ;have i1:(i:Int)<(x.rk.length:Int):=aQ;have p0:(0:Int)<=p:=aQ;have p1:(p:Int)<(x.jb.length:Int):=aQ;have Q:=aP h;have HI:=aP D;have HQ:=aP hq;have hjl:=D.jl;clear R hi hc hK hq h D;generalize zR x i=r at *;go_enter func90,ntmps90
 go_upto_region 1 with(fail)
 go_quiet (fail)
 go_wp2_with fail
 have T:aH (aD w w (w.drewN nq)):=fC _ _;generalize w.drewN nq=w1 at *;go_loopw [29] (λu wr=>∃k:Nat,k<=x.jb.length/\u= .int .i64 k/\aH ((List.range k).all (EE x p)=true)/\aH (aD w w wr)) (λu _=>x.jb.length - (aL u).toNat)
 case atStart=>exact⟨0,ab0 _,rfl,rfl,T.o⟩
 case round=>
  obtain⟨k,hk,rfl,U,s⟩:=hrel;by_cases v:k<x.jb.length
  .have j1:(k:Int)<(x.jb.length:Int):=aQ;have j0:(0:Int)<=k:=aQ;by_cases E:k=p
   .subst E;have V:aH ((List.range (k+1)).all (EE x k)=true):=by unfold aH;rw[JV,U.o];simp[EE]
    go_wp2_with fail
    refine⟨⟨k+1,aQ,rfl,V.o,s.o⟩,by simp only[aL];omega⟩
   .have hkp':¬(k:Int)=(p:Int):=aQ;obtain⟨q',d,G⟩:=(Q.o.below s.o).l7 v;have H:=aP G;have X:=aP (HI.o.l7 v);rw[HQ.o] at d;injection d with d;injection d with d;subst d;have HM:aH (EE x p k=(List.range 8).all (MC x r (dT x k))):=by unfold aH EE;rw[hr.o];simp[E]
    have a:=Q.o.below s.o;have E0:wr.cell? (g,3)=some (.int .i64 (x.ce 0)):=a.c 3 _ rfl;have E1:wr.cell? (g,4)=some (.int .i64 (x.ce 1)):=a.c 4 _ rfl;have E2:wr.cell? (g,5)=some (.int .i64 (x.ce 2)):=a.c 5 _ rfl;have E3:wr.cell? (g,6)=some (.int .i64 (x.ce 3)):=a.c 6 _ rfl;have E4:wr.cell? (g,7)=some (.int .i64 (x.ce 4)):=a.c 7 _ rfl;have E5:wr.cell? (g,8)=some (.int .i64 (x.ce 5)):=a.c 8 _ rfl;have E6:wr.cell? (g,9)=some (.int .i64 (x.ce 6)):=a.c 9 _ rfl;have E7:wr.cell? (g,10)=some (.int .i64 (x.ce 7)):=a.c 10 _ rfl;have HG:=aP a;clear a e2 t c0;go_upto_region 6 with(fail)
    go_wp2_with fail
    obtain⟨B,I⟩:∃z,z=wr:=⟨_,rfl⟩
    rw[<-I] at H s HG E0 E1 E2 E3 E4 E5 E6 E7⊢;clear I G wr;go_loopw [39] (λv39 ws=>∃l:Nat,l<=8/\v39= .int .i64 l/\aH ((List.range l).all (MC x r (dT x k))=true)/\aH (aD B B ws)) (λv39 _=>8 - (aL v39).toNat)
    case atStart=>exact⟨0,ab0 _,rfl,rfl,Below.refl _ _⟩
    case round=>
     clear E0 E1 E2 E3 E4 E5 E6 E7;obtain⟨l,hl,rfl,L,b⟩:=hrel;by_cases M:l<8
     .have l1:(l:Int)<8:=aQ;have N:=λW=>Em x W l M
      have f:aH (aD w w wr/\aD B B wr):=⟨s.o.trans (b.o.mono s.o.size),b.o⟩
      have O:aH ((List.range (l+1)).all (MC x r (dT x k))=MC x r (dT x k) l):=by unfold aH;rw[JV,L.o];simp
      have HD:aH (MC x r (dT x k) l=!(decide (x.ce l<=r)&&CH x (dT x k) l)):=rfl;by_cases P:x.ce l<=r
      .have C:=aP (WU (Q.o.below f.o.1) HI.o (H.o.keep b.o) X.o l);have t:wr.cell? (g,15)=some (.slice q x.jb.length y.cJ):=by
        have:=(Q.o.below f.o.1).c 15 (.slice y.J x.jb.length y.cJ) rfl;rw[HQ.o] at this;exact this
       rw[acF P] at HD;generalize x.ce l=cl at *;cases hh:CH x (dT x k) l
       .rw[hh] at C HD;go_wp2_with fail
        refine aR C ?_;rintro e Y ⟨rfl,j⟩;have A:aH (aD B B Y):=b.o.trans (j.mono b.o.size);clear j C N;go_wp2_with fail
        refine⟨⟨l+1,aQ,rfl,by rw[O.o,HD.o];rfl,A.o⟩,by simp only[aL];omega⟩
       .rw[hh] at C HD;have Z:aH (I6 x p=false):=by
         have h1:EE x p k=false:=by
          rw[HM.o,List.all_eq_false];exact⟨l,ac8.2 M,by rw[HD.o];simp⟩
         unfold aH I6;rw[List.all_eq_false];exact⟨k,ac8.2 v,by rw[h1];simp⟩
        go_wp2_with fail
        refine aR C ?_;rintro e Y ⟨rfl,j⟩;have A:aH (aD w w Y):=f.o.1.trans (j.mono f.o.1.size);clear j C N;go_wp2_with fail
        go_ret
        rw[Z.o];exact⟨rfl,A.o⟩
      .rw[ab8 P] at HD;generalize x.ce l=cl at *;go_wp2_with fail
       refine⟨⟨l+1,aQ,rfl,by rw[O.o,HD.o];rfl,b.o⟩,by simp only[aL];omega⟩
     .have l1:¬(l:Int)<8:=aQ;have a1:l=8:=aQ;have V:aH ((List.range (k+1)).all (EE x p)=true):=by
       unfold aH;rw[JV,U.o,HM.o,<-a1,L.o];rfl
      have f:aH (aD w w wr):=s.o.trans (b.o.mono s.o.size);go_wp2_with fail
      refine⟨⟨k+1,aQ,rfl,V.o,f.o⟩,by simp only[aL];omega⟩
  .have j1:¬(k:Int)<(x.jb.length:Int):=aQ;have a6:k=x.jb.length:=aQ;have Z:aH (I6 x p=true):=by have:=U.o;rw[a6] at this;exact this
   go_wp2_with fail
   go_ret
   rw[Z.o];exact⟨rfl,s.o⟩
end
section
def uH:Option Nat->Int
 |none=> -1
 |some f=>f
theorem JT(x:Lb):∀k,(∀f,(fW x k).1=some f->f<k)/\(∀f,(fW x k).2=some f->f<k)
 |0=>⟨λf h=>by simp[fW] at h,λf h=>by simp[fW] at h⟩
 |k+1=>by
  have a:=JT x k;unfold fW;split
  .exact⟨λf h=>afY (a.1 f h),λf h=>afY (a.2 f h)⟩
  .refine⟨λf h=>?_,λf h=>?_⟩
   .simp only at h;split at h
    .injection h with h;omega
    .exact afY (a.1 f h)
   .simp only at h;split at h
    .injection h with h;omega
    .exact afY (a.2 f h)
theorem NN(h:bU F w g x y)(hI:IS x n m)(hn:n<=1000000):aG prog 58 #[.pointer g] w λr w'=>r= .returned (.int .i64 (uH (nB x)))/\aD w w w':=by
 have B:=h.c 15 (.slice y.J x.jb.length y.cJ) rfl;have u:=aP h;have K:=aP hI;have hjl:=hI.jl;clear h hI;go_enter func58,ntmps58
 go_wp2_with fail
 go_loopw [14,3,4] (λO v3 v4 wr=>∃k:Nat,k<=x.jb.length/\O= .int .i64 k/\(∃o1 o2:Option Nat,v3= .int .i64 (uH o1)/\v4= .int .i64 (uH o2)/\aH ((fW x k).1=o1/\(fW x k).2=o2))/\aH (aD w w wr)) (λO v3 v4 _=>x.jb.length - (aL O).toNat)
 case atStart=>exact⟨0,ab0 _,rfl,⟨none,none,rfl,rfl,rfl,rfl⟩,Below.refl _ _⟩
 case round=>
  obtain⟨k,hk,rfl,⟨o1,o2,rfl,rfl,L⟩,D⟩:=hrel;clear B;by_cases E:k<x.jb.length
  .have j1:(k:Int)<(x.jb.length:Int):=aQ;have j0:(0:Int)<=k:=aQ;obtain⟨q,hq,hc⟩:=(u.o.below D.o).l7 E;have N:=aP hc;have HQ:=aP hq;have Y:=aP (K.o.l7 E);have B:=(u.o.below D.o).c 15 (.slice y.J x.jb.length y.cJ) rfl;have e11:=(u.o.below D.o).c 11 (.int .i64 x.nw) rfl;rw[hq] at B;have c2:=hc.c2;have c7:=hc.c7;have Z:=aP (JT x k);clear hc hq;by_cases R:x.nw<(dT x k).ca
   .have l:aH ((fW x (k+1)).1=o1/\(fW x (k+1)).2=o2):=by
     have:fW x (k+1)=fW x k:=by rw[fW,abS R]
     unfold aH;rw[this];exact L.o
    generalize (dT x k).ca=ca at *;go_upto_region 8 with(fail)
    go_quiet (fail)
    go_wp2_with fail
    refine⟨⟨k+1,aQ,rfl,⟨o1,o2,rfl,rfl,l.o⟩,fL D.o _⟩,by simp only[aL];omega⟩
   .have l:aH ((fW x (k+1)).1=(if zY x o1 k then some k else o1)/\(fW x (k+1)).2=(if(dT x k).bg&&zY x o2 k then some k else o2)):=by
     have:fW x (k+1)=(if zY x (fW x k).1 k then some k else(fW x k).1,if(dT x k).bg&&zY x (fW x k).2 k then some k else(fW x k).2):=by rw[fW,abT R]
     unfold aH;rw[this,L.o.1,L.o.2];exact⟨rfl,rfl⟩
    generalize (dT x k).ca=ca at *;go_upto_region 8 with(fail)
    go_quiet (fail)
    have j:aH (aD w w (wr.drewN nq)/\aD wr wr (wr.drewN nq)):=⟨fL D.o _,fC _ _⟩
    have P:(wr.drewN nq).cell? (g,15)=some (.slice q x.jb.length y.cJ):=B;clear D B e11 c2 c7;generalize hwz:wr.drewN nq=wz at *;cases o1 with
    |none=>
     have HF:aH (zY x none k=true):=rfl;rw[HF.o] at l;rw[show uH none= -1 from rfl];go_upto_region 11 with(fail)
     have d:aH (aD w w wz):=j.o.1;have s:aH (aD wr wr wz):=j.o.2;obtain⟨M,S⟩:∃z,z=wz:=⟨_,rfl⟩
     rw[<-S] at d s⊢;clear S P;have p:aH (wR M q (k *11) (dT x k)):=N.o.keep s.o;have d15:=(u.o.below d.o).c 15 (.slice y.J x.jb.length y.cJ) rfl;rw[HQ.o] at d15;have d7:=p.o.c7;cases G:(dT x k).bg
     .rw[G] at d7 l;go_wp2_with fail
      refine⟨⟨k+1,aQ,rfl,⟨some k,o2,rfl,rfl,l.o⟩,d.o⟩,by simp only[aL];omega⟩
     .rw[G] at d7 l;cases o2 with
      |none=>
       rw[show uH none= -1 from rfl] at *;go_wp2_with fail
       refine⟨⟨k+1,aQ,rfl,⟨some k,some k,rfl,rfl,l.o⟩,d.o⟩,by simp only[aL];omega⟩
      |some b=>
       have hb:=Nat.lt_trans (Z.o.2 b L.o.2) E;have b0:(0:Int)<=b:=aQ;have b1:(b:Int)<(x.jb.length:Int):=aQ;obtain⟨q',a,v⟩:=(u.o.below d.o).l7 hb;rw[HQ.o] at a;injection a with a;injection a with a;subst a;have t:=aP (yD (u.o.below d.o) K.o p.o Y.o v (K.o.l7 hb));have C:aH (zY x (some b) k=pS x (dT x k) (dT x b)):=rfl;rw[C.o] at l;clear v hb;have H:aH (uH (some b)=(b:Int)):=rfl;rw[H.o];cases I:pS x (dT x k) (dT x b)
       all_goals
        rw[I] at t l;go_wp2_with fail
        refine aR t ?_;rintro e T ⟨rfl,i⟩;have A:aH (aD w w T):=d.o.trans (i.mono d.o.size);clear i t s p d7 d15;go_wp2_with fail
        first
         |exact⟨⟨k+1,aQ,rfl,⟨some k,some b,rfl,rfl,l.o⟩,A.o⟩,by simp only[aL];omega⟩
         |exact⟨⟨k+1,aQ,rfl,⟨some k,some k,rfl,rfl,l.o⟩,A.o⟩,by simp only[aL];omega⟩
    |some f=>
     have hf:=Nat.lt_trans (Z.o.1 f L.o.1) E;have f0:(0:Int)<=f:=aQ;have f1:(f:Int)<(x.jb.length:Int):=aQ;obtain⟨q',a,U⟩:=(u.o.below j.o.1).l7 hf;rw[HQ.o] at a;injection a with a;injection a with a;subst a;have t:=aP (yD (u.o.below j.o.1) K.o (N.o.keep j.o.2) Y.o U (K.o.l7 hf));have C:aH (zY x (some f) k=pS x (dT x k) (dT x f)):=rfl;rw[C.o] at l;have HQf:aH (uH (some f)=(f:Int)):=rfl;rw[HQf.o];clear U hf;cases V:pS x (dT x k) (dT x f)
     .rw[V] at t l;go_wp2_with fail
      refine aR t ?_;rintro e M ⟨rfl,i⟩;have d:aH (aD w w M):=j.o.1.trans (i.mono j.o.1.size);have s:aH (aD wr wr M):=j.o.2.trans (i.mono j.o.2.size);clear i t j P;go_upto_region 11 with(fail)
      have p:aH (wR M q (k *11) (dT x k)):=N.o.keep s.o;have d15:=(u.o.below d.o).c 15 (.slice y.J x.jb.length y.cJ) rfl;rw[HQ.o] at d15;have d7:=p.o.c7;cases G:(dT x k).bg
      .rw[G] at d7 l;go_wp2_with fail
       refine⟨⟨k+1,aQ,rfl,⟨some f,o2,rfl,rfl,l.o⟩,d.o⟩,by simp only[aL];omega⟩
      .rw[G] at d7 l;cases o2 with
       |none=>
        rw[show uH none= -1 from rfl] at *;go_wp2_with fail
        refine⟨⟨k+1,aQ,rfl,⟨some f,some k,rfl,rfl,l.o⟩,d.o⟩,by simp only[aL];omega⟩
       |some b=>
        have hb:=Nat.lt_trans (Z.o.2 b L.o.2) E;have b0:(0:Int)<=b:=aQ;have b1:(b:Int)<(x.jb.length:Int):=aQ;obtain⟨q',a,v⟩:=(u.o.below d.o).l7 hb;rw[HQ.o] at a;injection a with a;injection a with a;subst a;have t:=aP (yD (u.o.below d.o) K.o p.o Y.o v (K.o.l7 hb));have C:aH (zY x (some b) k=pS x (dT x k) (dT x b)):=rfl;rw[C.o] at l;clear v hb;have H:aH (uH (some b)=(b:Int)):=rfl;rw[H.o];cases I:pS x (dT x k) (dT x b)
        all_goals
         rw[I] at t l;go_wp2_with fail
         refine aR t ?_;rintro e T ⟨rfl,i⟩;have A:aH (aD w w T):=d.o.trans (i.mono d.o.size);clear i t s p d7 d15;go_wp2_with fail
         first
          |exact⟨⟨k+1,aQ,rfl,⟨some f,some b,rfl,rfl,l.o⟩,A.o⟩,by simp only[aL];omega⟩
          |exact⟨⟨k+1,aQ,rfl,⟨some f,some k,rfl,rfl,l.o⟩,A.o⟩,by simp only[aL];omega⟩
     .rw[V] at t l;go_wp2_with fail
      refine aR t ?_;rintro e M ⟨rfl,i⟩;have d:aH (aD w w M):=j.o.1.trans (i.mono j.o.1.size);have s:aH (aD wr wr M):=j.o.2.trans (i.mono j.o.2.size);clear i t j P;go_upto_region 11 with(fail)
      have p:aH (wR M q (k *11) (dT x k)):=N.o.keep s.o;have d15:=(u.o.below d.o).c 15 (.slice y.J x.jb.length y.cJ) rfl;rw[HQ.o] at d15;have d7:=p.o.c7;cases G:(dT x k).bg
      .rw[G] at d7 l;go_wp2_with fail
       refine⟨⟨k+1,aQ,rfl,⟨some k,o2,rfl,rfl,l.o⟩,d.o⟩,by simp only[aL];omega⟩
      .rw[G] at d7 l;cases o2 with
       |none=>
        rw[show uH none= -1 from rfl] at *;go_wp2_with fail
        refine⟨⟨k+1,aQ,rfl,⟨some k,some k,rfl,rfl,l.o⟩,d.o⟩,by simp only[aL];omega⟩
       |some b=>
        have hb:=Nat.lt_trans (Z.o.2 b L.o.2) E;have b0:(0:Int)<=b:=aQ;have b1:(b:Int)<(x.jb.length:Int):=aQ;obtain⟨q',a,v⟩:=(u.o.below d.o).l7 hb;rw[HQ.o] at a;injection a with a;injection a with a;subst a;have t:=aP (yD (u.o.below d.o) K.o p.o Y.o v (K.o.l7 hb));have C:aH (zY x (some b) k=pS x (dT x k) (dT x b)):=rfl;rw[C.o] at l;clear v hb;have H:aH (uH (some b)=(b:Int)):=rfl;rw[H.o];cases I:pS x (dT x k) (dT x b)
        all_goals
         rw[I] at t l;go_wp2_with fail
         refine aR t ?_;rintro e T ⟨rfl,i⟩;have A:aH (aD w w T):=d.o.trans (i.mono d.o.size);clear i t s p d7 d15;go_wp2_with fail
         first
          |exact⟨⟨k+1,aQ,rfl,⟨some k,some b,rfl,rfl,l.o⟩,A.o⟩,by simp only[aL];omega⟩
          |exact⟨⟨k+1,aQ,rfl,⟨some k,some k,rfl,rfl,l.o⟩,A.o⟩,by simp only[aL];omega⟩
  .have j1:¬(k:Int)<(x.jb.length:Int):=aQ;have W:k=x.jb.length:=aQ;have HN:aH ((fW x x.jb.length).1=o1/\(fW x x.jb.length).2=o2):=by rw[<-W];exact L.o
   clear L;cases o1 with
   |none=>
    have Q:aH (nB x=none):=by unfold aH nB;rw[HN.o.1]
    rw[show uH none= -1 from rfl];go_wp2_with fail
    go_ret
    rw[Q.o];exact⟨rfl,D.o⟩
   |some f=>
    have hf:=(JT x x.jb.length).1 f HN.o.1;obtain⟨q,hq,hc⟩:=(u.o.below D.o).l7 hf;have B:=(u.o.below D.o).c 15 (.slice y.J x.jb.length y.cJ) rfl;rw[hq] at B;have c7:=hc.c7;have Q:aH (nB x=if(dT x f).bg || I6 x f then some f else o2):=by unfold aH nB;rw[HN.o.1,HN.o.2]
    have N:=aP (Gq (u.o.below D.o) K.o hn hf);have f0:(0:Int)<=f:=aQ;have f1:(f:Int)<(x.jb.length:Int):=aQ;rw[show uH (some f)=(f:Int) from rfl];clear hc hq W;cases G:(dT x f).bg
    .rw[G] at c7 Q;cases hm:I6 x f
     all_goals
      rw[hm] at N Q;go_wp2_with fail
      refine aR N ?_;rintro e w4 ⟨rfl,X⟩;have HB4:aH (aD w w w4):=D.o.trans (X.mono D.o.size);clear X N;go_wp2_with fail
      go_ret
      rw[Q.o];exact⟨rfl,HB4.o⟩
    .rw[G] at c7 Q;go_wp2_with fail
     go_ret
     rw[Q.o];exact⟨rfl,D.o⟩
theorem XT(h:bU F w g x y)(c:IS x n m)(d:n<=1000000):aG prog 44 #[.pointer g] w λr w'=>r= .returned (.bool (nB x).isSome)/\aD w w w':=by
 have b:=aP (NN h c d);have i:aH (∀o:Option Nat,decide (0<=uH o)=o.isSome):=λo=>by
  cases o with
  |none=>rfl
  |some f=>simp[uH]
 clear h;generalize nB x=o at *;go_enter func44,ntmps44
 go_wp2_with fail
 refine aR b ?_;rintro e k ⟨rfl,a⟩;have j:=aP a;clear a b;go_wp2_with fail
 go_ret
 exact⟨by rw[i.o];rfl,j.o⟩
end
end
variable{n K K' i b m:Nat}{x:Lb}{sb nb:Nat->Nat}
section
section
structure Ay(t:Tk):Prop where
 co:1<=t.co/\t.co<=1048576
 pe:1<=t.pe/\t.pe<=1048576
 de:1<=t.de/\t.de<=1048576
 po:0<=t.po/\t.po<=2
 se:t.se.length<=8
structure AK(n K:Nat)(nw:Int)(j:Jb):Prop where
 tk:0<=j.tk/\j.tk<n
 nu:0<=j.nu/\j.nu<=K
 ca:0<=j.ca/\j.ca<=1048576 *((K:Int)+2)
 de:0<=j.de/\j.de<=1048576 *((K:Int)+3)
 ra:0<=j.ra/\j.ra<=nw
 lf:0<=j.lf/\j.lf<=1048576
 bh:j.bh=false->1<=j.lf
 rs:0<=j.rs/\j.rs<=K
structure eJ(x:Lb)(sb nb:Nat->Nat)(K m e:Nat):Prop where
 n:x.ts.length<=8
 lr:x.rk.length=x.ts.length
 ls:x.sh.length=x.ts.length
 ln:x.nu.length=x.ts.length
 lw:x.wt.length=x.ts.length
 nw:0<=x.nw/\x.nw<=1048576
 tk:∀t∈x.ts,Ay t
 sk:∀(i:Nat) (s:jJ),x.sh[i]?=some s->mD s (sb i)
 nk:∀(i:Nat) (v:Int),x.nu[i]?=some v->0<=v/\v<=nb i
 jk:∀j∈x.jb,AK x.ts.length K x.nw j
 jl:x.jb.length<=m
 lg:x.lg.length<=e
def kX(x:Lb)(k:Nat):Prop:=eJ x (λ_=>k) (λ_=>k) k (8 *k) (1000000 *k)
theorem AK.mono{nw nw':Int}{j:Jb}(h:AK n K nw j)(hK:K<=K')(hw:nw<=nw'):AK n K' nw' j:=
 ⟨h.tk,by have:=h.nu;omega,by have:=h.ca;omega,by have:=h.de;omega,by have:=h.ra;omega,h.lf,h.bh,by have:=h.rs;omega⟩
theorem mD.mono{s:jJ}{k k':Nat}(h:mD s k)(hk:k<=k'):mD s k':=
 ⟨h.p0,h.p1,h.n0,by have:=h.n1;omega,h.c0,by have:=h.c1;omega,h.r0,by have:=h.r1;omega⟩
section
variable{x:Lb}{sb sb' nb nb':Nat->Nat}{K K' m m' e e':Nat}
theorem eJ.mono(h:eJ x sb nb K m e)(h1:∀i,sb i<=sb' i)(a:∀i,nb i<=nb' i)(b:K<=K')(f:m<=m')(g:e<=e'):eJ x sb' nb' K' m' e':=
 ⟨h.n,h.lr,h.ls,h.ln,h.lw,h.nw,h.tk,λi s hs=>(h.sk i s hs).mono (h1 i),λi v c=>by have:=h.nk i v c;have:=a i;omega,λj d=>(h.jk j d).mono b (adO _),by have:=h.jl;omega,by have:=h.lg;omega⟩
theorem eJ.task(h:eJ x sb nb K m e)(hi:i<x.ts.length):iG x i=x.ts[i]/\Ay (iG x i):=by
 have a:iG x i=x.ts[i]:=by unfold iG;rw[abZ,ab1,abO hi];rfl
 exact⟨a,by rw[a];exact h.tk _ (abY hi)⟩
theorem eJ.rA(h:eJ x sb nb K m e)(hi:i<x.ts.length):∃hs:i<x.sh.length,jQ x i=x.sh[i]/\mD (jQ x i) (sb i):=by
 have hs:i<x.sh.length:=by rw[h.ls];exact hi
 have a:jQ x i=x.sh[i]:=by unfold jQ;rw[abZ,ab1,abO hs];rfl
 exact⟨hs,a,by rw[a];exact h.sk i _ (abO hs)⟩
theorem eJ.num(h:eJ x sb nb K m e)(hi:i<x.ts.length):∃hs:i<x.nu.length,x.nu.getD i 0=x.nu[i]/\0<=x.nu.getD i 0/\x.nu.getD i 0<=nb i:=by
 have hs:i<x.nu.length:=by rw[h.ln];exact hi
 have a:x.nu.getD i 0=x.nu[i]:=by rw[ab1,abO hs];rfl
 exact⟨hs,a,by rw[a];exact h.nk i _ (abO hs)⟩
theorem eJ.l7(h:eJ x sb nb K m e)(hi:i<x.jb.length):dT x i=x.jb[i]/\AK x.ts.length K x.nw (dT x i):=by
 have a:dT x i=x.jb[i]:=by unfold dT;rw[ab1,abO hi];rfl
 exact⟨a,by rw[a];exact h.jk _ (abY hi)⟩
theorem eJ.note(h:eJ x sb nb K m e)(kd:Int)(j:Jb):eJ (iY x kd j) sb nb K m (e+1):=
 ⟨h.n,h.lr,h.ls,h.ln,h.lw,h.nw,h.tk,h.sk,h.nk,h.jk,h.jl,by have:=h.lg;simp[iY];omega⟩
theorem eJ.FK(h:eJ x sb nb K m e)(i:Nat){j:Jb}(b:AK x.ts.length K x.nw j):eJ (cO x i j) sb nb K m e:=by
 refine⟨h.n,h.lr,h.ls,h.ln,h.lw,h.nw,h.tk,h.sk,h.nk,λy a=>?_,by simpa[cO] using h.jl,h.lg⟩;rcases acW a with a|rfl
 .exact h.jk y a
 .exact b
theorem eJ.DJ(h:eJ x sb nb K m e)(i:Nat){s:jJ}(hs:mD s b):eJ (dZ x i s) (λj=>if j=i then b else sb j) nb K m e:=by
 refine⟨h.n,h.lr,by simpa[dZ] using h.ls,h.ln,h.lw,h.nw,h.tk,λj s' a=>?_,h.nk,h.jk,h.jl,h.lg⟩;simp only[dZ,abZ] at a;rw[acZ] at a;split at a
 .rename_i c;subst c;split at a
  .injection a with a;subst a;simpa using hs
  .cases a
 .rename_i c;simp only[abT (λd=>c (Eq.symm d))];exact h.sk j s' a
theorem eJ.Yr(h:eJ x sb nb K m e)(i:Nat)(d:Int):eJ {x with wt:=x.wt.set i d} sb nb K m e:=
 ⟨h.n,h.lr,h.ls,h.ln,by simpa using h.lw,h.nw,h.tk,h.sk,h.nk,h.jk,h.jl,h.lg⟩
theorem eJ.comes(h:eJ x sb nb K m e)(hi:i<x.ts.length)(d:Int)(hK:nb i+1<=K):eJ (sV x i d) sb (λj=>if j=i then nb i+1 else nb j) K (m+1) (e+1):=by
 obtain⟨hs,o,n0,n1⟩:=h.num hi;obtain⟨_,f⟩:=h.task hi;have g:AK x.ts.length K x.nw (qO x i d):=by
  have:=h.nw;have:=f.de;have:=f.co;refine⟨by simp[qO];omega,by simp only[qO,abZ];omega,by simp only[qO];omega,by simp only[qO];omega,by simp only[qO];omega,by simp only[qO];omega,λ_=>by simp only[qO];omega,by simp[qO]⟩
 refine eJ.note (x:={x with nu:=x.nu.set (i:Int).toNat (x.nu.getD (i:Int).toNat 0+1),jb:=x.jb++ [qO x i d]}) ⟨h.n,h.lr,h.ls,by simpa using h.ln,h.lw,h.nw,h.tk,h.sk,λk v a=>?_,λy b=>?_,by have:=h.jl;simp;omega,h.lg⟩ 1 _
 .simp only[abZ] at a;rw[acZ] at a;split at a
  .rename_i c;subst c;injection a with a;subst a;simp only[ac2];omega
  .rename_i c;simp only[abT (λl=>c (Eq.symm l))];exact h.nk k v a
 .simp at b;rcases b with b|rfl
  .exact h.jk y b
  .exact g
theorem kX.ask{k:Nat}(h:kX x k)(task d:Int):kX (oM x task d).2 (k+1):=by
 have hu:kX x (k+1):=eJ.mono h (λ_=>adA _) (λ_=>adA _) (adA _) aQ aQ;unfold oM;split
 .exact hu
 .rename_i hc;obtain⟨i,rfl⟩:=abW (show 0<=task by omega);have hi:i<x.ts.length:=aQ;obtain⟨hs,b,a⟩:=eJ.rA h hi;have h1:eJ (dZ x i (F4 x i).1) (λj=>if j=i then k+1 else k) (λ_=>k) (k+1) (8 *k) (1000000 *k):=
   eJ.DJ (eJ.mono h (λ_=>abQ _) (λ_=>abQ _) (adA _) (abQ _) (abQ _)) i (Q9 a)
  have hm:∀j,(if j=i then k+1 else k)<=k+1:=λj=>by split <;> omega
  split
  .exact h1.mono hm (λ_=>adA _) (abQ _) aQ aQ
  .split
   .exact(h1.comes hi d (abQ _)).mono hm hm (abQ _) aQ aQ
   .exact(h1.Yr i d).mono hm (λ_=>adA _) (abQ _) aQ aQ
theorem AK.vX{nw:Int}{j:Jb}(h:AK n K nw j):AK n K (nw+1) {gO j with bh:=true}/\(1<=(gO j).lf->AK n K (nw+1) (gO j)):=by
 have h1:=h.ra;have c:=h.lf;have a:=h.bh;have hl:0<=(gO j).lf/\(gO j).lf<=1048576:=by
  unfold gO;simp only;cases hb:j.bh
  .have:=a hb;simp;omega
  .simp;omega
 exact⟨⟨h.tk,h.nu,h.ca,h.de,by simp only[gO];omega,hl,λe=>by simp at e,h.rs⟩,λb=>⟨h.tk,h.nu,h.ca,h.de,by simp only[gO];omega,hl,λ_=>b,h.rs⟩⟩
def vE(x:Lb):Lb:={x with nw:=x.nw+1}
theorem eJ.up(h:eJ x sb nb K m e)(b:x.nw<1048576):eJ (vE x) sb nb K m e:=
 ⟨h.n,h.lr,h.ls,h.ln,h.lw,by have:=h.nw;show 0<=x.nw+1/\x.nw+1<=_;omega,h.tk,h.sk,h.nk,λj a=>(h.jk j a).mono (abQ _) (by show _<=x.nw+1;omega),h.jl,h.lg⟩
end
theorem SX(x:Lb)(i:Nat)(j a:Jb)(t:Int)(s:jJ):cO (dZ (cO x i j) t s) i a=cO (dZ x t s) i a:=by simp[cO,dZ]
theorem kX.run{x:Lb}{k:Nat}(h:kX x k)(v:x.nw<1048576){i:Nat}(hi:i<x.jb.length):eJ (qM (vE x) i) (λ_=>k+1) (λ_=>k) (k+1) (8 *k) (1000000 *k+1):=by
 have hu:=eJ.up h v;have hk:eJ (vE x) (λ_=>k) (λ_=>k) (k+1) (8 *k) (1000000 *k):=hu.mono (λ_=>abQ _) (λ_=>abQ _) (adA _) (abQ _) (abQ _);obtain⟨J,a⟩:=eJ.l7 h hi;obtain⟨b,q⟩:=AK.vX a;have z:dT (vE x) i=dT x i:=rfl;have fin:∀y:Lb,eJ y (λ_=>k) (λ_=>k) (k+1) (8 *k) (1000000 *k+1)->eJ y (λ_=>k+1) (λ_=>k) (k+1) (8 *k) (1000000 *k+1):=λy A=>A.mono (λ_=>adA _) (λ_=>abQ _) (abQ _) (abQ _) (abQ _)
 have gone:∀kd,eJ (xW (cO (vE x) i (gO (dT x i))) kd i) (λ_=>k+1) (λ_=>k) (k+1) (8 *k) (1000000 *k+1):=λkd=>by
  refine fin _ ⟨hk.n,hk.lr,hk.ls,hk.ln,hk.lw,hk.nw,hk.tk,hk.sk,hk.nk,λj B=>?_,?_,?_⟩
  .have g:j∈(x.jb.set i (gO (dT x i))).eraseIdx i:=B;rw[List.eraseIdx_set_eq] at g;exact hk.jk j (aeG g)
  .have:=hk.jl;have:=aeL (x.jb.set i (gO (dT x i))) i;show((x.jb.set i (gO (dT x i))).eraseIdx i).length<=_;rw[ab5] at this;have:x.jb.length<=8 *k:=hk.jl;omega
  .have:x.lg.length<=1000000 *k:=hk.lg;simp[xW,iY,cO,vE];omega
 unfold qM;simp only[z];generalize C:dT x i=j at *;obtain⟨t,D⟩:=abW a.tk.1;have c:t<x.ts.length:=by have:=a.tk.2;omega
 have r:(gO j).tk=t:=D;split
 .exact gone 2
 .split
  .rename_i hl;refine fin _ ((hk.FK i ((q aQ).mono (adA _) (adO _))).mono (λ_=>abQ _) (λ_=>abQ _) (abQ _) (abQ _) (adA _))
  .rename_i hl;split
   .exact gone 3
   .split
    .split
     .rename_i hb;have:({gO j with bh:=true}:Jb)=gO j:=by
       cases hq:gO j;rw[hq] at hb;simp at hb;subst hb;rfl
      rw[this] at b;exact fin _ ((hk.FK i (b.mono (adA _) (adO _))).mono (λ_=>abQ _) (λ_=>abQ _) (abQ _) (abQ _) (adA _))
     .have hq:AK x.ts.length (k+1) (x.nw+1) {gO j with bh:=true,rs:=(gO j).rs+1}:=by
       have d:=b.mono (K':=k+1) (adA _) (adO _);exact⟨d.tk,d.nu,d.ca,d.de,d.ra,d.lf,d.bh,by have:0<=j.rs/\j.rs<=k:=a.rs;show 0<=j.rs+1/\j.rs+1<=((k+1:Nat):Int);omega⟩
      have s:=hk.FK i hq;have E:cO (cO (vE x) i (gO j)) i {gO j with bh:=true,rs:=(gO j).rs+1}=cO (vE x) i {gO j with bh:=true,rs:=(gO j).rs+1}:=by simp[cO]
      rw[E];exact fin _ (s.note 4 _)
    .obtain⟨hs,L,f⟩:=eJ.rA hk (i:=t) c;have l:Ay (iG (vE x) t):=(eJ.task hk c).2;have o:=hk.nw;have hp:=Dn f o.1 o.2;have F:=f.n1;have G:=f.n0;have s:=hk.DJ t hp;rw[r];rw[SX];refine eJ.mono (eJ.note (eJ.FK s i ?_) 5 _) (λj=>by split <;> omega) (λ_=>abQ _) (abQ _) (abQ _) (abQ _);have:=l.co;have:=l.de;have H:0<=j.rs/\j.rs<=k:=a.rs;have I:0<=j.ra/\j.ra<=x.nw:=a.ra;have u:0<=j.nu/\j.nu<=k:=a.nu;have hmx:0<=(jS (jQ (vE x) t) (vE x).nw).2/\(jS (jQ (vE x) t) (vE x).nw).2<=1048576 *((k:Int)+2):=by
      show 0<=max (vE x).nw (jQ (vE x) t).next/\max (vE x).nw (jQ (vE x) t).next<=_;omega
     generalize (jS (jQ (vE x) t) (vE x).nw).2=p at *;exact⟨⟨by simp only;omega,by simp only;exact Int.ofNat_lt.2 c⟩,⟨u.1,by show j.nu<=((k+1:Nat):Int);omega⟩,⟨by simp only;omega,by simp only;omega⟩,⟨by simp only;omega,by simp only;omega⟩,⟨by show 0<=j.ra+1;omega,by show j.ra+1<=x.nw+1;omega⟩,⟨by simp only;omega,by simp only;omega⟩,λ_=>by simp only;omega,⟨by show 0<=j.rs+1;omega,by show j.rs+1<=((k+1:Nat):Int);omega⟩⟩
theorem QU(x:Lb)(i:Nat):(BL x i).jb.length=x.jb.length/\(BL x i).ts=x.ts:=by
 unfold BL;simp only;split
 .exact⟨by simp[iY,cO],rfl⟩
 .exact⟨rfl,rfl⟩
theorem uF(x:Lb):∀i,(eT x i).jb.length=x.jb.length/\(eT x i).ts=x.ts
 |0=>⟨rfl,rfl⟩
 |i+1=>⟨(QU _ i).1.trans (uF x i).1,(QU _ i).2.trans (uF x i).2⟩
theorem eJ.PE{e:Nat}(h:eJ x sb nb K m e):∀i,i<=x.jb.length->eJ (eT x i) sb nb K m (e+i)
 |0,_=>h
 |i+1,hi=>by
  have h1:=eJ.PE h i aQ;show eJ (BL (eT x i) i) sb nb K m (e+(i+1));unfold BL;simp only;split
  .have hl:=(uF x i).1;have a:=(h1.l7 (i:=i) aQ).2;exact(h1.FK i (j:={dT (eT x i) i with lt:=true}) ⟨a.tk,a.nu,a.ca,a.de,a.ra,a.lf,a.bh,a.rs⟩).note 6 _
  .exact h1.mono (λ_=>abQ _) (λ_=>abQ _) (abQ _) (abQ _) aQ
theorem Bo(x:Lb)(i:Nat):(EI x i).ts=x.ts/\(EI x i).nw=x.nw:=by
 unfold EI;split
 .exact⟨rfl,rfl⟩
 .exact⟨rfl,rfl⟩
theorem GC(x:Lb):∀i,(eL x i).ts=x.ts/\(eL x i).nw=x.nw
 |0=>⟨rfl,rfl⟩
 |i+1=>⟨(Bo _ i).1.trans (GC x i).1,(Bo _ i).2.trans (GC x i).2⟩
theorem eJ.Ih{a:Nat}{e:Nat}(hK:b+1<=K)(h:eJ x (λ_=>a) (λ_=>b) K m e):∀i,i<=x.ts.length->eJ (eL x i) (λj=>if j<i then a+1 else a) (λj=>if j<i then b+1 else b) K (m+i) (e+i)
 |0,_=>h.mono (λj=>by simp) (λj=>by simp) (abQ _) (abQ _) (abQ _)
 |i+1,hi=>by
  have h1:=eJ.Ih hK h i aQ;have c:=(GC x i).1;show eJ (EI (eL x i) i) _ _ _ _ _;unfold EI;split
  .obtain⟨hs,g,d⟩:=h1.rA (i:=i) (by rw[c];omega);rw[abT (adL i)] at d;have f:=(h1.DJ i (Q1 (now:=(eL x i).nw) d)).comes (i:=i) (by show i<(eL x i).ts.length;rw[c];omega) ((eL x i).wt.getD i 0) (by rw[abT (adL i)];exact hK);refine f.mono (λj=>?_) (λj=>?_) (abQ _) aQ aQ
   .split
    .split <;> omega
    .split <;> split <;> omega
   .split
    .split <;> split <;> omega
    .split <;> split <;> omega
  .refine h1.mono (λj=>?_) (λj=>?_) (abQ _) aQ aQ
   .split <;> split <;> omega
   .split <;> split <;> omega
theorem UG(x:Lb):∀k,(∀f,(fW x k).1=some f->f<k)/\∀f,(fW x k).2=some f->f<k
 |0=>⟨λf h=>by simp[fW] at h,λf h=>by simp[fW] at h⟩
 |k+1=>by
  obtain⟨h1,a⟩:=UG x k;unfold fW;split
  .exact⟨λf h=>by have:=h1 f h;omega,λf h=>by have:=a f h;omega⟩
  .refine⟨λf h=>?_,λf h=>?_⟩
   .simp only at h;split at h
    .injection h with h;omega
    .have:=h1 f h;omega
   .simp only at h;split at h
    .injection h with h;omega
    .have:=a f h;omega
theorem RP{f:Nat}(h:nB x=some f):f<x.jb.length:=by
 obtain⟨h1,a⟩:=UG x x.jb.length;unfold nB at h;split at h
 .cases h
 .rename_i q hq;split at h
  .injection h with h;subst h;exact h1 q hq
  .exact a f h
theorem kX.gM{k:Nat}(h:kX x k)(a:x.nw<1048576)(given:Bool):eJ (rJ x given) (λ_=>k+1) (λ_=>k) (k+1) (8 *k) (1000000 *k+1)/\(rJ x given).ts.length=x.ts.length:=by
 unfold rJ;split
 .exact⟨(eJ.up h a).mono (λ_=>adA _) (λ_=>abQ _) (adA _) (abQ _) aQ,rfl⟩
 .rename_i i hp;have hi:i<x.jb.length:=by
   unfold nZ at hp;split at hp
   .exact RP hp
   .cases hp
  refine⟨kX.run h a hi,?_⟩;unfold qM;simp only;repeat' split
  all_goals rfl
theorem kX.tick{k:Nat}(h:kX x k)(b:x.nw<1048576)(hk:k<=100000)(given:Bool):kX (jG x given) (k+2):=by
 obtain⟨h1,c⟩:=kX.gM h b given;have d:=h1.PE _ (abQ _);have a:(eT (rJ x given) (rJ x given).jb.length).ts=(rJ x given).ts:=(uF _ _).2;have f:=eJ.Ih (abQ _) d x.ts.length (by rw[a,c];exact abQ _);have i:=h1.jl;have g:=h.n;exact eJ.mono f (λj=>by split <;> omega) (λj=>by split <;> omega) aQ aQ aQ
end
end
section
open Go.RowKit Go.Lib Go.Shelf
variable{l l':List Pt}{x':Lb}{y':La}
section
theorem kX.R0{k:Nat}(h:kX x k):IS x (8 *k) (1000000 *k):=
 ⟨h.lr,h.ls,h.ln,h.lw,h.n,λt a=>⟨(h.tk t a).co.1,(h.tk t a).co.2,(h.tk t a).pe.1,(h.tk t a).pe.2,(h.tk t a).de.1,(h.tk t a).de.2,(h.tk t a).se,(h.tk t a).po.1,(h.tk t a).po.2⟩,h.nw.1,h.nw.2,
  λs hs=>by
   obtain⟨i,hi,rfl⟩:=acL hs;exact(h.sk i _ (abO hi)).mono aQ,
  λv d=>by
   obtain⟨i,hi,rfl⟩:=acL d;have:=h.nk i _ (abO hi);omega,
  h.jl,λj e=>by
   have h1:=h.jk j e;have b:=h1.tk;have a2:=h1.ra;have a3:=h1.lf;have a4:=h1.ca;have a5:=h1.de;have f:=h1.rs;have l:=h.nw;exact⟨b.1,b.2,a2.1,a2.2,aQ,a3.2,a4.1,aQ,a5.1,aQ,f.1,aQ⟩,h.lg⟩
section
variable{F:Nat->Prop}{w w':aA}{g:Nat}{x:Lb}{y:La}{i q c:Nat}{A:Option aJ}
theorem Ob.sL(h:Ob l F w)(i:Nat)(p d:Pt)(hp:l[i]?=some p)(hl:l.set i d=l')(e:∀G,p.X G w->d.X G w'/\Kp G w w'):Ob l' F w'/\Kp F w w':=by
 obtain⟨f,h1⟩:=h;obtain⟨a,b⟩:=e _ (h1.get i hp);obtain⟨o,k⟩:=h1.eQ i d a b;rw[hl] at o;exact⟨⟨_,o⟩,k⟩
theorem bU.cell(h:bU F w g x y)(i:Nat)(v:aC)(e:fQ x' y'=(fQ x y).setIfInBounds i v)(d:y'.L.map Tm.t=x'.ts)(hl:((jB g x y).set 0 (PB g 193 (fQ x' y')))=jB g x' y'):bU F (w.setCell (g,i) v) g x' y'/\Kp F w (w.setCell (g,i) v):=by
 obtain⟨a,b⟩:=h.o.sL 0 (PB g 193 (fQ x y)) (PB g 193 (fQ x' y')) rfl hl (λG f=>f.set i v e);exact⟨⟨d,a⟩,b⟩
theorem bU.now(h:bU F w g x y)(v:Int):bU F (w.setCell (g,11) v) g {x with nw:=v} y/\Kp F w (w.setCell (g,11) v):=h.cell 11 _ rfl h.ts rfl
theorem bU.PL(h:bU F w g x y){v:Ev}(e:n=x.lg.length)(ho:bH rD 4 w' 0 165 A c (x.lg++ [v]))(f:w.grownBy w' (aY y.G))(ha:aY A=aY y.G\/aY A=some w.heap.size):
 bU F (w'.setCell (g,16) (.slice A (n+1) c)) g {x with lg:=x.lg++ [v]} {y with G:=A,cG:=c}/\Kp F w (w'.setCell (g,16) (.slice A (n+1) c)):=by
 obtain⟨a,b⟩:=h.o.sL 8 (PR rD 4 165 y.G y.cG x.lg) (PR rD 4 165 A c (x.lg++ [v])) rfl rfl (λG d=>gQ.eQ d ho f ha);obtain⟨a2,b2⟩:=a.sL (w':=w'.setCell ⟨g,16,none⟩ (.slice A (n+1) c)) (l':=jB g {x with lg:=x.lg++ [v]} {y with G:=A,cG:=c}) 0 (PB g 193 (fQ x y)) (PB g 193 (fQ {x with lg:=x.lg++ [v]} {y with G:=A,cG:=c})) rfl rfl (λG d=>d.set 16 _ (by simp[fQ,e]));exact⟨⟨h.ts,a2⟩,b.trans b2⟩
theorem bU.FO(h:bU F w g x y){v:Jb}(e:n=x.jb.length)(ho:bH jU 11 w' 0 209 A c (x.jb++ [v]))(f:w.grownBy w' (aY y.J))(ha:aY A=aY y.J\/aY A=some w.heap.size):
 bU F (w'.setCell (g,15) (.slice A (n+1) c)) g {x with jb:=x.jb++ [v]} {y with J:=A,cJ:=c}/\Kp F w (w'.setCell (g,15) (.slice A (n+1) c)):=by
 obtain⟨a,b⟩:=h.o.sL 7 (PR jU 11 209 y.J y.cJ x.jb) (PR jU 11 209 A c (x.jb++ [v])) rfl rfl (λG d=>gQ.eQ d ho f ha);obtain⟨a2,b2⟩:=a.sL (w':=w'.setCell ⟨g,15,none⟩ (.slice A (n+1) c)) (l':=jB g {x with jb:=x.jb++ [v]} {y with J:=A,cJ:=c}) 0 (PB g 193 (fQ x y)) (PB g 193 (fQ {x with jb:=x.jb++ [v]} {y with J:=A,cJ:=c})) rfl rfl (λG d=>d.set 15 _ (by simp[fQ,e]));exact⟨⟨h.ts,a2⟩,b.trans b2⟩
theorem bU.left(h:bU F w g x y)(hi:i<x.jb.length)(ho:bH jU 11 w' 0 209 y.J c (x.jb.eraseIdx i))(e:w.grownBy w' (aY y.J))(f:n=(x.jb.eraseIdx i).length):
 bU F (w'.setCell (g,15) (.slice y.J n c)) g {x with jb:=x.jb.eraseIdx i} {y with cJ:=c}/\Kp F w (w'.setCell (g,15) (.slice y.J n c)):=by
 obtain⟨a,b⟩:=h.o.sL 7 (PR jU 11 209 y.J y.cJ x.jb) (PR jU 11 209 y.J c (x.jb.eraseIdx i)) rfl rfl (λG d=>gQ.eQ d ho e (.inl rfl));obtain⟨a2,b2⟩:=a.sL (w':=w'.setCell ⟨g,15,none⟩ (.slice y.J n c)) (l':=jB g {x with jb:=x.jb.eraseIdx i} {y with cJ:=c}) 0 (PB g 193 (fQ x y)) (PB g 193 (fQ {x with jb:=x.jb.eraseIdx i} {y with cJ:=c})) rfl rfl (λG d=>d.set 15 _ (by simp[fQ,f]));exact⟨⟨h.ts,a2⟩,b.trans b2⟩
theorem bU.Rq(h:bU F w g x y)(hq:y.U=some ⟨q,0,none⟩)(hi:i<x.nu.length)(v:Int):bU F (w.setCell (q,i) v) g {x with nu:=x.nu.set i v} y/\Kp F w (w.setCell (q,i) v):=by
 obtain⟨a,b⟩:=h.o.sL (w':=w.setCell ⟨q,i,none⟩ v) (l':=jB g {x with nu:=x.nu.set i v} y) 5 (PR eI 1 3 y.U y.cU x.nu) (PR eI 1 3 y.U y.cU (x.nu.set i v)) rfl (by simp[jB,fQ]) (λG e=>by
  have d:gQ eI 1 3 y.U y.cU x.nu G w:=e;show gQ eI 1 3 y.U y.cU (x.nu.set i v) G _/\_;rw[hq] at d⊢;simpa using gQ.cell (j:=0) gR.len d hi aQ v (.int .i64 v) rfl)
 exact⟨⟨h.ts,a⟩,b⟩
theorem bU.Pe(h:bU F w g x y)(hq:y.V=some ⟨q,0,none⟩)(hi:i<x.wt.length)(v:Int):bU F (w.setCell (q,i) v) g {x with wt:=x.wt.set i v} y/\Kp F w (w.setCell (q,i) v):=by
 obtain⟨a,b⟩:=h.o.sL (w':=w.setCell ⟨q,i,none⟩ v) (l':=jB g {x with wt:=x.wt.set i v} y) 6 (PR eI 1 3 y.V y.cV x.wt) (PR eI 1 3 y.V y.cV (x.wt.set i v)) rfl (by simp[jB,fQ]) (λG e=>by
  have d:gQ eI 1 3 y.V y.cV x.wt G w:=e;show gQ eI 1 3 y.V y.cV (x.wt.set i v) G _/\_;rw[hq] at d⊢;simpa using gQ.cell (j:=0) gR.len d hi aQ v (.int .i64 v) rfl)
 exact⟨⟨h.ts,a⟩,b⟩
theorem bU.FK(h:bU F w g x y)(hq:y.J=some ⟨q,0,none⟩)(hi:i<x.jb.length){f:Nat}(hf:f<11)(j:Jb)(v:aC)(k:jU j=(jU (dT x i)).set f v):bU F (w.setCell (q,i *11+f) v) g (cO x i j) y/\Kp F w (w.setCell (q,i *11+f) v):=by
 have e:jU j=(jU x.jb[i]).set f v:=by
  rw[k];unfold dT;rw[ab1,abO hi];rfl
 obtain⟨a,b⟩:=h.o.sL (w':=w.setCell ⟨q,i *11+f,none⟩ v) (l':=jB g (cO x i j) y) 7 (PR jU 11 209 y.J y.cJ x.jb) (PR jU 11 209 y.J y.cJ (x.jb.set i j)) rfl (by simp[jB,fQ,cO]) (λG l=>by
  have d:gQ jU 11 209 y.J y.cJ x.jb G w:=l;show gQ jU 11 209 y.J y.cJ (x.jb.set i j) G _/\_;rw[hq] at d⊢;exact gQ.cell kG.len d hi hf j v e)
 exact⟨⟨h.ts,a⟩,b⟩
theorem bU.WZ(h:bU F w g x y)(hl:x.sh.length=x.ts.length)(hi:i<x.ts.length):∃q a,y.S=some ⟨q,0,none⟩/\w.cell? ⟨q,i,none⟩=some (.pointer (some ⟨a,0,none⟩))/\Sh w a (jQ x i)/\y.a.length=x.ts.length/\
 ∀(w':aA) (s:jJ),Sh w' a s->w.grownBy w' (some a)->bU F w' g (dZ x i s) y/\Kp F w w':=by
 obtain⟨b,h1⟩:=h.o;have hs:FM (Fo w b 5) w y.a x.sh:=h1.get 4 (p:=OS y.a x.sh) rfl;have d:gQ yA 1 194 y.S y.cS y.a (Fo w b 4) w:=h1.get 3 (p:=PR yA 1 194 y.S y.cS y.a) rfl;have ha:i<y.a.length:=by rw[hs.len,hl];exact hi
 have hb:i<x.sh.length:=by rw[hl];exact hi
 obtain⟨q,hq⟩:=wS d.o aQ;have ho:=d.o;rw[hq] at ho;have e:jQ x i=x.sh[i]:=by unfold jQ;rw[abZ,ab1,abO hb];rfl
 refine⟨q,y.a[i],hq,by simpa using bM FL ho ha (j:=0) rfl,by rw[e];exact hs.sh i ha hb,by rw[hs.len,hl],λw' s f k=>?_⟩;obtain⟨l,b1⟩:=h.o.sL (w':=w') (l':=jB g (dZ x i s) y) 4 (OS y.a x.sh) (OS y.a (x.sh.set i s)) rfl (by simp[jB,fQ,dZ]) (λG m=>FM.eQ m ha hb f k);exact⟨⟨h.ts,l⟩,b1⟩
end
end
end
end Go.Proofs.YtacgiflhgdaeaaaGreat
