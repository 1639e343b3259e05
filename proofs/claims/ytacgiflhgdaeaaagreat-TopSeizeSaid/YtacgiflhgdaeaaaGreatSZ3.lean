/- Texts laid as one. -/
import Derived.Deep.DeepCutAuto
import Derived.Deep.CutBlock
import Derived.Shelf.Abstract
import Derived.MapKept
import Derived.Maps.OwnSet
import Derived.Maps.OwnOps
import Derived.Test.YtacgiflhgdaeaaaGreatSZ1
import Derived.Test.YtacgiflhgdaeaaaGreatSZ2
set_option linter.unusedVariables false
set_option linter.unusedSimpArgs false
set_option maxRecDepth 100000
set_option maxHeartbeats 20000000
namespace Go.Proofs.YtacgiflhgdaeaaaGreat
open Go.Proofs.Tryz
open Go renaming World->aA,Value->aC,Addr->aJ,Oper->aK,TypeId->aN,Program->aO,Calls->aG
open Go.RowKit renaming Below->aD,Hid->aH,intOf->aL
open Go.Obj renaming cells->aI
section
open Go.RowKit Go.Lib
open dL (Tb)
open Fr (dU Fm)
section
namespace Pa.Cp
def Ge(x:Nat):aC:=match EW x with
 |some i=> .tuple #[.agg #[i.op,i.a,i.b,i.c, .int .u64 i.n],aU]
 |none=> .tuple #[.agg #[aU,aU,aU,aU,bC], .int .i64 21]
theorem X3(x:Nat)(a:x<18446744073709551616)(w:aA):aG prog 225 #[.int .u64 x] w λe w'=>e= .returned (Ge x)/\aD w w w':=by
 have h:=VO x (x%256) (x /256%16) (x /4096%16) (x /65536%16) (x /1048576) w a (ER x a) aQ _ rfl;unfold Ge EW;cases b:sK ((x%256:Nat):Int) ((x /256%16:Nat):Int) ((x /4096%16:Nat):Int) ((x /65536%16:Nat):Int) ((x /1048576:Nat):Int)
 .rw[b] at h;simpa using h
 .rw[b] at h;simpa using h
structure Cd(F:Nat->Prop)(w:aA)(C:Option aJ)(CL:List Int):Prop where
 sl:Sl eU 1 w C CL
 rg:∀v∈CL,0<=v/\v<18446744073709551616
 len:CL.length<=9223372036854775807
 Qt:0<CL.length->∀b,Go.Proofs.YtacgiflhgdaeaaaGreat.aY C=some b->F b
variable{F:Nat->Prop}{w w':aA}{CL:List Int}
theorem Cd.kp{C:Option aJ}(h:Cd F w C CL)(k:Kp F w w'):Cd F w' C CL:=by
 refine⟨λhp=>?_,h.rg,h.len,h.Qt⟩;obtain⟨b,off,a,hc⟩:=h.sl hp;exact⟨b,off,a,λi x j u c hu=>k.cell (hc i x j u c hu) (h.Qt hp b (by rw[a];rfl))⟩
variable{G:Nat->Prop}
theorem Cd.more{C:Option aJ}(h:Cd F w C CL)(a:∀i,F i->G i):Cd G w C CL:=⟨h.sl,h.rg,h.len,λhp b hb=>a b (h.Qt hp b hb)⟩
variable{i:Nat}
theorem Cd.at_{C:Option aJ}(h:Cd F w C CL)(hi:i<CL.length):∃b off,C=some ⟨b,off,none⟩/\w.cell? ⟨b,off+i,none⟩=some (.int .u64 (rat CL i))/\0<=rat CL i/\rat CL i<18446744073709551616:=by
 obtain⟨b,off,a,hc⟩:=h.sl aQ;have e:rat CL i=CL[i]:=by unfold rat;rw[abL hi];rfl
 refine⟨b,off,a,?_,?_⟩
 .have:=hc i CL[i] 0 (.int .u64 CL[i]) (abL hi) rfl;rw[e];simpa using this
 .rw[e];exact h.rg _ (abV _)
def BM(CL:List Int)(p:Int):Except (Int×Int) In:=
 if p<0\/(CL.length:Int)<=p then .error (3,0)
 else match EW (rat CL p.toNat).toNat with
  |none=> .error (3,rat CL p.toNat)
  |some i=> .ok i
def N6(r:Except (Int×Int) In):Except (Int×Int) aC:=match r with
 | .ok i=> .ok (.agg #[i.op,i.a,i.b,i.c, .int .u64 i.n])
 | .error z=> .error z
theorem IP(F:Nat->Prop)(f gt gf:Nat)(gc:Gc)(C:Option aJ)(cc:Nat)(g:List Int)(env p:Int)(w:aA)(hl:Fg w f gt gf gc C g.length cc env)(c8:w.cell? (gc.b,gc.o+8)=some (.int .i64 p))(hc:Cd F w C g):
 aG prog 177 #[.pointer f] w λe w'=>e=gO p (N6 (BM g p))/\aD w w w':=by
 have d:=aX w (aI #[aU,aU,aU,aU,bC] 365);have bk:=bE.new w 365 #[aU,aU,aU,aU,bC];have cf0:=bK d hl.c0;have h:=bK d hl.c1;have ca:=bK d c8;have r:=hl.c0;have s:=c8;clear c8;unfold BM;by_cases D:p<0
 .rw[abP (.inl D)];simp only[N6];clear hl hc;go_enter func177,ntmps177
  go_wp2_with fail
  generalize w.alloc (aI #[aU,aU,aU,aU,bC] 365)=w1 at *;go_quiet (fail)
  go_wp2_with fail
  refine(pV f 3 0 p gc _ (by exact cf0) (by exact ca)).mono ?_;rintro e E ⟨rfl,rfl⟩;simp only[bodyPost,gO];exact⟨rfl,rfl,fN d _⟩
 .by_cases h1:(g.length:Int)<=p
  .rw[abP (.inr h1)];simp only[N6];clear hl hc;generalize g.length=n at *;go_enter func177,ntmps177
   go_wp2_with fail
   generalize w.alloc (aI #[aU,aU,aU,aU,bC] 365)=w1 at *;go_quiet (fail)
   go_wp2_with fail
   refine(pV f 3 0 p gc _ (by exact cf0) (by exact ca)).mono ?_;rintro e E ⟨rfl,rfl⟩;simp only[bodyPost,gO];exact⟨rfl,rfl,fN d _⟩
  .rw[abQ aQ];obtain⟨k,rfl⟩:=abR (show 0<=p by omega);rw[abW];obtain⟨b,off,L,j,l,m⟩:=hc.at_ (i:=k) aQ;subst L;replace j:=bK d j;obtain⟨x,q⟩:=abR l;rw[q] at j m⊢;rw[abW];have HD:=aP (λW=>X3 x aQ W);unfold Ge at HD;clear q l m hl hc;clear r s;have hk:k<g.length:=aQ;clear D h1;generalize g.length=n at *;cases hd:EW x with
   |none=>
    rw[hd] at HD;simp only[N6];simp only at HD;go_enter func177,ntmps177
    go_wp2_with fail
    generalize w.alloc (aI #[aU,aU,aU,aU,bC] 365)=w1 at *;go_quiet (fail)
    go_wp2_with fail
    go_quiet (fail)
    go_wp2_with fail
    refine(HD.o _).mono ?_;rintro e G ⟨rfl,hb⟩;replace bk:=(bk.drewN _).keep hb;replace cf0:=bK hb (show World.cell? _ _=_ from cf0);replace ca:=bK hb (show World.cell? _ _=_ from ca);replace d:=fO (fN d _) (abM _) hb;clear hb h j;have t:=bk.lt;have z0:=bk.cell 0 (.int .i64 0) rfl;have M:=bk.cell 1 (.int .i64 0) rfl;have z2:=bk.cell 2 (.int .i64 0) rfl;have z3:=bk.cell 3 (.int .i64 0) rfl;have z4:=bk.cell 4 (.int .u64 0) rfl;have f0:=bk.frozen 0;have f1:=bk.frozen 1;have f2:=bk.frozen 2;have f3:=bk.frozen 3;have f4:=bk.frozen 4;go_wp2_with fail
    refine(pV f 3 x k gc _ (bK (aX _ _) cf0) (bK (aX _ _) ca)).mono ?_;rintro e E ⟨rfl,rfl⟩;simp only[gO];go_wp2_with fail
    simp only[bodyPost,gO];exact⟨trivial,trivial,d.alloc d.size _⟩
   |some i=>
    rw[hd] at HD;simp only[N6];simp only at HD;generalize u:i.op=n0 at *;generalize y:i.a=n1 at *;generalize z:i.b=H at *;generalize A:i.c=I at *;generalize B:i.n=J at *;clear hd u y z A B;go_enter func177,ntmps177
    go_wp2_with fail
    generalize w.alloc (aI #[aU,aU,aU,aU,bC] 365)=w1 at *;go_quiet (fail)
    go_wp2_with fail
    go_quiet (fail)
    go_wp2_with fail
    refine(HD.o _).mono ?_;rintro e G ⟨rfl,hb⟩;replace bk:=(bk.drewN _).keep hb;replace d:=fO (fN d _) (abM _) hb;clear hb cf0 h ca j;have t:=bk.lt;have z0:=bk.cell 0 (.int .i64 0) rfl;have M:=bk.cell 1 (.int .i64 0) rfl;have z2:=bk.cell 2 (.int .i64 0) rfl;have z3:=bk.cell 3 (.int .i64 0) rfl;have z4:=bk.cell 4 (.int .u64 0) rfl;have f0:=bk.frozen 0;have f1:=bk.frozen 1;have f2:=bk.frozen 2;have f3:=bk.frozen 3;have f4:=bk.frozen 4;go_wp2_with fail
    have K:=(d.grown (tZ G w (.int .i64 n0) (.int .i64 n1) (.int .i64 H) (.int .i64 I) (.int .u64 J)) d.size (λk hk=>by injection hk with hk;omega))
    exact bodyPost_ret (v:= .agg #[n0,n1,H,I, .int .u64 J]) (by simp[results,results177,go_sem, *]) rfl ⟨rfl,K.alloc K.size _⟩
end Pa.Cp
end
section
namespace Pa.Cp
theorem Lw(F:Nat->Prop)(f gt gf:Nat)(gc:Gc)(C:Option aJ)(cl cc:Nat)(env:Int)(T:Int->Tt)(st:St)(i:In)(w:aA)(q:Mo F w gt gf gc T st)(hl:Fg w f gt gf gc C cl cc env)(hf:F f)(ok:QY i)(p0:0<=st.pc)(p1:st.pc<9223372036854775807):
 aG prog 176 #[.pointer f, .agg #[i.op,i.a,i.b,i.c, .int .u64 i.n]] w (Uc F gt gf gc T st (kV (T env) i st) w):=by
 obtain⟨op,a,b,c,k⟩:=i;obtain⟨j,h1,d,e,g⟩:=ok;simp only at j h1 d e g;rcases(by omega:op=0\/op=1\/op=2\/op=3\/op=4\/op=5\/op=6\/op=7\/op=8\/op=9\/op=10\/op=11\/op=12\/op=13\/op=14\/op=15\/op=16\/op=17\/op=18) with rfl|rfl|rfl|rfl|rfl|rfl|rfl|rfl|rfl|rfl|rfl|rfl|rfl|rfl|rfl|rfl|rfl|rfl|rfl
 .exact Pu ⟨q,hl,hf,h1,d,e,g,p0,p1⟩
 .exact Ru ⟨q,hl,hf,h1,d,e,g,p0,p1⟩
 .exact Ze ⟨q,hl,hf,h1,d,e,g,p0,p1⟩
 .exact Zh ⟨q,hl,hf,h1,d,e,g,p0,p1⟩
 .exact Yp ⟨q,hl,hf,h1,d,e,g,p0,p1⟩
 .by_cases h:rat st.R c=0
  .exact Mc ⟨q,hl,hf,h1,d,e,g,p0,p1⟩ h
  .exact Oj ⟨q,hl,hf,h1,d,e,g,p0,p1⟩ h
 .exact Zx ⟨q,hl,hf,h1,d,e,g,p0,p1⟩
 .exact Yw ⟨q,hl,hf,h1,d,e,g,p0,p1⟩
 .exact Zw ⟨q,hl,hf,h1,d,e,g,p0,p1⟩
 .exact Yj ⟨q,hl,hf,h1,d,e,g,p0,p1⟩
 .exact Wi ⟨q,hl,hf,h1,d,e,g,p0,p1⟩
 .exact Vq ⟨q,hl,hf,h1,d,e,g,p0,p1⟩
 .cases h:IG (T env) st.s (vN (rat st.R b) k) with
  |error z=>exact Dp ⟨q,hl,hf,h1,d,e,g,p0,p1⟩ z h
  |ok v=>exact Iy ⟨q,hl,hf,h1,d,e,g,p0,p1⟩ v h
 .cases h:stM (T env) st.s (vN (rat st.R b) k) (rat st.R a) with
  |error z=>exact YQ ⟨q,hl,hf,h1,d,e,g,p0,p1⟩ z h
  |ok v=>exact ZQ ⟨q,hl,hf,h1,d,e,g,p0,p1⟩ v h
 .exact Pf ⟨q,hl,hf,h1,d,e,g,p0,p1⟩
 .by_cases h:rat st.R a=0
  .exact XG ⟨q,hl,hf,h1,d,e,g,p0,p1⟩ h
  .exact VK ⟨q,hl,hf,h1,d,e,g,p0,p1⟩ h
 .exact Tz ⟨q,hl,hf,h1,d,e,g,p0,p1⟩
 .exact Ow ⟨q,hl,hf,h1,d,e,g,p0,p1⟩
 .by_cases h:17592186044415<rat st.R a
  .exact Gw ⟨q,hl,hf,h1,d,e,g,p0,p1⟩ h
  .exact Hf ⟨q,hl,hf,h1,d,e,g,p0,p1⟩ h
theorem Hx(t:Tt)(C:List Int)(m:St):mG t C m=match BM C m.pc with
 | .error z=>(⟨z.1,m.pc,z.2⟩,m)
 | .ok i=>match kV t i m with
  | .error z=>(⟨z.1,m.pc,z.2⟩,m)
  | .ok q=>(q.2,q.1):=by
 unfold mG BM;split
 .rfl
 .cases EW (rat C m.pc.toNat).toNat <;> rfl
variable{p:Int}
theorem TH{C:List Int}{i:In}(h:BM C p= .ok i):QY i/\0<=p/\p<C.length:=by
 unfold BM at h;split at h
 .cases h
 .rename_i hp;split at h
  .cases h
  .rename_i j a;injection h with h;subst h;exact⟨Pr a,aQ,aQ⟩
def PG(F:Nat->Prop)(gt gf:Nat)(gc:Gc)(T:Int->Tt)(r:Tp×St)(w:aA)(e:Ending)(w':aA):Prop:=e= .returned (.agg #[r.1.k,r.1.p, .int .u64 r.1.x])/\Mo F w' gt gf gc T r.2/\Kp F w w'
variable{F G:Nat->Prop}{w w':aA}{gt gf b:Nat}{gc:Gc}
theorem Mo.KH{T:Int->Tt}{st:St}(q:Mo G w gt gf gc T st)(d:w.grownBy w' (some b))(a:∀i,F i->G i){B:Nat}(hF:∀i,F i->i<B)(hb:B<=b/\G b):Mo F w' gt gf gc T st:=by
 obtain⟨A,c,L,h,m,q⟩:=q;obtain⟨_,o1,o2,o3,e⟩:=q.off _ hb.2;exact⟨A,c,L,h,m,q.tb.only d (aeC o1) e,⟨q.fm.n0,q.fm.t,q.fm.b,q.fm.at_.grown d (by simpa using aeC o2)⟩,q.cp.grown d (by simpa using aeC o3),q.rg,q.og,q.DO,q.len,q.tt,q.tf,q.tc,q.fc,q.af,q.ac,λi hi=>⟨abO (q.off i (a i hi)).1 d.size,(q.off i (a i hi)).2⟩⟩
theorem _root_.Go.Proofs.YtacgiflhgdaeaaaGreat.Kp.NW{a:aA}(h:Kp F a w)(c:w.grownBy w' (some b))(hF:∀i,F i->i<a.heap.size)(hb:a.heap.size<=b):Kp F a w':=
 ⟨c.os.trans h.os,c.tape.trans h.tape,c.output.trans h.output,abT h.size c.size,λi hi=>by
  have:=hF i hi;exact(c.block i (by have:=h.size;omega) bX).trans (h.block i hi)⟩
theorem Mt(F:Nat->Prop)(gt gf:Nat)(gc:Gc)(C:Option aJ)(cc:Nat)(c:List Int)(env:Int)(T:Int->Tt)(st:St)(w:aA)(q:Mo F w gt gf gc T st)(hc:Cd F w C c)(z:Int×Int)(r:BM c st.pc= .error z):
 aG prog 121 #[.pointer (some ⟨gc.b,gc.o,none⟩),(C,c.length,cc), .agg #[env, .pointer gt, .pointer gf]] w (PG F gt gf gc T (⟨z.1,st.pc,z.2⟩,st) w):=by
 have u:∀(fn:Fn) (first cap:Array aC) (w:aA),(Instr.makeFunc fn first cap).run prog w= .ok (.func fn first cap) w:=λ_ _ _ _=>rfl
 obtain⟨d,a⟩:∃d:Nat->Prop,d=λi=>((F i\/i=w.heap.size)\/i=(w.alloc (aI #[env, .pointer gt, .pointer gf] 241)).heap.size)\/i=((w.alloc (aI #[env, .pointer gt, .pointer gf] 241)).alloc (aI #[aU,aU,bC] 77)).heap.size:=⟨_,rfl⟩
 have l:=((q.box (aI #[env, .pointer gt, .pointer gf] 241)).box (aI #[aU,aU,bC] 77)).box (aI #[.pointer (some ⟨gc.b,gc.o,none⟩),(C,c.length,cc),env, .pointer gt, .pointer gf] 362);rw[<-a] at l;have m:aH ((∀i,F i->d i)/\d w.heap.size/\d (w.heap.size+1)/\d (w.heap.size+1+1)/\∀i,F i->i<w.heap.size):=⟨λi hi=>by rw[a];exact .inl (.inl (.inl hi)),by rw[a];exact .inl (.inl (.inr rfl)),by rw[a];exact .inl (.inr aT),by rw[a];exact .inr aT,q.lt⟩
 have s:aD w w (((w.alloc (aI #[env, .pointer gt, .pointer gf] 241)).alloc (aI #[aU,aU,bC] 77)).alloc (aI #[.pointer (some ⟨gc.b,gc.o,none⟩),(C,c.length,cc),env, .pointer gt, .pointer gf] 362)):=((aX w (aI #[env, .pointer gt, .pointer gf] 241)).alloc aT _).alloc bX _;have t:=aP (Kp.cD s q.lt);have bt:=(bE.fL (w.alloc (aI #[env, .pointer gt, .pointer gf] 241)) 77 #[aU,aU,bC] (g:=w.heap.size+1) aT).alloc (aI #[.pointer (some ⟨gc.b,gc.o,none⟩),(C,c.length,cc),env, .pointer gt, .pointer gf] 362);have h:=bE.fL ((w.alloc (aI #[env, .pointer gt, .pointer gf] 241)).alloc (aI #[aU,aU,bC] 77)) 362 #[.pointer (some ⟨gc.b,gc.o,none⟩),(C,c.length,cc),env, .pointer gt, .pointer gf] (g:=w.heap.size+1+1) aT;have n:=(hc.kp (Kp.cD s q.lt)).more m.o.1;clear a q hc;go_enter_defers func121,ntmps121
 go_wp2_with fail
 generalize (((w.alloc (aI #[env, .pointer gt, .pointer gf] 241)).alloc (aI #[aU,aU,bC] 77)).alloc (aI #[.pointer (some ⟨gc.b,gc.o,none⟩),(C,c.length,cc),env, .pointer gt, .pointer gf] 362))=w1 at *;clear s;have hl:Fg w1 (w.heap.size+1+1) gt gf gc C c.length cc env:=⟨h.cell 0 _ rfl,h.cell 1 _ rfl,h.cell 2 _ rfl,h.cell 3 _ rfl,h.cell 4 _ rfl⟩
 have j:=IP d (w.heap.size+1+1) gt gf gc C cc c env st.pc w1 hl l.c8 n;rw[r] at j;refine j.mono ?_;rintro e v ⟨rfl,hb⟩;replace l:=l.keep hb;replace bt:=bt.keep hb;have x:aH (Kp F w v):=t.o.trans (Kp.cD hb (λi hi=>by have:=m.o.2.2.2.2 i hi;have:=h.lt;omega));replace hl:=hl.keep hb;clear hb h t j;simp only[N6,gO];have HQ:=aP l;clear l hl n;go_wp2_with fail
 refine leaves_cons (f:=175) (args:=#[.pointer (some ⟨w.heap.size+1,0,none⟩)]) aT (by simp[go_sem]) ?_;refine(KG _ z.1 st.pc z.2 _ _ _ [] _ bt).mono ?_;rintro e H y ⟨rfl,rfl,p,k⟩;have A:=k.cell 0 z.1 rfl;have B:=k.cell 1 st.pc rfl;have D:=k.cell 2 (.int .u64 z.2) rfl;have E:=HQ.o.KH p m.o.1 m.o.2.2.2.2 ⟨aQ,m.o.2.2.1⟩;have G:=x.o.NW p m.o.2.2.2.2 aQ;simp[Leaves,settle,results,results121,go_sem,A,B,D];exact⟨rfl,E,G⟩
theorem Mf(F:Nat->Prop)(gt gf:Nat)(gc:Gc)(C:Option aJ)(cc:Nat)(c:List Int)(env:Int)(T:Int->Tt)(st:St)(w:aA)(q:Mo F w gt gf gc T st)(hc:Cd F w C c)(i:In)(s:BM c st.pc= .ok i)(z:Int×Int)(v:kV (T env) i st= .error z):
 aG prog 121 #[.pointer (some ⟨gc.b,gc.o,none⟩),(C,c.length,cc), .agg #[env, .pointer gt, .pointer gf]] w (PG F gt gf gc T (⟨z.1,st.pc,z.2⟩,st) w):=by
 have E:∀(fn:Fn) (first cap:Array aC) (w:aA),(Instr.makeFunc fn first cap).run prog w= .ok (.func fn first cap) w:=λ_ _ _ _=>rfl
 obtain⟨j,a⟩:∃j:Nat->Prop,j=λi=>((F i\/i=w.heap.size)\/i=(w.alloc (aI #[env, .pointer gt, .pointer gf] 241)).heap.size)\/i=((w.alloc (aI #[env, .pointer gt, .pointer gf] 241)).alloc (aI #[aU,aU,bC] 77)).heap.size:=⟨_,rfl⟩
 have r:=((q.box (aI #[env, .pointer gt, .pointer gf] 241)).box (aI #[aU,aU,bC] 77)).box (aI #[.pointer (some ⟨gc.b,gc.o,none⟩),(C,c.length,cc),env, .pointer gt, .pointer gf] 362);rw[<-a] at r;have d:aH ((∀i,F i->j i)/\j w.heap.size/\j (w.heap.size+1)/\j (w.heap.size+1+1)/\∀i,F i->i<w.heap.size):=⟨λi hi=>by rw[a];exact .inl (.inl (.inl hi)),by rw[a];exact .inl (.inl (.inr rfl)),by rw[a];exact .inl (.inr aT),by rw[a];exact .inr aT,q.lt⟩
 have x:aD w w (((w.alloc (aI #[env, .pointer gt, .pointer gf] 241)).alloc (aI #[aU,aU,bC] 77)).alloc (aI #[.pointer (some ⟨gc.b,gc.o,none⟩),(C,c.length,cc),env, .pointer gt, .pointer gf] 362)):=((aX w (aI #[env, .pointer gt, .pointer gf] 241)).alloc aT _).alloc bX _;have B:=aP (Kp.cD x q.lt);have bt:=(bE.fL (w.alloc (aI #[env, .pointer gt, .pointer gf] 241)) 77 #[aU,aU,bC] (g:=w.heap.size+1) aT).alloc (aI #[.pointer (some ⟨gc.b,gc.o,none⟩),(C,c.length,cc),env, .pointer gt, .pointer gf] 362);have k:=bE.fL ((w.alloc (aI #[env, .pointer gt, .pointer gf] 241)).alloc (aI #[aU,aU,bC] 77)) 362 #[.pointer (some ⟨gc.b,gc.o,none⟩),(C,c.length,cc),env, .pointer gt, .pointer gf] (g:=w.heap.size+1+1) aT;have h:=(hc.kp (Kp.cD x q.lt)).more d.o.1;clear a q hc;go_enter_defers func121,ntmps121
 go_wp2_with fail
 generalize (((w.alloc (aI #[env, .pointer gt, .pointer gf] 241)).alloc (aI #[aU,aU,bC] 77)).alloc (aI #[.pointer (some ⟨gc.b,gc.o,none⟩),(C,c.length,cc),env, .pointer gt, .pointer gf] 362))=w1 at *;clear x;have hl:Fg w1 (w.heap.size+1+1) gt gf gc C c.length cc env:=⟨k.cell 0 _ rfl,k.cell 1 _ rfl,k.cell 2 _ rfl,k.cell 3 _ rfl,k.cell 4 _ rfl⟩
 have HD:=aP (λ(W:aA) hW hl (hi:QY i/\0<=st.pc/\st.pc<c.length)=>Lw j (w.heap.size+1+1) gt gf gc C c.length cc env T st i W hW hl d.o.2.2.2.1 hi.1 hi.2.1 (by have:=h.len;have:=hi.2.2;omega));have l:=IP j (w.heap.size+1+1) gt gf gc C cc c env st.pc w1 hl r.c8 h;rw[s] at l;refine l.mono ?_;rintro e D ⟨rfl,hb⟩;replace r:=r.keep hb;replace bt:=bt.keep hb;have y:aH (Kp F w D):=B.o.trans (Kp.cD hb (λi hi=>by have:=d.o.2.2.2.2 i hi;have:=k.lt;omega));replace hl:=hl.keep hb;clear hb k B l;have A:=aP (TH s);have N:=aP h;clear h;simp only[N6,gO];go_wp2_with fail
 have m:=HD.o D r hl A.o;clear HD hl r;rw[v] at m;refine m.mono ?_;rintro e G ⟨rfl,t,n⟩;simp only[gO];replace bt:=n.aY bt d.o.2.2.1;replace y:aH (Kp F w G):=y.o.trans (n.mono d.o.1);have HQ:=aP t;clear m t n;go_wp2_with fail
 refine leaves_cons (f:=175) (args:=#[.pointer (some ⟨w.heap.size+1,0,none⟩)]) aT (by simp[go_sem]) ?_;refine(KG _ z.1 st.pc z.2 _ _ _ [] _ bt).mono ?_;rintro e O H ⟨rfl,rfl,u,p⟩;have I:=p.cell 0 z.1 rfl;have J:=p.cell 1 st.pc rfl;have K:=p.cell 2 (.int .u64 z.2) rfl;have L:=HQ.o.KH u d.o.1 d.o.2.2.2.2 ⟨aQ,d.o.2.2.1⟩;have M:=y.o.NW u d.o.2.2.2.2 aQ;simp[Leaves,settle,results,results121,go_sem,I,J,K];exact⟨rfl,L,M⟩
theorem Px(F:Nat->Prop)(gt gf:Nat)(gc:Gc)(C:Option aJ)(cc:Nat)(d:List Int)(env:Int)(T:Int->Tt)(st:St)(w:aA)(q:Mo F w gt gf gc T st)(hc:Cd F w C d)(i:In)(D:BM d st.pc= .ok i)(y:St×Tp)(H:kV (T env) i st= .ok y):
 aG prog 121 #[.pointer (some ⟨gc.b,gc.o,none⟩),(C,d.length,cc), .agg #[env, .pointer gt, .pointer gf]] w (PG F gt gf gc T (y.2,y.1) w):=by
 have S:∀(fn:Fn) (first cap:Array aC) (w:aA),(Instr.makeFunc fn first cap).run prog w= .ok (.func fn first cap) w:=λ_ _ _ _=>rfl
 obtain⟨n,a⟩:∃n:Nat->Prop,n=λi=>((F i\/i=w.heap.size)\/i=(w.alloc (aI #[env, .pointer gt, .pointer gf] 241)).heap.size)\/i=((w.alloc (aI #[env, .pointer gt, .pointer gf] 241)).alloc (aI #[aU,aU,bC] 77)).heap.size:=⟨_,rfl⟩
 have B:=((q.box (aI #[env, .pointer gt, .pointer gf] 241)).box (aI #[aU,aU,bC] 77)).box (aI #[.pointer (some ⟨gc.b,gc.o,none⟩),(C,d.length,cc),env, .pointer gt, .pointer gf] 362);rw[<-a] at B;have j:aH ((∀i,F i->n i)/\n w.heap.size/\n (w.heap.size+1)/\n (w.heap.size+1+1)/\∀i,F i->i<w.heap.size):=⟨λi hi=>by rw[a];exact .inl (.inl (.inl hi)),by rw[a];exact .inl (.inl (.inr rfl)),by rw[a];exact .inl (.inr aT),by rw[a];exact .inr aT,q.lt⟩
 have I:aD w w (((w.alloc (aI #[env, .pointer gt, .pointer gf] 241)).alloc (aI #[aU,aU,bC] 77)).alloc (aI #[.pointer (some ⟨gc.b,gc.o,none⟩),(C,d.length,cc),env, .pointer gt, .pointer gf] 362)):=((aX w (aI #[env, .pointer gt, .pointer gf] 241)).alloc aT _).alloc bX _;have P:=aP (Kp.cD I q.lt);have bt:=(bE.fL (w.alloc (aI #[env, .pointer gt, .pointer gf] 241)) 77 #[aU,aU,bC] (g:=w.heap.size+1) aT).alloc (aI #[.pointer (some ⟨gc.b,gc.o,none⟩),(C,d.length,cc),env, .pointer gt, .pointer gf] 362);have s:=bE.fL ((w.alloc (aI #[env, .pointer gt, .pointer gf] 241)).alloc (aI #[aU,aU,bC] 77)) 362 #[.pointer (some ⟨gc.b,gc.o,none⟩),(C,d.length,cc),env, .pointer gt, .pointer gf] (g:=w.heap.size+1+1) aT;have r:=(hc.kp (Kp.cD I q.lt)).more j.o.1;clear a q hc;go_enter_defers func121,ntmps121
 go_wp2_with fail
 generalize (((w.alloc (aI #[env, .pointer gt, .pointer gf] 241)).alloc (aI #[aU,aU,bC] 77)).alloc (aI #[.pointer (some ⟨gc.b,gc.o,none⟩),(C,d.length,cc),env, .pointer gt, .pointer gf] 362))=w1 at *;clear I;have hl:Fg w1 (w.heap.size+1+1) gt gf gc C d.length cc env:=⟨s.cell 0 _ rfl,s.cell 1 _ rfl,s.cell 2 _ rfl,s.cell 3 _ rfl,s.cell 4 _ rfl⟩
 have HD:=aP (λ(W:aA) hW hl (hi:QY i/\0<=st.pc/\st.pc<d.length)=>Lw n (w.heap.size+1+1) gt gf gc C d.length cc env T st i W hW hl j.o.2.2.2.1 hi.1 hi.2.1 (by have:=r.len;have:=hi.2.2;omega));have t:=IP n (w.heap.size+1+1) gt gf gc C cc d env st.pc w1 hl B.c8 r;rw[D] at t;refine t.mono ?_;rintro e Q ⟨rfl,hb⟩;replace B:=B.keep hb;replace bt:=bt.keep hb;have J:aH (Kp F w Q):=P.o.trans (Kp.cD hb (λi hi=>by have:=j.o.2.2.2.2 i hi;have:=s.lt;omega));replace hl:=hl.keep hb;clear hb s P t;have K:=aP (TH D);have Z:=aP r;clear r;simp only[N6,gO];go_wp2_with fail
 have u:=HD.o Q B hl K.o;clear HD hl B;rw[H] at u;refine u.mono ?_;rintro e E ⟨rfl,l,v⟩;replace bt:=v.aY bt j.o.2.2.1;replace J:aH (Kp F w E):=J.o.trans (v.mono j.o.1);have HQ:=aP l;have q8:=l.c8;have g8:=l.frozen 8;have G:gc.b≠w.heap.size+1:=by
  obtain⟨A,c,L,h,m,q⟩:=l;exact aeC (q.off _ j.o.2.2.1).2.2.2.1
 have M:=bt.cell 0 (.int .i64 0) rfl;have N:=bt.cell 1 (.int .i64 0) rfl;have O:=bt.cell 2 (.int .u64 0) rfl;have l0:=bt.frozen 0;have l1:=bt.frozen 1;have U:=bt.frozen 2;clear u l v;go_wp2_with fail
 clear q8 g8 M N O l0 l1 U;refine leaves_cons (f:=175) (args:=#[.pointer (some ⟨w.heap.size+1,0,none⟩)]) aT (by simp[go_sem]) ?_;refine(YC _ _).mono ?_;rintro e u' V ⟨rfl,rfl,rfl⟩;have R:=aP (HQ.o.Zl y.1.pc);have X:Mo n (((((((E.setCell (gc.b,gc.o+8) y.1.pc).setCell (w.heap.size+1,0) y.2.k).setCell (w.heap.size+1,1) y.2.p).setCell (w.heap.size+1,2) (.int .u64 y.2.x)).setCell (w.heap.size+1,0) y.2.k).setCell (w.heap.size+1,1) y.2.p).setCell (w.heap.size+1,2) (.int .u64 y.2.x)) gt gf gc T y.1:=(R.o.1.IU j.o.2.2.1 y.2.k y.2.p y.2.x).IU j.o.2.2.1 y.2.k y.2.p y.2.x;have Y:Kp F w (((((((E.setCell (gc.b,gc.o+8) y.1.pc).setCell (w.heap.size+1,0) y.2.k).setCell (w.heap.size+1,1) y.2.p).setCell (w.heap.size+1,2) (.int .u64 y.2.x)).setCell (w.heap.size+1,0) y.2.k).setCell (w.heap.size+1,1) y.2.p).setCell (w.heap.size+1,2) (.int .u64 y.2.x)):=((J.o.trans (R.o.2.mono j.o.1)).IV j.o.2.2.2.2 (b:=w.heap.size+1) aQ y.2.k y.2.p y.2.x).IV j.o.2.2.2.2 (b:=w.heap.size+1) aQ y.2.k y.2.p y.2.x;have z:bE (((((((E.setCell (gc.b,gc.o+8) y.1.pc).setCell (w.heap.size+1,0) y.2.k).setCell (w.heap.size+1,1) y.2.p).setCell (w.heap.size+1,2) (.int .u64 y.2.x)).setCell (w.heap.size+1,0) y.2.k).setCell (w.heap.size+1,1) y.2.p).setCell (w.heap.size+1,2) (.int .u64 y.2.x)) (w.heap.size+1) 77 #[y.2.k,y.2.p, .int .u64 y.2.x]:=((((((bt.rI (p:=⟨gc.b,gc.o+8,none⟩) (aeC G) (.int .i64 y.1.pc)).cB 0 y.2.k).cB 1 y.2.p).cB 2 (.int .u64 y.2.x)).cB 0 y.2.k).cB 1 y.2.p).cB 2 (.int .u64 y.2.x);generalize (((((((E.setCell (gc.b,gc.o+8) y.1.pc).setCell (w.heap.size+1,0) y.2.k).setCell (w.heap.size+1,1) y.2.p).setCell (w.heap.size+1,2) (.int .u64 y.2.x)).setCell (w.heap.size+1,0) y.2.k).setCell (w.heap.size+1,1) y.2.p).setCell (w.heap.size+1,2) (.int .u64 y.2.x))=w5 at *;have M:=z.cell 0 y.2.k rfl;have N:=z.cell 1 y.2.p rfl;have O:=z.cell 2 (.int .u64 y.2.x) rfl;simp[Leaves,settle,results,results121,go_sem,M,N,O];exact⟨rfl,X.less j.o.1,Y⟩
theorem Mr(F:Nat->Prop)(gt gf:Nat)(gc:Gc)(C:Option aJ)(cc:Nat)(a:List Int)(env:Int)(T:Int->Tt)(st:St)(w:aA)(q:Mo F w gt gf gc T st)(hc:Cd F w C a):
 aG prog 121 #[.pointer (some ⟨gc.b,gc.o,none⟩),(C,a.length,cc), .agg #[env, .pointer gt, .pointer gf]] w (PG F gt gf gc T (mG (T env) a st) w):=by
 rw[Hx];cases c:BM a st.pc with
 |error z=>exact Mt F gt gf gc C cc a env T st w q hc z c
 |ok i=>
  simp only;cases d:kV (T env) i st with
  |error z=>exact Mf F gt gf gc C cc a env T st w q hc i c z d
  |ok y=>exact Px F gt gf gc C cc a env T st w q hc i c y d
end Pa.Cp
end
end
section
open Go.RowKit Go.Lib
namespace Pa.Cp
def FH(F:Nat->Prop)(gt gf:Nat)(gc:Gc)(T:Int->Tt)(r:Tp×Nat×St)(w:aA)(e:Ending)(w':aA):Prop:=e= .returned (.tuple #[.agg #[r.1.k,r.1.p, .int .u64 r.1.x],r.2.1])/\Mo F w' gt gf gc T r.2.2/\Kp F w w'
theorem Uu(F:Nat->Prop)(gt gf:Nat)(gc:Gc)(C:Option aJ)(cc:Nat)(y:List Int)(env:Int)(T:Int->Tt)(st:St)(k:Nat)(w:aA)(q:Mo F w gt gf gc T st)(hc:Cd F w C y)(hk:k<=1000):
 aG prog 81 #[.pointer (some ⟨gc.b,gc.o,none⟩),(C,y.length,cc), .agg #[env, .pointer gt, .pointer gf],k] w (FH F gt gf gc T (nB (T env) y k 0 st) w):=by
 obtain⟨p,u⟩:∃p:Nat->Prop,p=λi=>(F i\/i=w.heap.size)\/i=(w.alloc (aI #[env, .pointer gt, .pointer gf] 241)).heap.size:=⟨_,rfl⟩
 have q2:=(q.box (aI #[env, .pointer gt, .pointer gf] 241)).box (aI #[aU,aU,bC] 77);rw[<-u] at q2;have d:aH ((∀i,F i->p i)/\p w.heap.size/\p (w.heap.size+1)/\∀i,F i->i<w.heap.size):=⟨λi hi=>by rw[u];exact .inl (.inl hi),by rw[u];exact .inl (.inr rfl),by rw[u];exact .inr aT,q.lt⟩
 have B:aD w w ((w.alloc (aI #[env, .pointer gt, .pointer gf] 241)).alloc (aI #[aU,aU,bC] 77)):=(aX w (aI #[env, .pointer gt, .pointer gf] 241)).alloc aT _;have Q:=aP (Kp.cD B q.lt);have D:=(bE.new w 241 #[env, .pointer gt, .pointer gf]).alloc (aI #[aU,aU,bC] 77);have bt:=bE.fL (w.alloc (aI #[env, .pointer gt, .pointer gf] 241)) 77 #[aU,aU,bC] (g:=w.heap.size+1) aT;have R:=aP ((hc.kp (Kp.cD B q.lt)).more d.o.1);have S:min (k:Int) 65536=k:=aQ;have U:max (0:Int) k=k:=aQ;clear u q hc;go_enter func81,ntmps81
 go_wp2_with fail
 generalize ((w.alloc (aI #[env, .pointer gt, .pointer gf] 241)).alloc (aI #[aU,aU,bC] 77))=A at *;clear B;have E:=aP q2;clear q2;go_loopw [10,11,17] (λ_ _ G wr=>∃(j:Nat) (m:St),j<=k/\G= .int .i64 j/\aH (Mo p wr gt gf gc T m/\Kp F w wr/\Kp p A wr)/\aH (nB (T env) y (k - j) j m=nB (T env) y k 0 st)) (λ_ _ i _=>k - (aL i).toNat)
 case atStart=>exact⟨0,st,abX _,rfl,⟨E.o,Q.o,Kp.refl p A⟩,rfl⟩
 case round=>
  obtain⟨j,m,W,rfl,t,H⟩:=hrel;by_cases V:j<k
  .have z:=aP (Mr p gt gf gc C cc y env T m wr t.o.1 (R.o.kp t.o.2.2));obtain⟨n,pp,f,m2,I⟩:∃n pp f m2,mG (T env) y m=(⟨n,pp,f⟩,m2):=⟨_,_,_,_,rfl⟩
   rw[I] at z;have s:aH (nB (T env) y k 0 st=if n=0 then nB (T env) y (k - (j+1)) (j+1) m2 else if n=1 then(⟨n,pp,f⟩,j+1,m2) else(⟨n,pp,f⟩,j,m2)):=by
    unfold aH;rw[<-H.o,show k - j=(k - (j+1))+1 by omega,nB,I]
   have p0:=(t.o.2.2.aY D d.o.2.1).cell 0 env rfl;have p1:=(t.o.2.2.aY D d.o.2.1).cell 1 (.pointer gt) rfl;have p2:=(t.o.2.2.aY D d.o.2.1).cell 2 (.pointer gf) rfl;clear I H;by_cases K:n=0
   .subst K;go_wp2_with fail
    refine z.o.mono ?_;rintro e l ⟨rfl,c,h⟩;have r:aH (Mo p (l.alloc (aI #[aU, .int .i64 pp, .int .u64 f] 77)) gt gf gc T m2/\Kp F w (l.alloc (aI #[aU, .int .i64 pp, .int .u64 f] 77))/\Kp p A (l.alloc (aI #[aU, .int .i64 pp, .int .u64 f] 77))):=⟨c.keep (aX l _),(t.o.2.1.trans (h.mono d.o.1)).trans ((c.kp (aX l _)).mono d.o.1),(t.o.2.2.trans h).trans (c.kp (aX l _))⟩
    clear c h p0 p1 p2;go_wp2_with fail
    go_roundw
    case rel=>exact⟨j+1,m2,aQ,by go_num,r.o,by unfold aH;rw[s.o];simp⟩
    case measure=>simp[aL];omega
   .by_cases L:n=1
    .subst L;go_wp2_with fail
     refine z.o.mono ?_;rintro e l ⟨rfl,c,h⟩;have r:aH (Mo p (l.alloc (aI #[.int .i64 1, .int .i64 pp, .int .u64 f] 77)) gt gf gc T m2/\Kp F w (l.alloc (aI #[.int .i64 1, .int .i64 pp, .int .u64 f] 77))/\Kp p A (l.alloc (aI #[.int .i64 1, .int .i64 pp, .int .u64 f] 77))):=⟨c.keep (aX l _),(t.o.2.1.trans (h.mono d.o.1)).trans ((c.kp (aX l _)).mono d.o.1),(t.o.2.2.trans h).trans (c.kp (aX l _))⟩
     clear c h p0 p1 p2;have a:=r.o.2.2.aY bt d.o.2.2.1;have M:=a.cell 0 (.int .i64 0) rfl;have N:=a.cell 1 (.int .i64 0) rfl;have O:=a.cell 2 (.int .u64 0) rfl;have l0:=a.frozen 0;have l1:=a.frozen 1;have P:=a.frozen 2;go_wp2_with fail
     have x:=bP (r.o.1.IU d.o.2.2.1 (1) (pp) (f)) (r.o.2.1.IV d.o.2.2.2 (b:=w.heap.size+1) aQ (1) (pp) (f));change bodyPost _ _ _ _ _ (eC (l.alloc (aI #[.int .i64 1, .int .i64 pp, .int .u64 f] 77)) (w.heap.size+1) (1) (pp) (f))
     refine bodyPost_ret (v:= .tuple #[.agg #[.int .i64 (1), .int .i64 (pp), .int .u64 (f)], .int .i64 (((j:Nat):Int)+1)]) (by simp[results,results81,go_sem,eC, *]) rfl ?_;unfold FH;rw[s.o];simp only[ac3];exact⟨rfl,x.o.1.less d.o.1,x.o.2⟩
    .have J:aH (¬n=0):=K;go_wp2_with fail
     refine z.o.mono ?_;rintro e l ⟨rfl,c,h⟩;have r:aH (Mo p (l.alloc (aI #[.int .i64 n, .int .i64 pp, .int .u64 f] 77)) gt gf gc T m2/\Kp F w (l.alloc (aI #[.int .i64 n, .int .i64 pp, .int .u64 f] 77))/\Kp p A (l.alloc (aI #[.int .i64 n, .int .i64 pp, .int .u64 f] 77))):=⟨c.keep (aX l _),(t.o.2.1.trans (h.mono d.o.1)).trans ((c.kp (aX l _)).mono d.o.1),(t.o.2.2.trans h).trans (c.kp (aX l _))⟩
     clear c h p0 p1 p2;have a:=r.o.2.2.aY bt d.o.2.2.1;have M:=a.cell 0 (.int .i64 0) rfl;have N:=a.cell 1 (.int .i64 0) rfl;have O:=a.cell 2 (.int .u64 0) rfl;have l0:=a.frozen 0;have l1:=a.frozen 1;have P:=a.frozen 2;go_wp2_with fail
     have x:=bP (r.o.1.IU d.o.2.2.1 (n) (pp) (f)) (r.o.2.1.IV d.o.2.2.2 (b:=w.heap.size+1) aQ (n) (pp) (f));change bodyPost _ _ _ _ _ (eC (l.alloc (aI #[.int .i64 n, .int .i64 pp, .int .u64 f] 77)) (w.heap.size+1) (n) (pp) (f))
     refine bodyPost_ret (v:= .tuple #[.agg #[.int .i64 (n), .int .i64 (pp), .int .u64 (f)], .int .i64 (j)]) (by simp[results,results81,go_sem,eC, *]) rfl ?_;unfold FH;rw[s.o,abQ J.o,abQ L];exact⟨rfl,x.o.1.less d.o.1,x.o.2⟩
  .obtain rfl:j=k:=aQ;have r:=t;have a:=r.o.2.2.aY bt d.o.2.2.1;have M:=a.cell 0 (.int .i64 0) rfl;have N:=a.cell 1 (.int .i64 0) rfl;have O:=a.cell 2 (.int .u64 0) rfl;have l0:=a.frozen 0;have l1:=a.frozen 1;have P:=a.frozen 2;have s:aH (nB (T env) y j 0 st=(⟨0,0,0⟩,j,m)):=by
    unfold aH;rw[<-H.o,Nat.sub_self];rfl
   go_wp2_with fail
   .have x:=bP (r.o.1.IU d.o.2.2.1 (0) (0) (0)) (r.o.2.1.IV d.o.2.2.2 (b:=w.heap.size+1) aQ (0) (0) (0));change bodyPost _ _ _ _ _ (eC wr (w.heap.size+1) (0) (0) (0))
    refine bodyPost_ret (v:= .tuple #[.agg #[aU,aU,bC], .int .i64 (((j:Nat):Int))]) (by simp[results,results81,go_sem,eC, *]) rfl ?_;unfold FH;rw[s.o];exact⟨rfl,x.o.1.less d.o.1,x.o.2⟩
   .obtain rfl:j=0:=aQ;have x:=bP (r.o.1.IU d.o.2.2.1 (0) (0) (0)) (r.o.2.1.IV d.o.2.2.2 (b:=w.heap.size+1) aQ (0) (0) (0));change bodyPost _ _ _ _ _ (eC wr (w.heap.size+1) (0) (0) (0))
    refine bodyPost_ret (v:= .tuple #[.agg #[aU,aU,bC],aU]) (by simp[results,results81,go_sem,eC, *]) rfl ?_;unfold FH;rw[s.o];exact⟨rfl,x.o.1.less d.o.1,x.o.2⟩
end Pa.Cp
end
section
open Go.RowKit
def CR(C:Nat->aA->Prop)(b:Nat×Nat):aA->Prop:=λw=>∃p,b.1<=p/\p<=b.2/\C p w
section
variable{P:aO}{E:aA->Prop}{C:Nat->aA->Prop}{B:List (Nat×Nat)}{Z:Nat->aA->aA->Prop}{made T:List Nat}{S:Nat->aC->aA->Prop}{ops:Array aK}
def YF(made:List Nat)(ops:Array aK)(i:Nat)(o:aK):List Nat:=made.filter λk=>(o.looksAt ops).contains k&&(List.range i).any λj=>jR ops j==some k
def N8(P:aO)(E C:aA->Prop)(Z:aA->aA->Prop)(made:List Nat)(S:Nat->aC->aA->Prop)(ops:Array aK)(i:Nat)(o:aK)(a:Act)(v:aC):Prop:=
 match pG made o with
 |some d=>v=undef/\∀(γ:Nat->aC) (w:aA),C w->(∀k∈YF made ops i o,S k (γ k) w)->AB P Z (S d) w ((execOp (cY γ (YF made ops i o) a).eval o).run P w)
 |none=>
  if YF made ops i o= [] then
   (if nN o then ∀w,(∃n:MB,w=n.w)->o.quietAt P a (λw=>∃n:MB,w=n.w) w v
   else if plain o then ∀w,(∃n:CW E,w=n.w)->o.quietAt P a (λw=>∃n:CW E,w=n.w) w v
   else ∀w,C w->AB P Z (λu _=>u=v) w ((execOp a.eval o).run P w))
  else ∀(γ:Nat->aC) (w:aA),C w->(∀k∈YF made ops i o,S k (γ k) w)->AB P Z (λu _=>u=v) w ((execOp (cY γ (YF made ops i o) a).eval o).run P w)
def qZ(C:aA->Prop)(Z:aA->aA->Prop)(made:List Nat)(S:Nat->aC->aA->Prop)(inT:Bool)(o:aK):Prop:=(∀d,pG made o=some d->∀w,C w->S d undef w)/\(inT=true->∀w,C w->Z w w)
def HAt(P:aO)(ops:Array aK)(T:List Nat)(E:aA->Prop)(C:Nat->aA->Prop)(B:List (Nat×Nat))(Z:Nat->aA->aA->Prop)(made:List Nat)(S:Nat->aC->aA->Prop)(i:Nat)(o:aK)(a:Act)(v:aC):Prop:=
 (Region.wanted o (yielded ops a.tmps)=true/\N8 P E (CR C (B.getD i (0,0))) (Z i) made S ops i o a v)\/(Region.wanted o (yielded ops a.tmps)=false/\v=undef/\qZ (CR C (B.getD i (0,0))) (Z i) made S (T.contains i) o)
end
end
section
open Go.RowKit Go.Lib
variable{sz:Nat}{w w':aA}{A:Option aJ}{F:Nat->Prop}
section
theorem bI.kp{α:Type}{enc:α->List aC}{base c:Nat}{e:aN}{xs:List α}(h:bI enc sz w base e A c xs)(hk:Kp F w w')(hF:∀q,aY A=some q->F q):bI enc sz w' base e A c xs:=by
 refine⟨h.1,?_⟩;rcases h.2 with h1|⟨g,cap,cur,h1,a,b,d⟩
 .exact .inl h1
 .exact .inr ⟨g,cap,cur,h1,a,(hk.block g (hF g (by injection h1 with h1;rw[h1];rfl))).trans b,d⟩
theorem Sl.kp{α:Type}{enc:α->List aC}{xs:List α}(h:Sl enc sz w A xs)(hk:Kp F w w')(hF:∀q,aY A=some q->F q):Sl enc sz w' A xs:=λc=>by
 obtain⟨b,off,a,hc⟩:=h c;exact⟨b,off,a,λi x j u d hu=>hk.cell (hc i x j u d hu) (hF b (by rw[a];rfl))⟩
end
variable{q i j n:Nat}{v:aC}
section
variable{α:Type}{enc:α->List aC}{sz:Nat}
theorem Et(he:∀x,(enc x).length=sz)(k:0<sz)(cur:Array aC)(R:List α)(i c:Nat)(x:α)(hi:i<R.length)(hc:R.length<=c)(hs:cur.size=c *sz)(l:cur.toList.take (R.length *sz)=R.flatMap enc):
 (lay cur (i *sz) (enc x)).toList.take (R.length *sz)=(R.set i x).flatMap enc:=by
 have m:(i+1) *sz<=R.length *sz:=adE _ hi;have n:R.length *sz<=c *sz:=adE _ hc;rw[adW,ae6] at m;apply aeU;intro j;by_cases d:j<R.length *sz
 .rw[acJ,abP d,acE,lay_get? _ _ _ _ (by rw[he];omega),he];have hq:j /sz<R.length:=af0 (by rw[afQ];exact d);have a:j /sz *sz+j%sz=j:=by rw[afQ];exact Nat.div_add_mod j sz
  have e:j%sz<sz:=af9 _ k;by_cases f:j /sz=i
  .have h1:=kM he (R.set i x) i x (j%sz) (by simp[hi]) e;rw[f] at a;rw[abP aQ,show j - i *sz=j%sz by omega,<-h1,a]
  .have h1:=kM he (R.set i x) (j /sz) R[j /sz] (j%sz) (by rw[adU aQ,abL hq]) e;have h:=kM he R (j /sz) R[j /sz] (j%sz) (abL hq) e;have g:¬(i *sz<=j/\j<i *sz+sz):=by
    intro o;rcases aeE (j /sz) i with b|hge
    .have:=adE sz b;rw[Nat.succ_mul] at this;omega
    .have b:i+1<=j /sz:=aQ;have:=adE sz b;rw[adW,ae6] at this;omega
   rw[a] at h1 h;rw[abQ g,h1,<-h,<-l,acJ,abP d,acE]
 .rw[adA (by rw[acQ];omega),adA (by rw[fG he,ab1];omega)]
theorem L5(he:∀x,(enc x).length=sz)(d:0<sz){base:Nat}{e:aN}{c:Nat}{R:List α}(h:bI enc sz w base e q c R)(hi:i<R.length)(x:α):
 bI enc sz (w.setCells q (i *sz) (enc x)) base e q c (R.set i x)/\w.grownBy (w.setCells q (i *sz) (enc x)) (some q):=by
 obtain⟨cur,h1,f,a,g,b,j⟩:=eZ h;refine⟨?_,fF q _ _ w w (bL w q)⟩;have k:=iX q e (enc x) (i *sz) w cur f;have l:=Et he d cur R i c x hi a b j;exact⟨fG he _, .inr ⟨q,c,_,rfl,h1,k,by rw[ab1];exact a,g,by rw[lay_size];exact b,by rw[ab1];exact l⟩⟩
theorem bN(he:eW enc sz){base:Nat}{e:aN}{c:Nat}{R:List α}(h:bI enc sz w base e q c R)(hi:i<R.length)(d:(enc R[i])[j]?=some v):w.cell? (q,i *sz+j)=some v:=by
 obtain⟨b,off,a,hc⟩:=(h.sl he).at_ hi;injection a with a;injection a with h1 f;subst h1 f;simpa using hc j v d
theorem NY{base:Nat}{e:aN}{c:Nat}{R:List α}(h:bI enc sz w base e q c R)(hi:i<c):w.there q (i *sz) sz:=λj b=>by
 have a:(i+1) *sz<=c *sz:=adE _ hi;rw[adW,ae6] at a;exact dF h (i *sz+j) aQ
theorem Ov(he:∀x,(enc x).length=sz){base:Nat}{e:aN}{c:Nat}{R:List α}(h:bI enc sz w base e q c R)(a:n<=R.length):bI enc sz w base e q c (R.take n):=by
 obtain⟨cur,h1,b,j,d,f,g⟩:=eZ h;have hl:(R.take n).length=n:=bX;have i:n *sz<=R.length *sz:=adE _ a;refine⟨fG he _, .inr ⟨q,c,cur,rfl,h1,b,aQ,d,f,?_⟩⟩;rw[hl,NX he,<-g,List.take_take,Nat.min_eq_left i]
end
section
variable{α:Type}{enc:α->List aC}{sz:Nat}
theorem OA(he:∀x,(enc x).length=sz):∀(R:List α) (i j:Nat) (x:α) (v:aC),(hi:i<R.length)->j<sz->enc x=(enc R[i]).set j v->(R.flatMap enc).set (i *sz+j) v=(R.set i x).flatMap enc
 | [],i,j,x,v,hi,_,_=>absurd hi (adR _)
 |y::ys,0,j,x,v,_,a,b=>by
  simp only[acI,abU,aeZ,acP];rw[adT _ _ (by rw[he];exact a),b];rfl
 |y::ys,i+1,j,x,v,hi,a,b=>by
  simp only[acI,abS];rw[ab7 _ _ (by rw[he,adW];omega),he,show(i+1) *sz+j - sz=i *sz+j by rw[adW];omega,OA he ys i j x v (by simpa using hi) a (by simpa using b)]
theorem qM(he:∀x,(enc x).length=sz){base:Nat}{e:aN}{c:Nat}{R:List α}(h:bI enc sz w base e q c R)(hi:i<R.length)(a:j<sz)(x:α)(v:aC)(b:enc x=(enc R[i]).set j v):
 bI enc sz (w.setCell (q,i *sz+j) v) base e q c (R.set i x)/\w.grownBy (w.setCell (q,i *sz+j) v) (some q):=by
 have h1:=World.ownsRow.stored h (i *sz+j) v;rw[OA he R i j x v hi a b] at h1;unfold bI;rw[ab1];exact h1
end
def Ol(F:Nat->Prop)(w:aA):Prop:=∀b,F b->b<w.heap.size
section
variable{F:Nat->Prop}{w w' w'':aA}{q:Nat}
theorem Ol.kp(h:Ol F w)(k:Kp F w w'):Ol F w':=λb hb=>abO (h b hb) k.size
theorem Ol.below(h:Ol F w)(hb:aD w w w'):Kp F w w':=Kp.cD hb h
theorem Ol.self(h:Ol F w)(hq:¬F q)(a:w.grownBy w' (some q)):Kp F w w':=Kp.grown a λb hb=>⟨h b hb,λe=>hq (by injection e with e;rw[<-e];exact hb)⟩
end
end
section
open Go.RowKit Go.Lib Go.Shelf
variable{w:aA}{A:Option aJ}{i:Nat}
section
structure Ck where
 lf:Int
 us:Int
 de:Int
structure Rl where
 at_:Int
 am:Int
def yW(x:Ck):List aC:= [.int .i64 x.lf, .int .i64 x.us, .int .i64 x.de]
def tO(x:Rl):List aC:= [.int .i64 x.at_, .int .i64 x.am]
theorem kZ:eW yW 3:=⟨λ_=>rfl,λx u hu=>by simp[yW] at hu;rcases hu with rfl|rfl|rfl <;> rfl⟩
theorem pN:eW tO 2:=⟨λ_=>rfl,λx u hu=>by simp[tO] at hu;rcases hu with rfl|rfl <;> rfl⟩
theorem U0:(prog.info? 329).map (λi=>(i.zero,i.size,i.bytes))=some (some (.agg #[aU,aU,aU]),3,24):=aV
theorem TV:(prog.info? 327).map (λi=>(i.zero,i.size,i.bytes))=some (some (.agg #[aU,aU]),2,16):=aV
theorem Zo:jL prog 300 329 3 24:=fP underlying300 U0 rfl aQ
theorem Ht:jL prog 301 327 2 16:=fP underlying301 TV rfl aQ
namespace Xk
theorem kX:∀w,(zeroValue 329).run prog w= .ok (.agg #[aU,aU,aU]) w:=λw=>by kernel_rfl
variable{A:Option aJ}{n m:Nat}
theorem fK{c:Nat}(h:n=m):Ending.returned (.slice A n c)= .returned (.slice A m c):=by rw[h]
theorem lV(g c i k base:Nat)(L:List Ck)(w:aA)(own:bI yW 3 w base 329 g c L)(r:L.length=i+1+k)(hl:L.length<=4000000):
 aG prog 156 #[.slice g L.length c,i, .int .i64 ((i:Int)+1)] w λe w'=>e= .returned (.slice g (L.eraseIdx i).length c)/\bI yW 3 w' base 329 g c (L.eraseIdx i)/\w.grownBy w' (some g):=by
 obtain⟨i0,n,G,p,H⟩:=info_parts U0;have s:(L.eraseIdx i).length=i+k:=by rw[adK,abP aQ];omega
 obtain⟨_,_,_,v,x,_,_⟩:=eZ own;simp only[maxLen] at x;obtain⟨news,b⟩:∃news,news=(L.drop (i+1)).flatMap yW:=⟨_,rfl⟩
 have s1:aH (news.length=k *3):=by unfold aH;rw[b,fG kZ.len,ad5];omega
 have s2:aH (∀u∈news,u.oneCell'=true):=λu hu=>rC kZ _ u (by rw[<-b];exact hu)
 have D:aH (∀t,t<news.length->(w.drew.cell? ⟨g,0+i *3+t,none⟩).isSome=true/\w.drew.frozen? ⟨g,0+i *3+t,none⟩=false):=λt E=>by
  rw[s1.o] at E;exact dF own _ aQ
 have I:aH (∀t u,news[t]?=some u->w.drew.cell? ((⟨g,(i+1) *3,none⟩:aJ).add t)=some u):=λt u hu=>by
  have E:t<k *3:=by rw[<-s1.o];exact(ab3.1 hu).1
  have hF:=oJ kZ.len L (i+1);rw[b,hF,adD] at hu;rw[Addr.add_lit];obtain⟨cur,_,J,_,_,_,K⟩:=eZ own;show w.cell? _=_;rw[cell_of_row w g _ cur _ (0,0) J,<-hu,<-K,acJ,abP aQ,acE]
 obtain⟨m,h⟩:∃m,m=w.drew.setCells g (0+i *3) news:=⟨_,rfl⟩
 have F:=aP h;have y:=tL (w:=w.drew) kZ.len own.drew i k r [.int .i64 0, .int .i64 0, .int .i64 0] rfl;rw[<-b,show i *3=0+i *3 by omega,<-h] at y;have a:=aP y;have d:∀j,j<c *3->(m.cell? ⟨g,j,none⟩).isSome=true/\m.frozen? ⟨g,j,none⟩=false:=λj z=>by
  rw[h];have:=dF own j z;exact⟨Go.World.isSome_setCells g _ _ _ _ this.1,by rw[World.frozen?_setCells];exact this.2⟩
 have l:∀ty q A,q=1->(Builtin.clear_ #[300] ty #[.slice (some ⟨g,(i+k) *3,none⟩) q A]).run prog m= .ok (.tuple #[]) (m.setCells g ((i+k) *3) [.int .i64 0, .int .i64 0, .int .i64 0]):=λty q A B=>
  lG m _ 329 ty _ underlying300 kX [.int .i64 0, .int .i64 0, .int .i64 0] aV cE g ((i+k) *3) q A B (λj z=>d _ (by simp at z;omega))
 clear h y d b;rw[r];rw[r] at v;have M:i<=c:=aQ;have N:i+1<=c:=aQ;have O:(0:Int)<=i+1:=aQ;have P:(i:Int)+1<=(i:Int)+1+(k:Int):=aQ;by_cases hce:c=i+1
 .obtain rfl:k=0:=aQ;obtain rfl:news= []:=acM (by rw[s1.o]);have C:aH (∀t u,([]:List aC)[t]?=some u->w.drew.cell? ((⟨g,0,none⟩:aJ).add t)=some u):=λt u hu=>by simp at hu
  subst hce;have f:=λty=>l ty (i+1 - i) (i+1 - i) aQ
  simp only[acC] at f s⊢;have Q:(i:Int)<=(i:Int)+1:=aQ;have R:i+1 - i=1:=aQ;rw[R] at f;clear l;go_enter func156,ntmps156
  go_wp2_with fail
  go_region_law (refine step_append_room rfl (.tmp 22) (.tmp 25) 300 rfl 329 i0 3 underlying300 n p g 0 i (i+1) (by simp[Act.eval,Act.put]) ⟨g,0,none⟩ 0 0 [] (by simp[Act.eval,Act.put]) s1.o C.o s2.o aQ D.o ?_;rw[<-F.o])
  go_wp2
  go_ret
  exact⟨fK aQ,a.o.1,⟨a.o.2.os,a.o.2.tape,a.o.2.output,a.o.2.size,a.o.2.block⟩⟩
 .have f:=λty=>l ty (i+1+k - (i+k)) (c - (i+k)) aQ
  clear l;go_enter func156,ntmps156
  go_wp2_with fail
  go_region_law (refine step_append_room rfl (.tmp 22) (.tmp 25) 300 rfl 329 i0 3 underlying300 n p g 0 i c (by simp[Act.eval,Act.put]) ⟨g,(i+1) *3,none⟩ k (c - (i+1)) news (by simp[Act.eval,Act.put]) s1.o I.o s2.o aQ D.o ?_;rw[<-F.o])
  go_wp2
  go_ret
  exact⟨fK aQ,a.o.1,⟨a.o.2.os,a.o.2.tape,a.o.2.output,a.o.2.size,a.o.2.block⟩⟩
end Xk
namespace Xg
theorem kX:∀w,(zeroValue 327).run prog w= .ok (.agg #[aU,aU]) w:=λw=>by kernel_rfl
variable{A:Option aJ}{n m:Nat}
theorem fK{c:Nat}(h:n=m):Ending.returned (.slice A n c)= .returned (.slice A m c):=by rw[h]
theorem lV(g c i k base:Nat)(L:List Rl)(w:aA)(own:bI tO 2 w base 327 g c L)(r:L.length=i+1+k)(hl:L.length<=4000000):
 aG prog 154 #[.slice g L.length c,i, .int .i64 ((i:Int)+1)] w λe w'=>e= .returned (.slice g (L.eraseIdx i).length c)/\bI tO 2 w' base 327 g c (L.eraseIdx i)/\w.grownBy w' (some g):=by
 obtain⟨i0,n,G,p,H⟩:=info_parts TV;have s:(L.eraseIdx i).length=i+k:=by rw[adK,abP aQ];omega
 obtain⟨_,_,_,v,x,_,_⟩:=eZ own;simp only[maxLen] at x;obtain⟨news,b⟩:∃news,news=(L.drop (i+1)).flatMap tO:=⟨_,rfl⟩
 have s1:aH (news.length=k *2):=by unfold aH;rw[b,fG pN.len,ad5];omega
 have s2:aH (∀u∈news,u.oneCell'=true):=λu hu=>rC pN _ u (by rw[<-b];exact hu)
 have D:aH (∀t,t<news.length->(w.drew.cell? ⟨g,0+i *2+t,none⟩).isSome=true/\w.drew.frozen? ⟨g,0+i *2+t,none⟩=false):=λt E=>by
  rw[s1.o] at E;exact dF own _ aQ
 have I:aH (∀t u,news[t]?=some u->w.drew.cell? ((⟨g,(i+1) *2,none⟩:aJ).add t)=some u):=λt u hu=>by
  have E:t<k *2:=by rw[<-s1.o];exact(ab3.1 hu).1
  have hF:=oJ pN.len L (i+1);rw[b,hF,adD] at hu;rw[Addr.add_lit];obtain⟨cur,_,J,_,_,_,K⟩:=eZ own;show w.cell? _=_;rw[cell_of_row w g _ cur _ (0,0) J,<-hu,<-K,acJ,abP aQ,acE]
 obtain⟨m,h⟩:∃m,m=w.drew.setCells g (0+i *2) news:=⟨_,rfl⟩
 have F:=aP h;have y:=tL (w:=w.drew) pN.len own.drew i k r [.int .i64 0, .int .i64 0] rfl;rw[<-b,show i *2=0+i *2 by omega,<-h] at y;have a:=aP y;have d:∀j,j<c *2->(m.cell? ⟨g,j,none⟩).isSome=true/\m.frozen? ⟨g,j,none⟩=false:=λj z=>by
  rw[h];have:=dF own j z;exact⟨Go.World.isSome_setCells g _ _ _ _ this.1,by rw[World.frozen?_setCells];exact this.2⟩
 have l:∀ty q A,q=1->(Builtin.clear_ #[301] ty #[.slice (some ⟨g,(i+k) *2,none⟩) q A]).run prog m= .ok (.tuple #[]) (m.setCells g ((i+k) *2) [.int .i64 0, .int .i64 0]):=λty q A B=>
  lG m _ 327 ty _ underlying301 kX [.int .i64 0, .int .i64 0] aV cE g ((i+k) *2) q A B (λj z=>d _ (by simp at z;omega))
 clear h y d b;rw[r];rw[r] at v;have M:i<=c:=aQ;have N:i+1<=c:=aQ;have O:(0:Int)<=i+1:=aQ;have P:(i:Int)+1<=(i:Int)+1+(k:Int):=aQ;by_cases hce:c=i+1
 .obtain rfl:k=0:=aQ;obtain rfl:news= []:=acM (by rw[s1.o]);have C:aH (∀t u,([]:List aC)[t]?=some u->w.drew.cell? ((⟨g,0,none⟩:aJ).add t)=some u):=λt u hu=>by simp at hu
  subst hce;have f:=λty=>l ty (i+1 - i) (i+1 - i) aQ
  simp only[acC] at f s⊢;have Q:(i:Int)<=(i:Int)+1:=aQ;have R:i+1 - i=1:=aQ;rw[R] at f;clear l;go_enter func154,ntmps154
  go_wp2_with fail
  go_region_law (refine step_append_room rfl (.tmp 22) (.tmp 25) 301 rfl 327 i0 2 underlying301 n p g 0 i (i+1) (by simp[Act.eval,Act.put]) ⟨g,0,none⟩ 0 0 [] (by simp[Act.eval,Act.put]) s1.o C.o s2.o aQ D.o ?_;rw[<-F.o])
  go_wp2
  go_ret
  exact⟨fK aQ,a.o.1,⟨a.o.2.os,a.o.2.tape,a.o.2.output,a.o.2.size,a.o.2.block⟩⟩
 .have f:=λty=>l ty (i+1+k - (i+k)) (c - (i+k)) aQ
  clear l;go_enter func154,ntmps154
  go_wp2_with fail
  go_region_law (refine step_append_room rfl (.tmp 22) (.tmp 25) 301 rfl 327 i0 2 underlying301 n p g 0 i c (by simp[Act.eval,Act.put]) ⟨g,(i+1) *2,none⟩ k (c - (i+1)) news (by simp[Act.eval,Act.put]) s1.o I.o s2.o aQ D.o ?_;rw[<-F.o])
  go_wp2
  go_ret
  exact⟨fK aQ,a.o.1,⟨a.o.2.os,a.o.2.tape,a.o.2.output,a.o.2.size,a.o.2.block⟩⟩
end Xg
def JS(L:List Rl)(de:Int):Int:=match L.findIdx? λr=>decide (de<r.at_) with|some i=>i|none=> -1
theorem Sl.Ll{xs:List Rl}(h:Sl tO 2 w A xs)(hi:i<xs.length):
 ∃b off,A=some ⟨b,off,none⟩/\w.cell? ⟨b,off+i *2,none⟩=some (.int .i64 xs[i].at_)/\w.cell? ⟨b,off+i *2+1,none⟩=some (.int .i64 xs[i].am):=by
 obtain⟨b,off,a,hc⟩:=h.at_ hi;exact⟨b,off,a,by simpa using hc 0 _ (show(tO xs[i])[0]?=some (.int .i64 xs[i].at_) from rfl),by simpa[acU] using hc 1 _ (show(tO xs[i])[1]?=some (.int .i64 xs[i].am) from rfl)⟩
theorem Z4(de:Int)(e:Rl)(b:Nat)(w:aA)(c1:w.cell? (b,2)=some (.int .i64 de)):
 aG prog 201 #[.agg #[e.at_,e.am], .pointer b] w λr w'=>r= .returned (.bool (decide (de<e.at_)))/\aD w w w':=by
 have h1:=bK (aX w (aI #[e.at_,e.am] 327)) c1;clear c1;go_enter func201,ntmps201
 go_wp2
 go_ret
 exact⟨jP aT,aX _ _⟩
theorem S8:∀args w,(callFunc 201 args).run prog w= .ok (.enter 201 args) w:=enters_of func201 aV rfl
theorem U6(A:Option aJ)(L:List Rl)(c:Nat)(de:Int)(b1:Nat)(w:aA)(hs:Sl tO 2 w A L)(hl:L.length<=4000000)(c1:w.cell? (b1,2)=some (.int .i64 de)):
 aG prog 200 #[(A,L.length,c), .func (.func 201) #[] #[.pointer b1]] w λe w'=>e= .returned (.int .i64 (JS L de))/\aD w w w':=by
 have t:=S8;go_enter func200,ntmps200
 go_wp2
 go_loopw [5,8] (λ_ p wr=>∃k:Nat,k<=L.length/\p= .int .i64 k/\aD w w wr/\aH (∀j,(a:j<L.length)->j<k->decide (de<L[j].at_)=false)) (λ_ i _=>L.length - (aL i).toNat)
 case atStart=>exact⟨0,abX _,rfl,Below.refl _ w,λj a h=>absurd h (adR _)⟩
 case round=>
  obtain⟨k,hk,rfl,d,f⟩:=hrel;by_cases g:k<L.length
  .obtain⟨b,off,rfl,u,v⟩:=(hs.keep d).Ll g;have z:(0:Int)<=k:=aQ;have B:(k:Int)<(L.length:Int):=aQ;have hc:=Z4 de L[k] b1 wr (bK d c1);have HQ:aH (decide (de<L[k].at_)=true->JS L de=k):=λh=>by
    unfold JS;rw[ab9.2 ⟨g,h,λj a=>by rw[f.o j aQ a];simp⟩]
   have l:aH (decide (de<L[k].at_)=false->∀j,(a:j<L.length)->j<k+1->decide (de<L[j].at_)=false):=λh j a q=>by
    by_cases he:j=k
    .subst he;exact h
    .exact f.o j a aQ
   clear f;generalize L[k]=y at *;cases hq:decide (de<y.at_) with
   |true=>
    rw[hq] at hc;have m:=aP (HQ.o hq);clear hq HQ l;go_wp2_with(go_at_fn 201;(with_reducible refine hc.mono ?_);rintro e w' ⟨rfl,hb⟩)
    go_ret
    exact⟨lT m.o.symm,fO d (abM _) hb⟩
   |false=>
    rw[hq] at hc;have n:=aP (l.o hq);clear hq HQ l;go_wp2_with(go_at_fn 201;(with_reducible refine hc.mono ?_);rintro e w' ⟨rfl,hb⟩)
    go_roundw
    case rel=>exact⟨k+1,aQ,by go_num,fO d (abM _) hb,n.o⟩
    case measure=>simp[aL];omega
  .obtain rfl:k=L.length:=aQ;have r:aH (JS L de= -1):=by
    unfold aH JS;rw[ac0.2 (λx s=>by obtain⟨j,a,rfl⟩:=acF s;exact f.o j a a)]
   clear f;go_wp2
   go_ret
   exact⟨lT r.o.symm,d⟩
end
variable{sz q g:Nat}{cs:Array aC}{F:Nat->Prop}
section
theorem Jn{base c:Nat}{A:Option aJ}{L:List Rl}(y:Rl)(V d:Nat)(w:aA)(own:bI tO 2 w base 327 A c L)(hb:base<=w.heap.size)(hV:Sl tO 2 w V [y])(hl:L.length<=4000000):
 aG prog 202 #[(A,L.length,c),L.length, .slice V 1 d] w λe w'=>∃(A':Option aJ) (c':Nat),e= .returned (.slice A' (L.length+1) c')/\bI tO 2 w' base 327 A' c' (L++ [y])/\w.grownBy w' (aY A)/\(aY A'=aY A\/aY A'=some w.heap.size):=by
 have hcap:=own.cap;obtain⟨n,hn⟩:∃n,n=L.length:=⟨_,rfl⟩
 rw[<-hn] at hcap hl⊢;have HN:=aP hn.symm;have n0:(0:Int)<=n:=aQ;have n1:(n:Int)<=(c:Int):=aQ;clear hn;rcases own.shape with⟨rfl,h2,rfl⟩|⟨g,rfl⟩
 .obtain rfl:n=0:=by have:=HN.o;rw[h2] at this;simpa using this.symm
  go_enter func202,ntmps202
  go_wp2_with(at_builtin;refine bS w rfl (.tmp 23) (.tmp 24) rfl Ht pN own (n:=0) HN.o rfl (m:=1) rfl (ys:= [y]) rfl hV dN aQ hb _ rfl 1 rfl ?_;intro A5 c5 w6 own6 hg6 at6;(have HW:=dH own6 hg6 at6);clear own6 hg6 at6)
  go_ret
  exact⟨A5,c5,rfl,HW.o.1,HW.o.2.1,HW.o.2.2⟩
 .by_cases hnc:c=n
  .subst hnc;go_enter func202,ntmps202
   go_wp2_with(at_builtin;refine bS w rfl (.tmp 23) (.tmp 24) rfl Ht pN own (n:=c) HN.o rfl (m:=1) rfl (ys:= [y]) rfl hV dN aQ hb _ rfl (c+1) rfl ?_;intro A5 c5 w6 own6 hg6 at6;(have HW:=dH own6 hg6 at6);clear own6 hg6 at6)
   go_ret
   exact⟨A5,c5,rfl,HW.o.1,HW.o.2.1,HW.o.2.2⟩
  .go_enter func202,ntmps202
   go_wp2_with(at_builtin;refine bS w rfl (.tmp 23) (.tmp 24) rfl Ht pN own (n:=n) HN.o rfl (m:=1) rfl (ys:= [y]) rfl hV dN aQ hb _ rfl (n+1) rfl ?_;intro A5 c5 w6 own6 hg6 at6;(have HW:=dH own6 hg6 at6);clear own6 hg6 at6)
   go_ret
   exact⟨A5,c5,rfl,HW.o.1,HW.o.2.1,HW.o.2.2⟩
structure Sv where
 bu:Int
 pe:Int
 nw:Int
 av:Int
 ch:List Ck
 rf:List Rl
 cg:Int
def zK(s:Sv)(A:Option aJ)(c:Nat)(B:Option aJ)(d:Nat):Array aC:=#[s.bu,s.pe,s.nw,s.av,(A,s.ch.length,c),(B,s.rf.length,d),s.cg]
structure gW(F:Nat->Prop)(w:aA)(g:Nat)(s:Sv)(A:Option aJ)(c:Nat)(B:Option aJ)(d:Nat):Prop where
 b:bE w g 303 (zK s A c B d)
 oA:bI yW 3 w (g+1) 329 A c s.ch
 oB:bI tO 2 w (g+1) 327 B d s.rf
 fl:Ol F w
 fg:¬F g
 fA:∀q,aY A=some q->¬F q
 fB:∀q,aY B=some q->¬F q
def sO(F:Nat->Prop)(w:aA)(g:Nat)(s:Sv):Prop:=∃A c B d,gW F w g s A c B d
theorem qJ{α:Type}{enc:α->List aC}{B c:Nat}{e:aN}{xs:List α}(h:bI enc sz w B e A c xs):∀q,aY A=some q->∃cs,bE w q e cs:=λq hq=>by
 rcases h.2 with⟨a,_⟩|⟨g,cap,cur,a,f,b,_⟩
 .injection a with a;rw[a] at hq;cases hq
 .injection a with a;rw[a] at hq;injection hq with hq;subst hq;exact⟨cur,b⟩
theorem RE{p:Nat}{t b:aN}{cs':Array aC}(h:bE w p t cs)(a:bE w q b cs')(f:t≠b):p≠q:=λe=>by
 subst e;unfold bE at h a;rw[h] at a;injection a with a;injection a with _ i;exact f i
section
variable{F:Nat->Prop}{w w':aA}{g c d:Nat}{s:Sv}{A B:Option aJ}
theorem gW.apart(h:gW F w g s A c B d):∀q,aY A=some q->aY B≠some q:=λq hq e=>by
 obtain⟨cs,h1⟩:=qJ h.oA q hq;obtain⟨cs',a⟩:=qJ h.oB q e;exact RE h1 a cE rfl
theorem gW.keep(h:gW F w g s A c B d)(hb:aD w w w'):gW F w' g s A c B d:=⟨h.b.keep hb,h.oA.keep hb,h.oB.keep hb,h.fl.kp (h.fl.below hb),h.fg,h.fA,h.fB⟩
theorem tG{α:Type}{enc:α->List aC}{e:aN}{xs:List α}(h:bI enc sz w (g+1) e A c xs):aY A=none\/aY A≠some g:= .inr λe=>by have:=(h.lt g e).1;omega
theorem gW.cells(h:gW F w g s A c B d){s':Sv}(hc:s'.ch=s.ch)(b:s'.rf=s.rf)(a:w.grownBy w' (some g))(hb:bE w' g 303 (zK s' A c B d)):gW F w' g s' A c B d/\Kp F w w':=by
 have k:=h.fl.self h.fg a;exact⟨⟨hb,by rw[hc];exact h.oA.kept a (tG h.oA),by rw[b];exact h.oB.kept a (tG h.oB),h.fl.kp k,h.fg,h.fA,h.fB⟩,k⟩
end
theorem NI{s:Sv}(h:sO F w g s)(hl:s.ch.length<=4000000):aG prog 116 #[.pointer g] w λe w'=>e= .returned (match s.ch with| []=> .tuple #[aU,false]|x::_=> .tuple #[x.de,true])/\w=w':=by
 obtain⟨A,c,B,d,h⟩:=h;have c3:=h.b.cell 4 (.slice A s.ch.length c) rfl;cases a:s.ch with
 |nil=>
  rw[a] at c3;simp only[ac2] at c3;clear h;go_enter func116,ntmps116
  go_wp2_with fail
  go_ret2
  exact⟨rfl,rfl⟩
 |cons x xs=>
  have f:=h.oA;rw[a] at c3 f hl;simp only[acN] at c3 hl;obtain⟨q,rfl⟩:∃q,A=some ⟨q,0,none⟩:=by
   rcases f.shape with⟨_,k,_⟩|k
   .cases k
   .exact k
  have d2:w.cell? ⟨q,2,none⟩=some (.int .i64 x.de):=by simpa using bN kZ f (i:=0) aT (j:=2) (v:= .int .i64 x.de) rfl
  have n0:(0:Int)<(xs.length:Int)+1:=aQ;clear h f a;generalize xs.length=n at *;go_enter func116,ntmps116
  go_wp2_with fail
  go_ret2
  exact⟨rfl,rfl⟩
theorem OU(w:aA):aG prog 116 #[pK] w λe w'=>e= .returned (.tuple #[aU,false])/\w=w':=by
 go_enter func116,ntmps116
 go_wp2_with fail
 go_ret2
 exact⟨rfl,rfl⟩
end
variable{v:aC}{w' w6:aA}{d n:Nat}{B A6:Option aJ}
section
def mX(s:Sv)(x:Ck):Sv:=if x.us=0 then s else {s with rf:=s.rf++ [⟨x.de,x.us⟩]}
def X8(y:Rl)(N:Nat)(v:aC)(w:aA):Prop:=∃G,v= .slice (some ⟨G,0,none⟩) 1 1/\N<=G/\Sl tO 2 w (some ⟨G,0,none⟩) [y]
theorem X8.keep{y:Rl}(h:X8 y g v w)(a:bQ w w'):X8 y g v w':=by obtain⟨G,h1,b,c⟩:=h;exact⟨G,h1,b,c.keep a⟩
def Tr(F:Nat->Prop)(g:Nat)(v:aC)(s:Sv)(w:aA)(e:Ending)(w':aA):Prop:=e= .returned v/\sO F w' g s/\Kp F w w'
theorem gW.PJ{c c6:Nat}{s:Sv}{y:Rl}(h:gW F w g s A c B d)(o:n=s.rf.length)(a:bI tO 2 w6 (g+1) 327 A6 c6 (s.rf++ [y]))(j:w.grownBy w6 (aY B))(k:aY A6=aY B\/aY A6=some w.heap.size):
 gW F (w6.setCell (g,5) (.slice A6 (n+1) c6)) g {s with rf:=s.rf++ [y]} A c A6 c6/\Kp F w (w6.setCell (g,5) (.slice A6 (n+1) c6)):=by
 have l:Kp F w w6:=Kp.grown j λb hb=>⟨h.fl b hb,λe=>h.fB b e.symm hb⟩
 have p:=h.b.grown j (λe=>by have:=(h.oB.lt g e.symm).1;omega);have i:bI yW 3 w6 (g+1) 329 A c s.ch:=h.oA.kept j (by
  cases hb:aY A with
  |none=>exact .inl rfl
  |some q=>right;intro e;exact h.apart q hb e.symm)
 have f:=aZ (bL w6 g) 5 (.slice A6 (n+1) c6);have m:Kp F w6 (w6.setCell (g,5) (.slice A6 (n+1) c6)):=(h.fl.kp l).self h.fg f;refine⟨⟨?_,i.kept f (tG i),a.kept f (tG a),(h.fl.kp l).kp m,h.fg,h.fA,λq hq hF=>?_⟩,l.trans m⟩
 .have:=p.cB 5 (.slice A6 (n+1) c6);subst o;simpa[zK] using this
 .rcases k with e|e
  .exact h.fB q (e ▸ hq) hF
  .rw[e] at hq;injection hq with hq;have:=h.fl q hF;omega
theorem YN{c:Nat}{s:Sv}(h:gW F w g s A c B d)(x:Ck)(I:∀r∈s.rf,r.at_<=x.de)(hl:s.rf.length<=3000000):
 aG prog 155 #[.pointer g, .agg #[x.lf,x.us,x.de]] w λe w'=>e= .returned (.tuple #[])/\(∃B' d',gW F w' g (mX s x) A c B' d')/\Kp F w w':=by
 have q:=bE.new w 329 #[x.lf,x.us,x.de];have h1:=h.keep (aX w (aI #[x.lf,x.us,x.de] 329));have D:=h.fl.below (aX w (aI #[x.lf,x.us,x.de] 329));by_cases hu:x.us=0
 .have J:aH (mX s x=s):=by unfold aH mX;rw[abP hu]
  have u:=q.cell 1 x.us rfl;have xu:(x.us==0)=true:=by simp[hu]
  have HD:=bP h1 D;clear h1 D q hu h I;go_enter func155,ntmps155
  go_wp2_with fail
  refine bodyPost_ret (v:= .tuple #[]) (by simp[results,results155,go_sem]) rfl ?_;exact⟨rfl,by rw[J.o];exact⟨B,d,HD.o.1⟩,HD.o.2⟩
 .have J:aH (mX s x={s with rf:=s.rf++ [⟨x.de,x.us⟩]}):=by unfold aH mX;rw[abQ hu]
  have E:=aP (U6 B s.rf d x.de w.heap.size _ (h1.oB.sl pN) aQ (q.cell 2 _ rfl));have hp:JS s.rf x.de= -1:=by
   unfold JS;rw[ac0.2 (λr hr=>by have:=I r hr;simp;omega)]
  rw[hp] at E;have u:=q.cell 1 x.us rfl;have c5:=h1.b.cell 5 (.slice B s.rf.length d) rfl;have xu:(x.us==0)=false:=by simpa using hu
  have HD:=dH h1 D q;obtain⟨n,L⟩:∃n,n=s.rf.length:=⟨_,rfl⟩
  rw[<-L] at E c5 hl;have M:=aP L;clear h1 D q hu h I L hp;go_enter func155,ntmps155
  go_upto_region 1 with(fail)
  generalize w.alloc (aI #[x.lf,x.us,x.de] 329)=w1 at *;generalize w.heap.size=xq at *;go_wp2_with fail
  refine aR E ?_;rintro e w2 ⟨rfl,hb⟩;replace c5:=bK hb c5;have T:=(HD.o.2.2.keep hb).cell 2 x.de rfl;replace u:=bK hb u;have l:=bP (HD.o.1.keep hb) (HD.o.2.1.trans (HD.o.1.fl.below hb));clear hb E HD;obtain⟨y,N⟩:∃y:Rl,y=⟨x.de,x.us⟩:=⟨_,rfl⟩
  have U:aH (∀(W:aA) t,Sl tO 2 (W.alloc (.cells #[x.de,x.us] t)) (some ⟨W.heap.size,0,none⟩) [y]):=λW t=>Sl.new pN W y _ (by rw[N];rfl) t
  have O:=aP N;clear N;go_upto_region 5 with(fail)
  have a:=bD u;have f:=bD T;have i:=bD c5;refine bM (bQ _) (λ_=>bQ) [32] (λ_ v w=>X8 y w2 v w) [12,15] [[12,11,10,7], [12,11,10,9]] 36 (bZ _) (λ_ _ _ h P=>bV h P) (λ_ d hd _ v w w' _ h P=>h.keep P) aV aV bF ?_;repeat (first|(refine eK ?_)|(refine sC 32 [] bF bF bF bF (λγ w hC Q=>?_) ?_;(simp only[cY];go_simp;exact pB (aX w _) ⟨_,rfl,Below.size hC,U.o w _⟩);(try refine dE ?_)))
  refine dI ?_;intro γ w5 m Q;clear a f i;simp only[cY,Act.put,abN,abU,abS];refine dS ?_;obtain⟨G,V,hG,z⟩:=Q 32 aT;rw[V];have H:=l.o.1.keep m;have R:=Jn y G 1 w5 H.oB (by have:=H.b.lt;omega) z (by rw[<-M.o];omega);rw[<-M.o] at R;have S:=aP R;have j:=bP H (l.o.2.trans (l.o.1.fl.below m));clear V Q U c5 u T H m z R;refine wpList_plain rfl (λK hK=>?_);go_wp2_with fail
  refine aR S ?_;rintro e X ⟨A6,c6,rfl,k,p,C⟩;refine hK _ _ ?_;clear hK K;try refine dE ?_
  have Y:=j.o.1.b.grown p (λe=>by have:=(j.o.1.oB.lt g e.symm).1;omega);refine dZ X rfl 301 _ _ rfl g 5 (.slice A6 (n+1) c6) rfl rfl aV rfl (Y.one (by simp[zK])) ?_;refine cN ?_;try simp only[Act.put]
  obtain⟨m1,m2⟩:=j.o.1.PJ M.o k p C;have Z:=bP m1 (j.o.2.trans m2);generalize X.setCell (g,5) (.slice A6 (n+1) c6)=w7 at *;clear m1 m2 k p C Y;go_wp2_with fail
  go_end0
  exact⟨rfl,by rw[J.o,<-O.o];exact⟨_,_,Z.o.1⟩,Z.o.2⟩
theorem Hi{s:Sv}(h:sO F w g s)(x:Ck)(a:∀r∈s.rf,r.at_<=x.de)(hl:s.rf.length<=3000000):
 aG prog 155 #[.pointer g, .agg #[x.lf,x.us,x.de]] w (Tr F g (.tuple #[]) (mX s x) w):=by
 obtain⟨A,c,B,d,h⟩:=h;exact(YN h x a hl).mono λe w' ⟨h1,⟨f,d',b⟩,h3⟩=>⟨h1,⟨_,_,_,_,b⟩,h3⟩
end
variable{j:Nat}{w5:aA}
section
section
variable{F:Nat->Prop}{w:aA}{g q c d:Nat}{s:Sv}{B:Option aJ}{x:Ck}{xs:List Ck}
structure HdF(w:aA)(g q c:Nat)(x:Ck)(n:Nat):Prop where
 c4:w.cell? (g,4)=some (.slice q (n+1) c)
 d0:w.cell? (q,0)=some (.int .i64 x.lf)
 d1:w.cell? (q,1)=some (.int .i64 x.us)
 d2:w.cell? (q,2)=some (.int .i64 x.de)
 f0:w.frozen? (q,0)=false
 f1:w.frozen? (q,1)=false
theorem gW.hd(h:gW F w g s q c B d)(hs:s.ch=x::xs):HdF w g q c x xs.length:=by
 have a:=h.oA;rw[hs] at a;have e:=a.cap;simp only[acN] at e;refine⟨?_,?_,?_,?_,(dF a 0 aQ).2,(dF a 1 aQ).2⟩
 .have:=h.b.cell 4 (.slice q s.ch.length c) rfl;rw[hs] at this;exact this
 .simpa using bN kZ a (i:=0) aT (j:=0) (v:= .int .i64 x.lf) rfl
 .simpa using bN kZ a (i:=0) aT (j:=1) (v:= .int .i64 x.us) rfl
 .simpa using bN kZ a (i:=0) aT (j:=2) (v:= .int .i64 x.de) rfl
theorem gW.head(h:gW F w g s q c B d)(hs:s.ch=x::xs)(n:j<3)(a:Ck)(v:aC)(o:yW a=(yW x).set j v):gW F (w.setCell (q,j) v) g {s with ch:=a::xs} (some ⟨q,0,none⟩) c B d/\Kp F w (w.setCell (q,j) v):=by
 have m:=h.oA;rw[hs] at m;obtain⟨h1,f⟩:=qM kZ.len m (i:=0) aT n a v o;simp only[aeZ,acP,abU] at h1 f;have k:=h.fl.self (h.fA q rfl) f;have l:g≠q:=λe=>by have t:=(h.oA.lt q rfl).1;omega
 refine⟨⟨?_,h1,h.oB.kept f ?_,h.fl.kp k,h.fg,h.fA,h.fB⟩,k⟩
 .have:=h.b.rI (p:=⟨q,j,none⟩) l v;simpa[zK,hs] using this
 .cases hb:aY B with
  |none=>exact .inl rfl
  |some r=>right;intro e;exact h.apart q rfl (by rw[hb];exact e)
theorem gW.Vs(h:gW F w g s q c B d)(v:Int):gW F (w.setCell (g,6) v) g {s with cg:=v} (some ⟨q,0,none⟩) c B d/\Kp F w (w.setCell (g,6) v):=
 h.cells (s':={s with cg:=v}) rfl rfl (aZ (bL w g) 6 _) (by have:=h.b.cB 6 v;simpa[zK] using this)
end
theorem gW.cut{c:Nat}{s:Sv}{xs:List Ck}(h:gW F w g s q c B d)(o:n=xs.length)(a:bI yW 3 w5 (g+1) 329 q c xs)(j:w.grownBy w5 (some q)):
 gW F (w5.setCell (g,4) (.slice q n c)) g {s with ch:=xs} (some ⟨q,0,none⟩) c B d/\Kp F w (w5.setCell (g,4) (.slice q n c)):=by
 subst o;have k:Kp F w w5:=h.fl.self (h.fA q rfl) j;have l:g≠q:=λe=>by have t:=(h.oA.lt q rfl).1;omega
 have p:=h.b.grown j (λe=>l (by injection e));have i:bI tO 2 w5 (g+1) 327 B d s.rf:=h.oB.kept j (by
  cases hb:aY B with
  |none=>exact .inl rfl
  |some r=>right;intro e;exact h.apart q rfl (by rw[hb];exact e))
 have f:=aZ (bL w5 g) 4 (.slice q xs.length c);have m:=(h.fl.kp k).self h.fg f;exact⟨⟨by have:=p.cB 4 (.slice q xs.length c);simpa[zK] using this,a.kept f (tG a),i.kept f (tG i),(h.fl.kp k).kp m,h.fg,h.fA,h.fB⟩,k.trans m⟩
theorem Jh(s:Sv)(x:Ck):(mX s x).ch=s.ch:=by unfold mX;split <;> rfl
def C4(s:Sv):Sv:=match s.ch with
 | []=>s
 |x::xs=>if x.lf - 1=0 then {mX {s with ch:=⟨x.lf - 1,x.us+1,x.de⟩::xs,cg:=s.cg+1} ⟨x.lf - 1,x.us+1,x.de⟩ with ch:=xs} else {s with ch:=⟨x.lf - 1,x.us+1,x.de⟩::xs,cg:=s.cg+1}
theorem Gz{s:Sv}{x:Ck}{xs:List Ck}(h:sO F w g s)(hs:s.ch=x::xs)(J:∀r∈s.rf,r.at_<=x.de)(hl:s.rf.length<=3000000)(t:s.ch.length<=3000000)
 (b1:1<=x.lf/\x.lf<=1048576) (b2:0<=x.us/\x.us<=1048576) (b3:0<=s.cg/\s.cg<=1048576):
 aG prog 114 #[.pointer g] w (Tr F g (.bool true) (C4 s) w):=by
 obtain⟨A,c,B,d,h⟩:=h;obtain⟨q,rfl⟩:∃q,A=some ⟨q,0,none⟩:=by
  rcases h.oA.shape with⟨_,f,_⟩|f
  .rw[f] at hs;cases hs
  .exact f
 have V:=h.hd hs;obtain⟨m1,K⟩:=h.head hs (j:=0) aQ ⟨x.lf - 1,x.us,x.de⟩ (.int .i64 (x.lf - 1)) rfl;have h1:=m1.hd rfl;obtain⟨m2,L⟩:=m1.head rfl (j:=1) aQ ⟨x.lf - 1,x.us+1,x.de⟩ (.int .i64 (x.us+1)) rfl;have f:=m2.b.cell 6 s.cg rfl;obtain⟨m3,M⟩:=m2.Vs (s.cg+1);have N:=m3.hd rfl;have G:xs.length+1<=3000000:=by rw[hs] at t;exact t
 have O:aH (C4 s=if x.lf - 1=0 then {mX {s with ch:=⟨x.lf - 1,x.us+1,x.de⟩::xs,cg:=s.cg+1} ⟨x.lf - 1,x.us+1,x.de⟩ with ch:=xs} else {s with ch:=⟨x.lf - 1,x.us+1,x.de⟩::xs,cg:=s.cg+1}):=by unfold aH C4;rw[hs]
 have P:=aP (Hi (s:={s with ch:=⟨x.lf - 1,x.us+1,x.de⟩::xs,cg:=s.cg+1}) ⟨_,_,_,_,m3⟩ ⟨x.lf - 1,x.us+1,x.de⟩ J hl);have E:=bP m3 ((K.trans L).trans M);obtain⟨a0,i,a2,a3,a4,a5⟩:=V;have f6:=m2.b.frozen 6;have n0:(0:Int)<(xs.length:Int)+1:=aQ;have H1:=aP h1;have W:=aP f;have Q:=aP N;have X:=aP f6;clear h m1 m2 m3 K L M h1 f N J hs hl t f6;obtain⟨n,H⟩:∃n,n=xs.length:=⟨_,rfl⟩
 rw[<-H] at a0 H1 Q n0 G;have k:=aP H;clear H;go_enter func114,ntmps114
 go_upto_region 4 with(fail)
 generalize w.setCell ⟨q,0,none⟩ (.int .i64 (x.lf - 1))=Y at *;clear a0 i a2 a3 a4 a5;obtain⟨a0,i,a2,a3,a4,a5⟩:=H1.o;simp only at i a2 a3;go_upto_region 5 with(fail)
 generalize Y.setCell ⟨q,1,none⟩ (.int .i64 (x.us+1))=Z at *;clear a0 i a2 a3 a4 a5;have a6:=W.o;have a7:=X.o;go_upto_region 6 with(fail)
 generalize Z.setCell (g,6) (.int .i64 (s.cg+1))=w3 at *;clear a6 a7;obtain⟨a0,i,a2,a3,a4,a5⟩:=Q.o;simp only at i a2 a3;by_cases z:x.lf - 1=0
 .have z1:(x.lf - 1==0)=true:=by simp[z]
  have u:=O.o;rw[abP z] at u;have v:=aP u;clear u z;go_wp2_with fail
  refine aR P ?_;rintro e I ⟨rfl,⟨A4,c4,B4,d4,m4⟩,R⟩;have a:=Jh {s with ch:=⟨x.lf - 1,x.us+1,x.de⟩::xs,cg:=s.cg+1} ⟨x.lf - 1,x.us+1,x.de⟩;simp only at a;generalize mX {s with ch:=⟨x.lf - 1,x.us+1,x.de⟩::xs,cg:=s.cg+1} ⟨x.lf - 1,x.us+1,x.de⟩=s4 at *;obtain⟨m,rfl⟩:∃q,A4=some ⟨q,0,none⟩:=by
   rcases m4.oA.shape with⟨_,f,_⟩|f
   .rw[f] at a;cases a
   .exact f
  have S:=m4.hd a;rw[<-k.o] at S;have y:=m4.oA;rw[a] at y;have T:aG prog 156 #[.slice m (n+1) c4,aU, .int .i64 1] I λe w'=>e= .returned (.slice m n c4)/\bI yW 3 w' (g+1) 329 m c4 xs/\I.grownBy w' (some m):=by
   have:=Xk.lV m c4 0 xs.length (g+1) (⟨x.lf - 1,x.us+1,x.de⟩::xs) I y bX (by have:=k.o;simp;omega);rw[k.o];simpa using this
  have HD:=aP T;have C:=bP m4 (E.o.2.trans R);clear T m4 R y P E a0 i a2 a3 a4 a5;obtain⟨a0,i,a2,a3,a4,a5⟩:=S;go_wp2_with fail
  refine aR HD ?_;rintro e w5 ⟨rfl,p,l⟩;obtain⟨m6,U⟩:=C.o.1.cut k.o p l;have f4:=(C.o.1.b.grown l (λe=>by have h9:=(C.o.1.oA.lt m rfl).1;injection e with e;omega)).frozen 4;have c4':=(C.o.1.b.grown l (λe=>by have h9:=(C.o.1.oA.lt m rfl).1;injection e with e;omega)).cell 4 (.slice m s4.ch.length c4) rfl;have D:=bP m6 (C.o.2.trans U);clear m6 U p l a0 i a2 a3 a4 a5;go_wp2_with fail
  go_ret
  exact⟨rfl,by rw[v.o];exact⟨_,_,_,_,D.o.1⟩,D.o.2⟩
 .have z1:(x.lf - 1==0)=false:=by simpa using z
  have u:=O.o;rw[abQ z] at u;have v:=aP u;clear u z;go_wp2_with fail
  go_ret
  exact⟨rfl,by rw[v.o];exact⟨_,_,_,_,E.o.1⟩,E.o.2⟩
end
end
section
def rD(now:Int):Int->List Rl->Int×List Rl
 |av, []=>(av, [])
 |av,r::rs=>if r.at_<=now then rD now (av+r.am) rs else(av,r::rs)
def uO(now:Int)(s:Sv):Sv:={s with nw:=now,av:=(rD now s.av s.rf).1,rf:=(rD now s.av s.rf).2}
def iH(s:Sv)(x:Ck):Sv:=mX {s with av:=s.av+x.lf} x
def kI(s:Sv)(now:Int)(ready:Bool):Sv:=
 if ready then(if 0<(uO now s).av then {uO now s with ch:=(uO now s).ch++ [⟨(uO now s).av,0,now+s.pe⟩],av:=0} else uO now s)
 else {s.ch.foldl iH (uO now s) with ch:= []}
def pD(l:List Rl):Int:=(l.map Rl.am).sum
def sE(l:List Ck):Int:=(l.map λx=>x.lf+x.us).sum
structure QE(s:Sv):Prop where
 av:0<=s.av
 ch:∀x∈s.ch,1<=x.lf/\0<=x.us
 rf:∀r∈s.rf,0<=r.am
 all:s.av+sE s.ch+pD s.rf=s.bu
 bu:1<=s.bu/\s.bu<=s.pe/\s.pe<=1048576
 ord:s.ch.Pairwise λx y=>x.de<=y.de
 CC:∀r∈s.rf,∀x∈s.ch,r.at_<=x.de
theorem BA(r:Rl)(l:List Rl):pD (r::l)=r.am+pD l:=by simp[pD]
theorem EL(r:Rl)(l:List Rl):pD (l++ [r])=pD l+r.am:=by simp[pD]
theorem oI(x:Ck)(l:List Ck):sE (x::l)=x.lf+x.us+sE l:=by simp[sE]
theorem Az(x:Ck)(l:List Ck):sE (l++ [x])=sE l+(x.lf+x.us):=by simp[sE]
theorem GO{l:List Rl}(h:∀r∈l,0<=r.am):0<=pD l:=by
 induction l with
 |nil=>simp[pD]
 |cons r l a=>
  have:=h r aT;have:=a λr b=>h r (by simp[b])
  rw[BA];omega
theorem MW{l:List Ck}(h:∀x∈l,1<=x.lf/\0<=x.us):0<=sE l:=by
 induction l with
 |nil=>simp[sE]
 |cons r l a=>
  have:=h r aT;have:=a λr b=>h r (by simp[b])
  rw[oI];omega
theorem U2{now:Int}:∀{l:List Rl} {av:Int},(∀r∈l,0<=r.am)->0<=av->0<=(rD now av l).1/\(rD now av l).1+pD (rD now av l).2=av+pD l/\(∀r∈(rD now av l).2,r∈l)/\(rD now av l).2.length<=l.length
 | [],av,_,h=>⟨h,rfl,λr a=>a,abM _⟩
 |r::l,av,a,h=>by
  have d:=a r aT;unfold rD;split
  .obtain⟨h1,e,f,g⟩:=U2 (now:=now) (l:=l) (av:=av+r.am) (λr b=>a r (by simp[b])) aQ;refine⟨h1,?_,λx c=>by simp[f x c],bX⟩;rw[e,BA];omega
  .exact⟨h,rfl,λx c=>c,abM _⟩
theorem QE.pop{s:Sv}(h:QE s)(now:Int):QE (uO now s):=by
 obtain⟨h1,d,b,_⟩:=U2 (now:=now) h.rf h.av;have:=h.all;exact⟨h1,h.ch,λr a=>h.rf r (b r a),by simp only[uO];omega,h.bu,h.ord,λr a x c=>h.CC r (b r a) x c⟩
structure FA(s:Sv)(s':Sv)(k:Nat):Prop where
 eq:s'=(s.ch.take k).foldl iH s
 ch:s'.ch=s.ch
 av:0<=s'.av
 rf:∀r∈s'.rf,0<=r.am
 sum:s'.av+sE (s.ch.drop k)+pD s'.rf=s.bu
 CC:∀r∈s'.rf,∀x∈s.ch.drop k,r.at_<=x.de
 len:s'.rf.length<=s.rf.length+k
theorem FA.zero{s:Sv}(h:QE s):FA s s 0:=⟨rfl,rfl,h.av,h.rf,h.all,h.CC,abM _⟩
theorem FA.step{s s':Sv}{k:Nat}(h:QE s)(f:FA s s' k)(hk:k<s.ch.length):FA s (iH s' s.ch[k]) (k+1):=by
 have hd:s.ch.drop k=s.ch[k]::s.ch.drop (k+1):=aeB hk;have c:=h.ch _ (abV hk);have hs:=f.sum;rw[hd,oI] at hs;have hp:∀y∈s.ch.drop (k+1),s.ch[k].de<=y.de:=by
  have h1:=h.ord.sublist (List.drop_sublist k s.ch);rw[hd] at h1;exact(aeQ.1 h1).1
 have d:=f.av;have heq:iH s' s.ch[k]=(s.ch.take (k+1)).foldl iH s:=by
  rw[acV,abL hk,ad1,<-f.eq];rfl
 have hlen:=f.len;by_cases hu:s.ch[k].us=0
 .have b:iH s' s.ch[k]={s' with av:=s'.av+s.ch[k].lf}:=by unfold iH mX;rw[abP hu]
  exact⟨heq,by rw[b];exact f.ch,by rw[b];simp only;omega,by rw[b];exact f.rf,by rw[b];simp only;omega,by rw[b];exact λr a x c=>f.CC r a x (by rw[hd];exact af1 _ c),by rw[b];simp only;omega⟩
 .have b:iH s' s.ch[k]={s' with av:=s'.av+s.ch[k].lf,rf:=s'.rf++ [⟨s.ch[k].de,s.ch[k].us⟩]}:=by unfold iH mX;rw[abQ hu]
  refine⟨heq,by rw[b];exact f.ch,by rw[b];simp only;omega,?_,by rw[b];simp only;rw[EL];simp only;omega,?_,by rw[b];simp only[ab2,ae4];omega⟩
  .rw[b];intro r a;rcases ab6.1 a with a|a
   .exact f.rf r a
   .simp at a;subst a;exact c.2
  .rw[b];intro r a x c;rcases ab6.1 a with a|a
   .exact f.CC r a x (by rw[hd];exact af1 _ c)
   .simp at a;subst a;exact hp x c
end
section
open Go.RowKit Go.Lib Go.Shelf
variable{A6 A B:Option aJ}{n q g d:Nat}{F:Nat->Prop}{w w':aA}{v:aC}
section
section
variable{F:Nat->Prop}{w w5:aA}{g c d:Nat}{s:Sv}{A B:Option aJ}
theorem gW.Vh(h:gW F w g s A c B d)(v:Int):gW F (w.setCell (g,2) v) g {s with nw:=v} A c B d/\Kp F w (w.setCell (g,2) v):=
 h.cells (s':={s with nw:=v}) rfl rfl (aZ (bL w g) 2 _) (by have:=h.b.cB 2 v;simpa[zK] using this)
theorem gW.V4(h:gW F w g s A c B d)(v:Int):gW F (w.setCell (g,3) v) g {s with av:=v} A c B d/\Kp F w (w.setCell (g,3) v):=
 h.cells (s':={s with av:=v}) rfl rfl (aZ (bL w g) 3 _) (by have:=h.b.cB 3 v;simpa[zK] using this)
theorem gW.Yg(h:gW F w g s A c B d):gW F (w.setCell (g,4) (.slice none 0 0)) g {s with ch:= []} none 0 B d/\Kp F w (w.setCell (g,4) (.slice none 0 0)):=by
 have a:=aZ (bL w g) 4 (.slice none 0 0);have k:=h.fl.self h.fg a;exact⟨⟨by have:=h.b.cB 4 (.slice none 0 0);simpa[zK] using this,bI.nil _ _ _,h.oB.kept a (tG h.oB),h.fl.kp k,h.fg,(λq hq=>by cases hq),h.fB⟩,k⟩
theorem gW.Wg{c6:Nat}{x:Ck}(h:gW F w g s A c B d)(o:n=s.ch.length)(a:bI yW 3 w5 (g+1) 329 A6 c6 (s.ch++ [x]))(j:w.grownBy w5 (aY A))(k:aY A6=aY A\/aY A6=some w.heap.size):
 gW F (w5.setCell (g,4) (.slice A6 (n+1) c6)) g {s with ch:=s.ch++ [x]} A6 c6 B d/\Kp F w (w5.setCell (g,4) (.slice A6 (n+1) c6)):=by
 have l:Kp F w w5:=Kp.grown j λb hb=>⟨h.fl b hb,λe=>h.fA b e.symm hb⟩
 have p:=h.b.grown j (λe=>by have:=(h.oA.lt g e.symm).1;omega);have i:bI tO 2 w5 (g+1) 327 B d s.rf:=h.oB.kept j (by
  cases hb:aY B with
  |none=>exact .inl rfl
  |some q=>right;intro e;exact h.apart q e.symm hb)
 have f:=aZ (bL w5 g) 4 (.slice A6 (n+1) c6);have m:=(h.fl.kp l).self h.fg f;refine⟨⟨?_,a.kept f (tG a),i.kept f (tG i),(h.fl.kp l).kp m,h.fg,λq hq hF=>?_,h.fB⟩,l.trans m⟩
 .have:=p.cB 4 (.slice A6 (n+1) c6);subst o;simpa[zK] using this
 .rcases k with e|e
  .exact h.fA q (e ▸ hq) hF
  .rw[e] at hq;injection hq with hq;have:=h.fl q hF;omega
theorem gW.Yv{rs:List Rl}(h:gW F w g s A c q d)(o:n=rs.length)(a:bI tO 2 w5 (g+1) 327 q d rs)(j:w.grownBy w5 (some q)):
 gW F (w5.setCell (g,5) (.slice q n d)) g {s with rf:=rs} A c q d/\Kp F w (w5.setCell (g,5) (.slice q n d)):=by
 subst o;have k:Kp F w w5:=h.fl.self (h.fB q rfl) j;have l:g≠q:=λe=>by have t:=(h.oB.lt q rfl).1;omega
 have p:=h.b.grown j (λe=>l (by injection e));have i:bI yW 3 w5 (g+1) 329 A c s.ch:=h.oA.kept j (by
  cases hb:aY A with
  |none=>exact .inl rfl
  |some r=>right;intro e;exact h.apart r hb e.symm)
 have f:=aZ (bL w5 g) 5 (.slice q rs.length d);have m:=(h.fl.kp k).self h.fg f;exact⟨⟨by have:=p.cB 5 (.slice q rs.length d);simpa[zK] using this,i.kept f (tG i),a.kept f (tG a),(h.fl.kp k).kp m,h.fg,h.fA,h.fB⟩,k.trans m⟩
end
def MT(w:aA)(g:Nat):Nat:=match w.cell? (g,5) with|some (.slice _ n _)=>n|_=>0
theorem gW.MT{c:Nat}{s:Sv}(h:gW F w g s A c B d):MT w g=s.rf.length:=by
 unfold Go.Proofs.YtacgiflhgdaeaaaGreat.MT;rw[h.b.cell 5 (.slice B s.rf.length d) rfl]
structure HdR(w:aA)(g q d:Nat)(x:Rl)(n:Nat)(av:Int):Prop where
 c5:w.cell? (g,5)=some (.slice q (n+1) d)
 c3:w.cell? (g,3)=some (.int .i64 av)
 d0:w.cell? (q,0)=some (.int .i64 x.at_)
 d1:w.cell? (q,1)=some (.int .i64 x.am)
theorem gW.Se{c:Nat}{s:Sv}{x:Rl}{xs:List Rl}(h:gW F w g s A c q d)(hs:s.rf=x::xs):HdR w g q d x xs.length s.av:=by
 have a:=h.oB;rw[hs] at a;refine⟨?_,h.b.cell 3 _ rfl,?_,?_⟩
 .have:=h.b.cell 5 (.slice q s.rf.length d) rfl;rw[hs] at this;exact this
 .simpa using bN pN a (i:=0) aT (j:=0) (v:= .int .i64 x.at_) rfl
 .simpa using bN pN a (i:=0) aT (j:=1) (v:= .int .i64 x.am) rfl
def XT(y:Ck)(v:aC)(w:aA):Prop:=∃G,v= .slice (some ⟨G,0,none⟩) 1 1/\Sl yW 3 w (some ⟨G,0,none⟩) [y]
theorem XT.keep{y:Ck}(h:XT y v w)(a:bQ w w'):XT y v w':=by obtain⟨G,h1,b⟩:=h;exact⟨G,h1,b.keep a⟩
structure Yb(now:Int)(s:Sv)(av:Int)(rf:List Rl):Prop where
 eq:rD now av rf=rD now s.av s.rf
 pav:0<=av
 Tu:∀r∈rf,0<=r.am
 sum:av+pD rf=s.av+pD s.rf
 len:rf.length<=s.rf.length
theorem Cb{s:Sv}(h:sO F w g s)(now:Int)(rd:Bool)(hb:QE s)(hn:s.nw<=now)(hn2:now<=1048576)(h0:0<=s.nw)(hl:s.rf.length+s.ch.length<=2000000):
 aG prog 112 #[.pointer g,now,rd] w (Tr F g (.bool true) (kI s now rd) w):=by
 obtain⟨A,c,B,d,h⟩:=h;have c2:=h.b.cell 2 s.nw rfl;have f2:=h.b.frozen 2;obtain⟨m1,k1⟩:=h.Vh now;have hnn:¬now<s.nw:=aQ;have hA:=GO hb.rf;have hL:=MW hb.ch;have Z:=hb.all;have hbu:=hb.bu;have h00:=hb.av;have HB:=aP hb;have H1:aH (∃A c B d,gW F (w.setCell (g,2) now) g {s with nw:=now,av:=s.av,rf:=s.rf} A c B d):=⟨A,c,B,d,m1⟩
 have K1:=aP k1;clear h m1 k1 hb;go_enter func112,ntmps112
 go_upto_region 4 with(fail)
 generalize w.setCell (g,2) now=w1 at *;clear c2 f2;go_loopw [23] (λ_ wr=>∃(av:Int) (rf:List Rl),aH (Yb now s av rf)/\aH (∃A c B d,gW F wr g {s with nw:=now,av:=av,rf:=rf} A c B d)/\aH (Kp F w wr)) (λ_ wr=>MT wr g)
 case atStart=>exact⟨s.av,s.rf,⟨rfl,h00,HB.o.rf,rfl,abM _⟩,H1,K1⟩
 case round=>
  clear H1 K1;obtain⟨av,rf,HP,⟨A,c,B,d,m⟩,K⟩:=hrel;have HLw:=aP m.MT;by_cases E:∃r rs,rf=r::rs/\r.at_<=now
  .obtain⟨r,rs,rfl,hr⟩:=E;obtain⟨q,rfl⟩:∃q,B=some ⟨q,0,none⟩:=by
    rcases m.oB.shape with⟨_,L,_⟩|L
    .cases L
    .exact L
   obtain⟨a0,a1,a2,a3⟩:=m.Se rfl;simp only at a1;have hp:=HP.o;have hrm:=hp.Tu r aT;have hsm:=hp.sum;rw[BA] at hsm;have hrs:=GO (λx hx=>hp.Tu x (by simp[hx]):∀x∈rs,0<=x.am);have hpa:=hp.pav;have hln:=hp.len;simp only[acN] at hln;have HP2:aH (Yb now s (av+r.am) rs):=⟨by rw[<-hp.eq,rD,abP hr],aQ,λx hx=>hp.Tu x (by simp[hx]),aQ,aQ⟩
   have D:=bP m K.o;have hln2:rs.length+1<=2000000:=aQ;have hw1:av+r.am<=1048576:=aQ;obtain⟨n,hn⟩:∃n,n=rs.length:=⟨_,rfl⟩
   rw[<-hn] at a0 hln2;have HN:=aP hn;have n0:(0:Int)<(n:Int)+1:=aQ;clear m K hn hp hsm hln hL hA Z h00 HP hrs;go_upto_region 5 with(fail)
   have Q:=bD a0;have R:=bD a1;have S:=bD a3;refine bM (bQ _) (λ_=>bQ) [] (λ_ _ _=>True) [14] [] 118 (bZ _) (λ_ _ _ h M=>bV h M) (λ_ d hd _ v w w' _ h M=>by cases hd) aV aV bF ?_;repeat refine eK ?_
   refine dI ?_;intro γ w5 a hT;clear Q R S;simp only[cY,Act.put,abN,abU,abS];refine dS ?_;have m5:=D.o.1.keep a;have k5:=D.o.2.trans (D.o.1.fl.below a);refine dZ w5 rfl 3 _ _ rfl g 3 (.int .i64 (av+r.am)) rfl rfl aV rfl (m5.b.one (by simp[zK])) ?_;refine cN ?_;try simp only[Act.put]
   obtain⟨m6,k6⟩:=m5.V4 (av+r.am);generalize w5.setCell (g,3) (.int .i64 (av+r.am))=w6 at *;have hD:aG prog 154 #[.slice (some ⟨q,0,none⟩) (n+1) d,aU, .int .i64 1] w6 λe w'=>e= .returned (.slice (some ⟨q,0,none⟩) n d)/\bI tO 2 w' (g+1) 327 (some ⟨q,0,none⟩) d rs/\w6.grownBy w' (some q):=by
    have:=Xg.lV q d 0 rs.length (g+1) (r::rs) w6 m6.oB bX (by have:=HN.o;simp;omega);rw[HN.o];simpa using this
   have h6:=m6.Se rfl;rw[<-HN.o] at h6;have HD:=aP hD;have H6:=bP m6 (k5.trans k6);clear a0 a1 a2 a3 m5 k5 m6 k6 hD hT a;obtain⟨a0,a1,a2,a3⟩:=h6;go_wp2_with fail
   refine aR HD ?_;rintro e w7 ⟨rfl,own7,hg7⟩;obtain⟨m8,k8⟩:=H6.o.1.Yv HN.o own7 hg7;have b7:=H6.o.1.b.grown hg7 (λe=>by have h9:=(H6.o.1.oB.lt q rfl).1;injection e with e;omega);have f7:=b7.frozen 5;have c7:=b7.cell 5 _ rfl;have HLe:=aP m8.MT;have HM8:=bP m8 (H6.o.2.trans k8);clear a0 a1 a2 a3 m8 k8 own7 hg7 b7;go_wp2_with fail
   go_roundw
   case rel=>exact⟨av+r.am,rs,HP2.o,⟨_,_,_,_,HM8.o.1⟩,HM8.o.2⟩
   case measure=>rw[HLe.o,HLw.o];simp
  .have hp:=HP.o;have hE:rD now av rf=(av,rf):=by
    cases rf with
    |nil=>rfl
    |cons r rs=>unfold rD;rw[abQ];intro h;exact E ⟨r,rs,rfl,h⟩
   obtain⟨p,N⟩:∃p,p=uO now s:=⟨_,rfl⟩
   have hs':({s with nw:=now,av:=av,rf:=rf}:Sv)=p:=by rw[N];unfold uO;rw[<-hp.eq,hE]
   have T:p.rf=rf/\p.av=av:=by rw[<-hs'];exact⟨rfl,rfl⟩
   rw[hs'] at m;have O:=HB.o.pop now;rw[<-N] at O;have hpe:p.pe=s.pe/\p.ch=s.ch:=by rw[N];exact⟨rfl,rfl⟩
   have hpb:=O.bu;have hpa:=O.av;have HV:aH (kI s now rd=if rd then(if 0<p.av then {p with ch:=p.ch++ [⟨p.av,0,now+p.pe⟩],av:=0} else p) else {p.ch.foldl iH p with ch:= []}):=by unfold aH;rw[N];rfl
   have D:=dH m K.o O;have hlr:rf.length+p.ch.length<=2000000:=by have:=hp.len;rw[hpe.2];omega
   have c5:=m.b.cell 5 (.slice B p.rf.length d) rfl;have HPR:=aP T;have HLR:aH (p.rf.length+p.ch.length<=2000000):=by unfold aH;rw[T.1];exact hlr
   rw[T.1] at c5;have HNP:=aP E;clear hp hE hs' T K hn Z hA hL h00 O E HP N hpe;rcases rf with _|⟨r,rs⟩;clear m;simp only[ac2] at c5;go_upto_region 7 with(fail)
   rotate_left
   obtain⟨q,rfl⟩:∃q,B=some ⟨q,0,none⟩:=by
    rcases m.oB.shape with⟨_,L,_⟩|L
    .rw[HPR.o.1] at L;cases L
    .exact L
   have a2:=(m.Se HPR.o.1).d0;have hr:¬r.at_<=now:=λh=>HNP.o ⟨r,rs,rfl,h⟩
   simp only[acN] at c5 hlr;have n0:(0:Int)<(rs.length:Int)+1:=aQ;clear m;generalize rs.length=n at *;go_upto_region 7 with(fail)
   all_goals
    clear c5 HPR HNP;have c3:=D.o.1.b.cell 3 p.av rfl;have c4:=D.o.1.b.cell 4 (.slice A p.ch.length c) rfl;have c1:=D.o.1.b.cell 1 p.pe rfl;cases rd
    .have I:aH (kI s now false={p.ch.foldl iH p with ch:= []}):=by have:=HV.o;rw[abQ aT] at this;exact this
     have hlc:p.ch.length<=2000000:=aQ;have hlr2:p.rf.length+p.ch.length<=2000000:=HLR.o;obtain⟨H,f⟩:∃H,H=p.ch.length:=⟨_,rfl⟩
     rw[<-f] at c4 hlc hlr2;have P:=aP f;have HF0:aH (FA p p 0):=FA.zero D.o.2.2;have HM0:aH (∃B d,gW F wr g p A c B d):=⟨_,_,D.o.1⟩
     have HK0:=aP D.o.2.1;clear f HV c3 c1;go_wp2_with fail
     go_loopw [69] (λv69 wz=>∃(k:Nat) (st:Sv),v69= .int .i64 k/\k<=H/\aH (FA p st k)/\aH (∃B d,gW F wz g st A c B d)/\aH (Kp F w wz)) (λv69 _=>H - (aL v69).toNat)
     case atStart=>exact⟨0,p,rfl,abX _,HF0,HM0,HK0⟩
     case round=>
      clear HF0 HM0 HK0;obtain⟨k,st,rfl,hk,i,⟨B2,d2,m⟩,HK⟩:=hrel;by_cases hkn:k<H
      .have J:k<p.ch.length:=by rw[<-P.o];exact hkn
       have hst:=aP (i.o.step D.o.2.2 J);have hxs:p.ch[k]∈p.ch.drop k:=by rw[aeB J];exact List.mem_cons_self
       have hbe:=i.o.CC;have hfl:=i.o.len;have hfs:=i.o.sum;have hfa:=i.o.av;have hx:=D.o.2.2.ch _ (abV J);have hns:=GO i.o.rf;have hnl:=MW (l:=p.ch.drop (k+1)) (λz M=>D.o.2.2.ch z (List.mem_of_mem_drop M));have hdk:p.ch.drop k=p.ch[k]::p.ch.drop (k+1):=aeB J;rw[hdk,oI] at hfs;have u:k<st.ch.length:=by rw[i.o.ch];exact J
       have hge:st.ch[k]=p.ch[k]:=by simp only[i.o.ch]
       obtain⟨q,rfl⟩:∃q,A=some ⟨q,0,none⟩:=by
        rcases m.oA.shape with⟨_,L,_⟩|L
        .rw[L] at u;simp at u
        .exact L
       have e0:=bN kZ m.oA u (j:=0) (v:= .int .i64 st.ch[k].lf) rfl;have e1:=bN kZ m.oA u (j:=1) (v:= .int .i64 st.ch[k].us) rfl;have e2:=bN kZ m.oA u (j:=2) (v:= .int .i64 st.ch[k].de) rfl;rw[hge] at e0 e1 e2;rw[acC] at e0;have hbx:∀r∈st.rf,r.at_<=p.ch[k].de:=λr hr=>hbe r hr _ hxs
       have HS:=dH hst.o hbx HK.o;have hlr3:st.rf.length<=2000000:=aQ;obtain⟨y,hy⟩:∃y,y=p.ch[k]:=⟨_,rfl⟩
       rw[<-hy] at HS e0 e1 e2 hx hfs;have HM2:=aP m;have k0:(0:Int)<=k:=aQ;have k1:(k:Int)<(H:Int):=aQ;have hw1:st.av+y.lf<=1048576:=aQ;have hw2:0<=st.av+y.lf:=aQ;have yb:=bE.new wr 329 #[y.lf,y.us,y.de];clear hst hbx hbe hfl hfs hns hnl hdk hge u hxs hy J HK i m;go_upto_region 11 with(fail)
       have hyg:wr.heap.size≠g:=by have:=HM2.o.b.lt;omega
       have m3:=HM2.o.keep (aX wr (aI #[y.lf,y.us,y.de] 329));have kk:=HS.o.2.2.trans (HM2.o.fl.below (aX wr (aI #[y.lf,y.us,y.de] 329)));generalize wr.alloc (aI #[y.lf,y.us,y.de] 329)=w3 at *;generalize wr.heap.size=yq at *;have x0:=yb.cell 0 y.lf rfl;have c3:=m3.b.cell 3 st.av rfl;have H3:=dH m3 kk yb;clear m3 kk yb e0 e1 e2;have U:=bD x0;have C:=bD c3;refine bM (bQ _) (λ_=>bQ) [] (λ_ _ _=>True) [9] [] 118 (bZ _) (λ_ _ _ h M=>bV h M) (λ_ d hd _ v w w' _ h M=>by cases hd) aV aV bF ?_;repeat refine eK ?_
       refine dI ?_;intro γ w5 a hT;clear U C;simp only[cY,Act.put,abN,abU,abS];refine dS ?_;have m5:=H3.o.1.keep a;have k5:=H3.o.2.1.trans (H3.o.1.fl.below a);refine dZ w5 rfl 3 _ _ rfl g 3 (.int .i64 (st.av+y.lf)) rfl rfl aV rfl (m5.b.one (by simp[zK])) ?_;refine cN ?_;try simp only[Act.put]
       obtain⟨m6,k6⟩:=m5.V4 (st.av+y.lf);have V:=(H3.o.2.2.keep a).rI (p:=⟨g,3,none⟩) hyg (.int .i64 (st.av+y.lf));generalize w5.setCell (g,3) (.int .i64 (st.av+y.lf))=w6 at *;have qZ:=aP (YN m6 y HS.o.2.1 (by simp only;omega));have HK6:=aP (k5.trans k6);clear m5 k5 m6 k6 hT a c3 x0;have x0:=V.cell 0 y.lf rfl;have x1:=V.cell 1 y.us rfl;have x2:=V.cell 2 y.de rfl;clear V;go_wp2_with fail
       refine aR qZ ?_;rintro e w7 ⟨rfl,⟨B3,d3,m7⟩,k7⟩;have HF7:=bP m7 (HK6.o.trans k7);clear m7 k7 x0 x1 x2;go_wp2_with fail
       go_roundw
       case rel=>exact⟨k+1,iH st y,by go_num,aQ,HS.o.1,⟨_,_,HF7.o.1⟩,HF7.o.2⟩
       case measure=>simp[aL];omega
      .obtain rfl:k=H:=aQ;have k1:¬(k:Int)<(k:Int):=aQ;have hE:st=p.ch.foldl iH p:=by rw[i.o.eq,ab8 (by rw[<-P.o];exact abM _)]
       have f4:=m.b.frozen 4;have c4:=m.b.cell 4 (.slice A st.ch.length c) rfl;obtain⟨m8,k8⟩:=m.Yg;have HF:=dH m8 (HK.o.trans k8) hE;clear m m8 k8 hE i HK;go_wp2_with fail
       go_ret
       exact⟨rfl,by rw[I.o,<-HF.o.2.2];exact⟨_,_,_,_,HF.o.1⟩,HF.o.2.1⟩
    .by_cases hav:0<p.av
     .have I:aH (kI s now true={p with ch:=p.ch++ [⟨p.av,0,now+p.pe⟩],av:=0}):=by have:=HV.o;rw[abP rfl,abP hav] at this;exact this
      obtain⟨y,hy⟩:∃y:Ck,y=⟨p.av,0,now+p.pe⟩:=⟨_,rfl⟩
      have HY:aH (∀(W:aA) t,Sl yW 3 (W.alloc (.cells #[p.av,aU, .int .i64 (now+p.pe)] t)) (some ⟨W.heap.size,0,none⟩) [y]):=λW t=>Sl.new kZ W y _ (by rw[hy];rfl) t
      rw[<-hy] at I;clear hy HV;obtain⟨H,f⟩:∃H,H=p.ch.length:=⟨_,rfl⟩
      rw[<-f] at c4 hlr;have P:=aP f;clear f;go_upto_region 16 with(fail)
      have X:=bD c1;have C:=bD c3;have Y:=bD c4;refine bM (bQ _) (λ_=>bQ) [111] (λ_ v w=>XT y v w) [18,21] [[18,17,16,8], [18,17,16,15,14]] 118 (bZ _) (λ_ _ _ h M=>bV h M) (λ_ d hd _ v w w' _ h M=>h.keep M) aV aV bF ?_;repeat (first|(refine eK ?_)|(refine sC 111 [] bF bF bF bF (λγ w hC hT=>?_) ?_;(simp only[cY];go_simp;exact pB (aX w _) ⟨_,rfl,HY.o w _⟩);(try refine dE ?_)))
      refine dI ?_;intro γ w5 a hT;clear X C Y;simp only[cY,Act.put,abN,abU,abS];refine dS ?_;obtain⟨G,hv,hsl⟩:=hT 111 aT;rw[hv];have m5:=D.o.1.keep a;have k5:=D.o.2.1.trans (D.o.1.fl.below a);clear hT hv HY c1 c3 c4;refine bS w5 rfl (.tmp 98) (.tmp 111) rfl Zo kZ m5.oA (n:=H) P.o.symm rfl (m:=1) rfl (ys:= [y]) rfl hsl dN aQ (by have:=m5.b.lt;omega) _ rfl (H+1) rfl ?_;intro A6 c6 w6 own6 hg6 at6;have b6:=m5.b.grown hg6 (λe=>by have:=(m5.oA.lt g e.symm).1;omega);refine dZ w6 rfl 300 _ _ rfl g 4 (.slice A6 (H+1) c6) rfl rfl aV rfl (b6.one (by simp[zK])) ?_;refine cN ?_;try simp only[Act.put]
      obtain⟨m7,k7⟩:=m5.Wg P.o own6 hg6 at6;generalize w6.setCell (g,4) (.slice A6 (H+1) c6)=w7 at *;have f3:=m7.b.frozen 3;have c3:=m7.b.cell 3 p.av rfl;obtain⟨m8,k8⟩:=m7.V4 0;have HF:=bP m8 ((k5.trans k7).trans k8);clear m5 k5 m7 k7 m8 k8 own6 hg6 at6 b6 hsl a;go_wp2_with fail
      go_ret
      exact⟨rfl,by rw[I.o];exact⟨_,_,_,_,HF.o.1⟩,HF.o.2⟩
     .have I:aH (kI s now true=p):=by have:=HV.o;rw[abP rfl,abQ hav] at this;exact this
      have hav2:¬0<p.av:=hav;clear HV;go_wp2_with fail
      go_ret
      exact⟨rfl,by rw[I.o];exact⟨_,_,_,_,D.o.1⟩,D.o.2.1⟩
end
variable{G H:Nat->Prop}
section
theorem sO.move{s:Sv}(h:sO F w g s)(k:Kp G w w')(a:∀r,r<w.heap.size->¬F r->G r)(fl:Ol H w')(hH:∀r,r<w.heap.size->¬F r->¬H r):sO H w' g s:=by
 obtain⟨A,c,B,d,h⟩:=h;exact⟨A,c,B,d,k.aY h.b (a g h.b.lt h.fg),h.oA.kp k (λq hq=>a q (h.oA.lt q hq).2 (h.fA q hq)),h.oB.kp k (λq hq=>a q (h.oB.lt q hq).2 (h.fB q hq)),fl,hH g h.b.lt h.fg,λq hq=>hH q (h.oA.lt q hq).2 (h.fA q hq),λq hq=>hH q (h.oB.lt q hq).2 (h.fB q hq)⟩
def nP(bu pe:Int):Bool:=decide (1<=bu/\bu<=pe/\pe<=1048576)
theorem DH(bu pe:Int)(w:aA):aG prog 129 #[.agg #[bu,pe]] w λe w'=>e= .returned (.bool (nP bu pe))/\aD w w w':=by
 have hb:=aP (aX w (aI #[bu,pe] 112));by_cases h1:1<=bu
 .by_cases b:bu<=pe
  .by_cases c:pe<=1048576
   .have a:aH (nP bu pe=true):=acB ⟨h1,b,c⟩;go_enter func129,ntmps129
    go_wp2_with fail
    go_ret
    exact⟨by first|(rw[a.o];rfl)|rw[a.o],hb.o⟩
   .have a:aH (nP bu pe=false):=ab4 (λh=>c h.2.2);go_enter func129,ntmps129
    go_wp2_with fail
    go_ret
    exact⟨by first|(rw[a.o];rfl)|rw[a.o],hb.o⟩
  .have a:aH (nP bu pe=false):=ab4 (λh=>b h.2.1);go_enter func129,ntmps129
   go_wp2_with fail
   go_ret
   exact⟨by first|(rw[a.o];rfl)|rw[a.o],hb.o⟩
 .have a:aH (nP bu pe=false):=ab4 (λh=>h1 h.1);go_enter func129,ntmps129
  go_wp2_with fail
  go_ret
  exact⟨by first|(rw[a.o];rfl)|rw[a.o],hb.o⟩
end
end
section
open Go.RowKit
section
variable{w w':aA}{b:Nat}
theorem C1{es:Array MapEntry}{c:Nat}{o:Obj}(hb:w.heap[b]?=some (.map es c)):w.grownBy {w with heap:=w.heap.setIfInBounds b o} (some b):=
 ⟨rfl,rfl,rfl,aT,λi _ a=>(MapKept.heap_set hb).2 i (λe=>a (by rw[e]))⟩
end
variable{es:List MapEntry}{j g:Nat}{en:MapEntry}{P:aO}{z:aC}{Q:Exit->Act->aA->Prop}{w:aA}
section
structure DP{α:Type}(ev:α->aC)(es:List MapEntry)(f:Int->Option α):Prop where
 ky:∀x∈es,MapKept.IsKey (.int .i64) x.key
 ap:es.Pairwise (λx y=>x.key≠y.key)
 tq:∀x v,f x=some v->∃e∈es,e.key= .int .i64 x/\e.val=ev v
 Kg:∀e∈es,∀x,e.key= .int .i64 x->∃v,f x=some v/\e.val=ev v
def iJ{α:Type}(ev:α->aC)(w:aA)(b:Nat)(f:Int->Option α):Prop:=∃es clock,w.heap[b]?=some (.map es clock)/\DP ev es.toList f
def gF{α:Type}(f:Int->Option α)(x:Int)(v:Option α):Int->Option α:=λy=>if y=x then v else f y
section
variable{α:Type}{ev:α->aC}{w w':aA}{b:Nat}{f:Int->Option α}
theorem DW(x:Int):MapKept.IsKey (.int .i64) (.int .i64 x):=by simp[MapKept.IsKey]
theorem DP.MG(h:DP ev es f){x:Int}(a:∀e∈es,e.key≠ .int .i64 x):f x=none:=by
 cases hf:f x with
 |none=>rfl
 |some v=>
  obtain⟨e,he,h1,_⟩:=h.tq x v hf;exact absurd h1 (a e he)
theorem DP.push(h:DP ev es f){x:Int}(g:∀e∈es,e.key≠ .int .i64 x)(v:α)(c:Nat):DP ev (es++ [{key:= .int .i64 x,val:=ev v,born:=c}]) (gF f x (some v)):=by
 refine⟨λy d=>?_,?_,λy u d=>?_,λe he y d=>?_⟩
 .rcases ab6.1 d with d|d
  .exact h.ky y d
  .rw[ab0.1 d];exact DW x
 .rw[aeG];exact⟨h.ap,aeH _ _,λa ha c hc=>by rw[ab0.1 hc];exact g a ha⟩
 .unfold gF at d;split at d
  .rename_i e;subst e;injection d with d;subst d;exact⟨{key:= .int .i64 y,val:=ev v,born:=c},aT,rfl,rfl⟩
  .obtain⟨e,he,h1⟩:=h.tq y u d;exact⟨e,by simp[he],h1⟩
 .rcases ab6.1 he with he|he
  .obtain⟨u,h1,i⟩:=h.Kg e he y d;refine⟨u,?_,i⟩;unfold gF;rw[abQ (λj=>g e he (by rw[d,j]))];exact h1
  .rw[ab0.1 he] at d⊢;simp only[Value.int.injEq,adJ] at d;exact⟨v,by unfold gF;rw[abP d.symm],rfl⟩
theorem DP.set(h:DP ev es f){x:Int}(l:es[j]?=some en)(hk:en.key= .int .i64 x)(v:α):DP ev (es.set j {en with val:=ev v}) (gF f x (some v)):=by
 have c:j<es.length:=by
  rcases aeE j es.length with q|q
  .exact q
  .rw[adA q] at l;cases l
 have d:es[j]=en:=by rw[abL c] at l;injection l
 have g:(es.set j {en with val:=ev v}).map (·.key)=es.map (·.key):=by
  rw[adP];apply ac9
  .simp
  .intro i h1 m;rw[acK];split
   .rename_i e;subst e;simp[d]
   .rfl
 have other:∀i (hi:i<es.length),es[i].key= .int .i64 x->i=j:=by
  intro i hi e;rcases Nat.lt_trichotomy i j with q|q|q
  .exact absurd (by rw[e,d,hk]) (ad2.1 h.ap i j hi c q)
  .exact q
  .exact absurd (by rw[e,d,hk]) (ad2.1 h.ap j i c hi q)
 refine⟨λy a=>?_,?_,λy u a=>?_,λe he y a=>?_⟩
 .rcases acT a with a|a
  .exact h.ky y a
  .rw[a];exact h.ky en (d ▸ abV c)
 .rw[<-afS (f:=λx:MapEntry=>x.key) (R:=(· ≠ ·)),g,afS];exact h.ap
 .unfold gF at a;split at a
  .rename_i e;subst e;injection a with a;subst a;exact⟨_,List.mem_set c _,hk,rfl⟩
  .rename_i n;obtain⟨e,he,h1,m⟩:=h.tq y u a;obtain⟨i,hi,rfl⟩:=acF he;refine⟨es[i],?_,h1,m⟩;rw[List.mem_iff_getElem];refine⟨i,by simpa using hi,?_⟩;rw[List.getElem_set_ne];intro o;subst o;rw[d,hk] at h1;simp at h1;exact n h1.symm
 .obtain⟨i,hi,rfl⟩:=acF he;rw[ab1] at hi;by_cases k:j=i
  .subst k;rw[List.getElem_set_self] at a⊢;simp only at a⊢;rw[hk] at a;simp at a;exact⟨v,by unfold gF;rw[abP a.symm],rfl⟩
  .rw[List.getElem_set_ne k] at a⊢;obtain⟨u,h1,m⟩:=h.Kg es[i] (abV hi) y a;refine⟨u,?_,m⟩;unfold gF;rw[abQ (λo=>k (other i hi (by rw[a,o])).symm)];exact h1
theorem DP.del(h:DP ev es f){x:Int}(g:es[j]?=some en)(hk:en.key= .int .i64 x):DP ev (es.eraseIdx j) (gF f x none):=by
 have c:j<es.length:=by
  rcases aeE j es.length with q|q
  .exact q
  .rw[adA q] at g;cases g
 have d:es[j]=en:=by rw[abL c] at g;injection g
 have other:∀i (hi:i<es.length),es[i].key= .int .i64 x->i=j:=by
  intro i hi e;rcases Nat.lt_trichotomy i j with q|q|q
  .exact absurd (by rw[e,d,hk]) (ad2.1 h.ap i j hi c q)
  .exact q
  .exact absurd (by rw[e,d,hk]) (ad2.1 h.ap j i c hi q)
 refine⟨λy a=>h.ky y (aeD a),h.ap.sublist (afW es j),λy u a=>?_,λe he y a=>?_⟩
 .unfold gF at a;split at a
  .cases a
  .rename_i k;obtain⟨e,he,h1,l⟩:=h.tq y u a;obtain⟨i,hi,rfl⟩:=acF he;refine⟨es[i],?_,h1,l⟩;rw[aeR];exact⟨i,hi,λm=>by subst m;rw[d,hk] at h1;simp at h1;exact k h1.symm,rfl⟩
 .rw[aeR] at he;obtain⟨i,hi,n,rfl⟩:=he;obtain⟨u,h1,l⟩:=h.Kg es[i] (abV hi) y a;refine⟨u,?_,l⟩;unfold gF;rw[abQ (λm=>n (other i hi (by rw[a,m])))];exact h1
theorem iJ.lt(h:iJ ev w b f):b<w.heap.size:=by
 obtain⟨es,c,h1,_⟩:=h;rcases aeE b w with a|hge
 .exact a
 .rw[aeM hge] at h1;cases h1
theorem iJ.same(h:iJ ev w b f)(hb:w'.heap[b]?=w.heap[b]?):iJ ev w' b f:=by
 obtain⟨es,c,h1,a⟩:=h;exact⟨es,c,hb.trans h1,a⟩
theorem iJ.keep(h:iJ ev w b f)(hb:aD w w w'):iJ ev w' b f:=h.same (hb.block b h.lt)
theorem iJ.rI(h:iJ ev w b f)(c:w.grownBy w' (some g))(a:b≠g):iJ ev w' b f:=h.same (c.block b h.lt (λe=>a (by injection e)))
theorem iJ.new(w:aA)(ev:α->aC):iJ ev (w.alloc (.map #[] 0)) w (λ_=>none):=⟨#[],0,(MapKept.heap_alloc w _).1,aT,aT,aT,aT⟩
theorem wT{t k e:aN}(l:P.underlying t=some (.map k e))(hk:P.underlying k=some (.int .i64))(m:(zeroValue e).run P w= .ok z w)(h:iJ ev w b f)(x:Int)(c:Bool):
 (Instr.lookup t (.map (some b)) (.int .i64 x) c).run P w= .ok (if c then .tuple #[((f x).map ev).getD z, .bool (f x).isSome] else((f x).map ev).getD z) w:=by
 obtain⟨es,cl,h1,a⟩:=h;have d:=DW x;rcases MapKept.findNow_spec d es.toList 0 a.ky with⟨g,i⟩|⟨j,en,g,i,n⟩
 .simp[Instr.lookup,run_underlying l,MapKept.run_getObj_map h1,MapKept.run_checkKey hk d,MapKept.run_findKey hk g,m,Result.andThen,a.MG i]
 .obtain⟨v,o,p⟩:=a.Kg en (adF i) x n;simp[Instr.lookup,run_underlying l,MapKept.run_getObj_map h1,MapKept.run_checkKey hk d,MapKept.run_findKey hk g,Result.andThen,o,p]
theorem KV{t k e:aN}(s:P.underlying t=some (.map k e))(hk:P.underlying k=some (.int .i64))(h:iJ ev w b f)(x:Int)(v:α):
 ∃w',(Instr.mapUpdate t (.map (some b)) (.int .i64 x) (ev v)).run P w= .ok () w'/\iJ ev w' b (gF f x (some v))/\w.grownBy w' (some b):=by
 obtain⟨es,c,h1,d⟩:=h;have l:=DW x;rcases MapKept.findNow_spec l es.toList 0 d.ky with⟨n,m⟩|⟨j,en,n,m,o⟩
 .exact⟨_,by simp[Instr.mapUpdate,run_underlying s,MapKept.run_getObj_map h1,MapKept.run_checkKey hk l,MapKept.run_findKey hk n,MapKept.run_setObj_map _ h1,Result.andThen];rfl,⟨_,_,(MapKept.heap_set h1).1,by rw[Array.toList_push];exact d.push m v _⟩,C1 h1⟩
 .have a:es[j]?=some en:=by simpa using m
  refine⟨_,by simp[Instr.mapUpdate,run_underlying s,MapKept.run_getObj_map h1,MapKept.run_checkKey hk l,MapKept.run_findKey hk n,a,o,MapKept.run_keyThatStays l,MapKept.run_setObj_map _ h1,Result.andThen];rfl,⟨_,_,(MapKept.heap_set h1).1,?_⟩,C1 h1⟩;have p:j<es.size:=by
   rcases aeE j es.size with q|q
   .exact q
   .rw[aeM q] at a;cases a
  have r:es[j]=en:=by rw[ac7 p] at a;injection a
  have heq:∀g:MapEntry->MapEntry,(es.modify j g).toList=es.toList.set j (g en):=by
   intro g;apply ac9
   .simp
   .intro i h1 d;simp only[af2,Array.getElem_modify,acK];split
    .rename_i e;subst e;rw[r]
    .rfl
  rw[heq];have:=d.set m o v;simpa[o] using this
theorem BN{t k e:aN}(m:P.underlying t=some (.map k e))(hk:P.underlying k=some (.int .i64))(h:iJ ev w b f)(x:Int)(ty:aN):
 ∃w',(Builtin.delete_ #[t,k] ty #[.map (some b),x]).run P w= .ok (.tuple #[]) w'/\iJ ev w' b (gF f x none)/\w.grownBy w' (some b):=by
 obtain⟨es,c,h1,d⟩:=h;have g:=DW x;rcases MapKept.findNow_spec g es.toList 0 d.ky with⟨i,a⟩|⟨j,en,i,a,n⟩
 .have hf:gF f x none=f:=by
   funext y
   unfold gF;split
   .rename_i e;rw[e];exact(d.MG a).symm
   .rfl
  exact⟨_,by simp[Builtin.delete_,run_underlying m,MapKept.run_getObj_map h1,MapKept.run_checkKey hk g,MapKept.run_findKey hk i,MapKept.run_setObj_map _ h1,Result.andThen];rfl,⟨_,_,(MapKept.heap_set h1).1,by rw[hf];exact d⟩,C1 h1⟩
 .refine⟨_,by simp[Builtin.delete_,run_underlying m,MapKept.run_getObj_map h1,MapKept.run_checkKey hk g,MapKept.run_findKey hk i,MapKept.run_setObj_map _ h1,Result.andThen];rfl,⟨_,_,(MapKept.heap_set h1).1,?_⟩,C1 h1⟩;have l:j<es.size:=by
   rcases aeE j es.size with q|q
   .exact q
   .rw[adA (by simpa using q)] at a;cases a
  have hd:=d.del a n;rw[Array.eraseIdxIfInBounds,dif_pos l,Array.toList_eraseIdx];exact hd
theorem Fh{t k e:aN}(a:P.underlying t=some (.map k e))(h:iJ ev w b f)(ty:aN):
 ∃n:Nat,(Builtin.len_ #[t] ty #[.map (some b)]).run P w= .ok (.int .i64 n) w/\(n=0->∀x,f x=none):=by
 obtain⟨es,c,h1,d⟩:=h;refine⟨es.size,by simp[Builtin.len_,run_underlying a,MapKept.run_getObj_map h1,Result.andThen,goInt],λg x=>d.MG λe he=>?_⟩;rw[Array.size_eq_zero_iff.1 g] at he;simp at he
end
theorem GQ{α:Type}(ev:α->aC){f:Int->Option α}{ops:Array aK}{rest:List aK}{o:aK}{a:Act}(w:aA)(g:o.guard=none)(m x v:Operand)(t k e:aN)(d:o.op=Op.mapUpdate t m x v)
 (i:P.underlying t=some (.map k e)) (hk:P.underlying k=some (.int .i64)) (b:Nat) (n:Int) (y:α) (hm:a.eval m= .map (some b)) (j:a.eval x= .int .i64 n) (l:a.eval v=ev y) (h:iJ ev w b f)
 (hK:∀w',iJ ev w' b (gF f n (some y))->w.grownBy w' (some b)->wpList P ops Q rest (a.put o.dst undef) w'):wpList P ops Q (o::rest) a w:=by
 refine wpList_plain g λK' hK'=>?_
 obtain⟨w',c,r1,p⟩:=KV i hk h n y;unfold Oper.wp;simp[execOp,d,hm,j,l,c,Result.andThen];exact hK' _ _ (hK w' r1 p)
theorem S7{t k e:aN}(a:P.underlying t=some (.map k e))(hk:P.underlying k=some (.int .i64))(d:(zeroValue e).run P w= .ok z w)(x:Int)(c:Bool):
 (Instr.lookup t (.map none) (.int .i64 x) c).run P w= .ok (if c then .tuple #[z,false] else z) w:=by
 simp[Instr.lookup,run_underlying a,MapKept.run_checkKey hk (DW x),Instr.findKey,run_underlying hk,Instr.findNow,d,Result.andThen]
end
end
variable{bu pe p e E:Int}
section
section
structure Bk where
 sh:Int
 un:Int
structure Bs where
 bn:Int
 us:Int
 f:Int->Option Int
 L:List Bk
def jD(bu pe:Int):Int:=(4294967296 *bu+pe - 1) /pe
def EI(f:Int->Option Int):Int:=(f 0).getD 0+(f 1).getD 0+(f 2).getD 0+(f 3).getD 0+(f 4).getD 0+(f 5).getD 0+(f 6).getD 0+(f 7).getD 0
def iE(l:List Bk):Int:=(l.map Bk.sh).sum
structure tH(b:Bs):Prop where
 nn:∀x v,b.f x=some v->0<=v/\0<=x/\x<8
 pn:∀p∈b.L,0<=p.sh
 all:b.us=EI b.f+iE b.L
 top:b.us<=4294967296
def nL(b:Bs)(who bu pe:Int):Int:=if nP bu pe then(if(b.f who).isSome then 7 else if 4294967296<b.us+jD bu pe then 24 else 0) else 1
def r9(b:Bs)(who bu pe:Int):Bs:=if nL b who bu pe=0 then {b with f:=gF b.f who (some (jD bu pe)),us:=b.us+jD bu pe} else b
def C5(b:Bs)(who:Int):Int:=if(b.f who).isSome then 0 else 6
def tK(b:Bs)(who until_:Int):Bs:=match b.f who with
 |none=>b
 |some v=>if b.bn<until_ then {b with f:=gF b.f who none,L:=b.L++ [⟨v,until_⟩]} else {b with f:=gF b.f who none,us:=b.us - v}
def mF(now:Int)(l:List Bk):List Bk:=l.filter λp=>decide (p.un<=now)
def vH(now:Int)(l:List Bk):List Bk:=l.filter λp=>!decide (p.un<=now)
def l7(b:Bs)(now:Int):Bs:=if now<b.bn then b else {b with bn:=now,us:=b.us - iE (mF now b.L),L:=vH now b.L}
theorem EP(p:Bk)(l:List Bk):iE (p::l)=p.sh+iE l:=by simp[iE]
theorem OZ(p:Bk)(l:List Bk):iE (l++ [p])=iE l+p.sh:=by simp[iE]
theorem yN{l:List Bk}(h:∀p∈l,0<=p.sh):0<=iE l:=by
 induction l with
 |nil=>simp[iE]
 |cons p l a=>
  have:=h p aT;have:=a λq hq=>h q (by simp[hq])
  rw[EP];omega
theorem DF(now:Int):∀l:List Bk,iE l=iE (mF now l)+iE (vH now l)
 | []=>rfl
 |p::l=>by
  have:=DF now l;unfold mF vH at *;by_cases h:p.un<=now
  .simp only[List.filter_cons,h,decide_true,ac3,Bool.not_true,acH,acG,EP];omega
  .simp only[List.filter_cons,h,decide_false,ac3,Bool.not_false,acH,acG,EP];omega
theorem VX(now:Int)(l:List Bk)(p:Bk):mF now (l++ [p])=mF now l++(if p.un<=now then [p] else []):=by
 unfold mF;by_cases h:p.un<=now <;> simp[ad8,h]
theorem XQ(now:Int)(l:List Bk)(p:Bk):vH now (l++ [p])=vH now l++(if p.un<=now then [] else [p]):=by
 unfold vH;by_cases h:p.un<=now <;> simp[ad8,h]
theorem eight{x:Int}(h:0<=x/\x<8):x=0\/x=1\/x=2\/x=3\/x=4\/x=5\/x=6\/x=7:=aQ
theorem RJ{f:Int->Option Int}{x:Int}(h:0<=x/\x<8)(v:Option Int):EI (gF f x v)=EI f+v.getD 0 - (f x).getD 0:=by
 rcases eight h with rfl|rfl|rfl|rfl|rfl|rfl|rfl|rfl <;> simp[EI,gF] <;> omega
theorem Nx{f:Int->Option Int}(h:∀x v,f x=some v->0<=v/\0<=x/\x<8){x v:Int}(b:f x=some v):v<=EI f:=by
 have a:∀y,0<=(f y).getD 0:=λy=>by
  cases c:f y with
  |none=>simp
  |some u=>simpa using (h y u c).1
 have d:=a 0;have h1:=a 1;have e:=a 2;have g:=a 3;have i:=a 4;have j:=a 5;have k:=a 6;have l:=a 7;have m:v=(f x).getD 0:=by rw[b];rfl
 unfold EI;rcases eight (h x v b).2 with rfl|rfl|rfl|rfl|rfl|rfl|rfl|rfl <;> omega
theorem TU{f:Int->Option Int}(h:∀x v,f x=some v->0<=v/\0<=x/\x<8):0<=EI f:=by
 have a:∀y,0<=(f y).getD 0:=λy=>by
  cases b:f y with
  |none=>simp
  |some u=>simpa using (h y u b).1
 have c:=a 0;have h1:=a 1;have d:=a 2;have e:=a 3;have g:=a 4;have i:=a 5;have j:=a 6;have k:=a 7;unfold EI;omega
theorem AZ(h:nP bu pe=true):1<=bu/\bu<=pe/\pe<=1048576:=adB h
theorem DV(h:1<=bu/\bu<=pe/\pe<=1048576):1<=jD bu pe/\jD bu pe<=4294967296:=by
 unfold jD;refine⟨(Int.le_ediv_iff_mul_le aQ).2 aQ,?_⟩;have:(4294967296 *bu+pe - 1) /pe<4294967297:=(Int.ediv_lt_iff_lt_mul aQ).2 aQ;omega
theorem tH.us0{b:Bs}(h:tH b):0<=b.us:=by
 have:=h.all;have:=TU h.nn;have:=yN h.pn;omega
theorem tH.adm{b:Bs}(h:tH b)(hw:0<=p/\p<8):tH (r9 b p bu pe):=by
 unfold r9;split
 .rename_i he;unfold nL at he;split at he
  .rename_i c;split at he
   .cases he
   .rename_i hs;split at he
    .cases he
    .rename_i d;have hb:=DV (AZ c);have hf:b.f p=none:=by
      cases hf:b.f p with
      |none=>rfl
      |some v=>rw[hf] at hs;simp at hs
     refine⟨λx v a=>?_,h.pn,?_,by simp only;omega⟩
     .simp only[gF] at a;split at a
      .rename_i e;injection a with a;subst a;exact⟨aQ,aQ,aQ⟩
      .exact h.nn x v a
     .have:=h.all;simp only[RJ hw,hf,afY,Option.getD_none];omega
  .cases he
 .exact h
theorem tH.rel{b:Bs}(h:tH b):tH (tK b e E):=by
 unfold tK;split
 .exact h
 .rename_i v g;have h1:=h.nn e v g;have hs:=RJ h1.2 (none:Option Int) (f:=b.f);rw[g] at hs;simp only[Option.getD_none,afY] at hs;have i:=h.all;have a:=h.top;have c:∀x u,gF b.f e none x=some u->0<=u/\0<=x/\x<8:=λx u d=>by
   simp only[gF] at d;split at d
   .cases d
   .exact h.nn x u d
  split
  .refine⟨c,λp hp=>?_,by simp only[OZ,hs];omega,a⟩;rcases ab6.1 hp with hp|hp
   .exact h.pn p hp
   .rw[ab0.1 hp];exact h1.1
  .exact⟨c,h.pn,by simp only[hs];omega,by simp only;omega⟩
theorem tH.adv{b:Bs}(h:tH b){now:Int}:tH (l7 b now):=by
 unfold l7;split
 .exact h
 .have hs:=DF now b.L;have a:0<=iE (mF now b.L):=yN λp hp=>h.pn p (ac1.1 hp).1
  have:=h.all;have:=h.top;exact⟨h.nn,λp hp=>h.pn p (ac1.1 hp).1,by simp only;omega,by simp only;omega⟩
end
end
section
open Go.RowKit Go.Lib Go.Shelf
variable{w:aA}{g n d:Nat}{cs:Array aC}{M:Option Nat}{F:Nat->Prop}{B:Option aJ}{tu:Int}
section
def UT(x:Bk):List aC:= [.int .u64 x.sh, .int .i64 x.un]
theorem BW:eW UT 2:=⟨λ_=>rfl,λx u hu=>by simp[UT] at hu;rcases hu with rfl|rfl <;> rfl⟩
def KZ(x:Int):aC:= .int .u64 x
def GU(E:Option aJ)(n c:Nat)(bn us:Int)(M:Option Nat)(B:Option aJ)(m d:Nat)(nw tu:Int):Array aC:=#[(E,n,c),bn, .int .u64 us, .map M,(B,m,d),nw,tu]
def Gx{α:Type}(ev:α->aC)(w:aA)(M:Option Nat)(f:Int->Option α):Prop:=(M=none->∀x,f x=none)/\∀r,M=some r->iJ ev w r f
structure gG(F:Nat->Prop)(w:aA)(g:Nat)(E:Option aJ)(n c:Nat)(s:Bs)(M:Option Nat)(B:Option aJ)(d:Nat)(nw tu:Int):Prop where
 b:bE w g 186 (GU E n c s.bn s.us M B s.L.length d nw tu)
 oB:bI UT 2 w (g+1) 331 B d s.L
 mp:Gx KZ w M s.f
 fl:Ol F w
 fg:¬F g
 fB:∀q,aY B=some q->¬F q
 fM:∀r,M=some r->¬F r
theorem zJ{α:Type}{ev:α->aC}{f:Int->Option α}{b:Nat}{t:aN}(h:iJ ev w b f)(hb:bE w g t cs):b≠g:=λe=>by
 subst e;obtain⟨es,c,h1,_⟩:=h;unfold bE at hb;rw[h1] at hb;cases hb
section
variable{F:Nat->Prop}{w w':aA}{g n c d:Nat}{E B:Option aJ}{nw tu:Int}{M:Option Nat}{b:Bs}
theorem gG.keep(h:gG F w g E n c b M B d nw tu)(hb:aD w w w'):gG F w' g E n c b M B d nw tu:=⟨h.b.keep hb,h.oB.keep hb,⟨h.mp.1,λr a=>(h.mp.2 r a).keep hb⟩,h.fl.kp (h.fl.below hb),h.fg,h.fB,h.fM⟩
theorem gG.cells(h:gG F w g E n c b M B d nw tu){bn' us' nw' tu':Int}(a:w.grownBy w' (some g))(hb:bE w' g 186 (GU E n c bn' us' M B b.L.length d nw' tu')):gG F w' g E n c {b with bn:=bn',us:=us'} M B d nw' tu'/\Kp F w w':=by
 have k:=h.fl.self h.fg a;exact⟨⟨hb,h.oB.kept a (tG h.oB),⟨h.mp.1,λr e=>(h.mp.2 r e).rI a (zJ (h.mp.2 r e) h.b)⟩,h.fl.kp k,h.fg,h.fB,h.fM⟩,k⟩
theorem gG.VC(h:gG F w g E n c b M B d nw tu)(v:Int):gG F (w.setCell (g,2) (.int .u64 v)) g E n c {b with us:=v} M B d nw tu/\Kp F w (w.setCell (g,2) (.int .u64 v)):=
 h.cells (bn':=b.bn) (aZ (bL w g) 2 _) (by have:=h.b.cB 2 (.int .u64 v);simpa[GU] using this)
theorem gG.Wr(h:gG F w g E n c b M B d nw tu)(v:Int):gG F (w.setCell (g,1) v) g E n c {b with bn:=v} M B d nw tu/\Kp F w (w.setCell (g,1) v):=
 h.cells (us':=b.us) (aZ (bL w g) 1 _) (by have:=h.b.cB 1 v;simpa[GU] using this)
theorem gG.Td(h:gG F w g E n c b M B d nw tu){r:Nat}{f:Int->Option Int}(hm:iJ KZ w r f)(hF:¬F r):gG F (w.setCell (g,3) (.map (some r))) g E n c {b with f:=f} (some r) B d nw tu/\Kp F w (w.setCell (g,3) (.map (some r))):=by
 have a:=aZ (bL w g) 3 (.map (some r));have k:=h.fl.self h.fg a;refine⟨⟨by have:=h.b.cB 3 (.map (some r));simpa[GU] using this,h.oB.kept a (tG h.oB),⟨λh=>(by cases h),λq hq=>?_⟩,h.fl.kp k,h.fg,h.fB,λq hq=>?_⟩,k⟩
 .injection hq with hq;subst hq;exact hm.rI a (zJ hm h.b)
 .injection hq with hq;subst hq;exact hF
theorem gG.map{r:Nat}{f:Int->Option Int}(h:gG F w g E n c b (some r) B d nw tu)(hm:iJ KZ w' r f)(a:w.grownBy w' (some r)):gG F w' g E n c {b with f:=f} (some r) B d nw tu/\Kp F w w':=by
 have k:=h.fl.self (h.fM r rfl) a;have i:=zJ (h.mp.2 r rfl) h.b;refine⟨⟨h.b.grown a (λe=>i (by injection e with e;exact e.symm)),h.oB.kept a ?_,⟨λh=>(by cases h),λq hq=>?_⟩,h.fl.kp k,h.fg,h.fB,h.fM⟩,k⟩
 .cases hb:aY B with
  |none=>exact .inl rfl
  |some q=>
   right
   intro e;obtain⟨cs,h1⟩:=qJ h.oB q hb;injection e with e;exact zJ (h.mp.2 r rfl) h1 e.symm
 .injection hq with hq;subst hq;exact hm
end
theorem Sq(r:Nat)(w:aA):(binOp BinOp.eql 181 (.map (some r)) (.map none)).run prog w= .ok (.bool false) w:=aV
theorem Mi(w:aA):(binOp BinOp.eql 181 (.map none) (.map none)).run prog w= .ok (.bool true) w:=aV
theorem I0:∀w,(zeroValue 75).run prog w= .ok (.int .u64 0) w:=λw=>by kernel_rfl
theorem ZU{f:Int->Option Int}(h:Gx KZ w M f)(a:Int):∃v:aC,(Instr.lookup 181 (.map M) (.int .i64 a) true).run prog w= .ok (.tuple #[v, .bool (f a).isSome]) w:=by
 cases M with
 |none=>rw[h.1 rfl a];exact⟨_,S7 underlying181 underlying3 (I0 w) a true⟩
 |some r=>exact⟨_,wT underlying181 underlying3 (I0 w) (h.2 r rfl) a true⟩
theorem RL{c:Nat}{E:Option aJ}{nw:Int}{b:Bs}(h:gG F w g E n c b M B d nw tu)(a:Int):
 aG prog 135 #[.pointer (some ⟨g,1,none⟩),a] w λe w'=>e= .returned (.bool (b.f a).isSome)/\w=w':=by
 have c3:=h.b.cell 3 (.map M) rfl;obtain⟨v,hl⟩:=ZU h.mp a;clear h;generalize (b.f a).isSome=ok at *;go_enter func135,ntmps135
 go_wp2_with fail
 go_ret
 exact⟨rfl,rfl⟩
theorem Cl(bu pe:Int)(w:aA)(v:nP bu pe=true):aG prog 136 #[.agg #[bu,pe]] w λe w'=>e= .returned (.int .u64 (jD bu pe))/\aD w w w':=by
 have x:=AZ v;have y:aH (jD bu pe=(4294967296 *bu+pe - 1) /pe):=rfl;have k:=aP (λW=>DH bu pe W);rw[v] at k;have j:=aX w (aI #[bu,pe] 112);have m:=bE.new w 112 #[bu,pe];go_enter func136,ntmps136
 go_upto_region 1 with(fail)
 generalize w.alloc (aI #[bu,pe] 112)=w1 at *;generalize hq:w.heap.size=q at m⊢;have p:=m.cell 0 bu rfl;have r:=m.cell 1 pe rfl;go_wp2_with fail
 refine aS (k.o _) ?_;rintro e z ⟨rfl,a⟩;replace p:=bK a p;replace r:=bK a r;have A:(0:Int)<=pe:=aQ;have z0:IntKind.u64.wrap bu=bu:=by rw[IntKind.wrap_u64];omega
 have C:IntKind.u64.wrap pe=pe:=by rw[IntKind.wrap_u64];omega
 go_upto_region 3 with(fail)
 (have f:=cC.cell p;have h:=cC.cell r;refine dG aV aV ?_;(repeat (go_big_quiet_step (fail)));refine wpQuiet_nil ?_;clear f h;intro w5 i;have t:=cC.below i;clear i)
 have p0:¬pe=0:=aQ;have z2:IntKind.u64.wrap (4294967296 *bu)=4294967296 *bu:=by rw[IntKind.wrap_u64];omega
 have z3:IntKind.u64.wrap (4294967296 *bu+pe)=4294967296 *bu+pe:=by rw[IntKind.wrap_u64];omega
 have z4:IntKind.u64.wrap (4294967296 *bu+pe - 1)=4294967296 *bu+pe - 1:=by rw[IntKind.wrap_u64];omega
 have hb:=DV x;have z5:Int.tdiv (4294967296 *bu+pe - 1) pe=jD bu pe:=by rw[y.o];exact Int.tdiv_eq_ediv_of_nonneg aQ
 have D:IntKind.u64.wrap (jD bu pe)=jD bu pe:=by rw[IntKind.wrap_u64];omega
 generalize l:jD bu pe=s at *;have u:=aP l;clear l;go_wp2_with fail
 go_ret
 exact⟨by simp;exact u.o.symm,(j.trans (Below.mono a j.size)).trans (Below.mono t (abT j.size a.size))⟩
theorem YW{c:Nat}{E:Option aJ}{nw:Int}{b:Bs}(h:gG F w g E n c b M B d nw tu)(hb:tH b)(a bu pe:Int):
 aG prog 96 #[.pointer (some ⟨g,1,none⟩),a, .agg #[bu,pe]] w λe w'=>e= .returned (.int .i64 (nL b a bu pe))/\(∃M,gG F w' g E n c (r9 b a bu pe) M B d nw tu)/\Kp F w w':=by
 have p:=aP (λW=>DH bu pe W);have A:=aX w (aI #[bu,pe] 112);have t:=bE.new w 112 #[bu,pe];have m1:=h.keep A;have T:=h.fl.below A;by_cases u:nP bu pe=true
 .have hR:=AZ u;have hs:=DV hR;have hu:=hb.us0;have ht:=hb.top;have J:=aP (λW=>Cl bu pe W u);rw[u] at p;have x:aH (nL b a bu pe=if(b.f a).isSome then 7 else if 4294967296<b.us+jD bu pe then 24 else 0):=by unfold aH nL;rw[abP u]
  have C:aH (r9 b a bu pe=if nL b a bu pe=0 then {b with f:=gF b.f a (some (jD bu pe)),us:=b.us+jD bu pe} else b):=rfl;generalize r9 b a bu pe=b' at *;generalize nL b a bu pe=I at *;clear h u hb;generalize jD bu pe=s at *;go_enter func96,ntmps96
  go_upto_region 3 with(fail)
  generalize w.alloc (aI #[bu,pe] 112)=w1 at *;generalize hq:w.heap.size=q at t⊢;have U:=t.cell 0 bu rfl;have V:=t.cell 1 pe rfl;clear t;have y:=bP m1 T;clear m1 T A;go_wp2_with fail
  refine aS (p.o _) ?_;rintro e w2 ⟨rfl,j⟩;replace U:=bK j U;replace V:=bK j V;have m2:=y.o.1.keep j;have k:=bP m2 (y.o.2.trans (y.o.1.fl.below j));have z:=aP (RL m2 a);clear m2 j y;go_wp2_with fail
  refine aR z ?_;rintro e w3 ⟨rfl,rfl⟩;cases hf:b.f a with
  |some v=>
   rw[hf] at x;have he:aH (I=7):=by show I=7;have:=x.o;simpa using this
   clear x;simp only[adN];go_wp2_with fail
   go_ret
   refine⟨by rw[he.o];rfl,?_,k.o.2⟩;rw[C.o,he.o,abQ aQ];exact⟨_,k.o.1⟩
  |none=>
   rw[hf] at x;simp only[adO];clear hf z;go_wp2_with fail
   refine aS (J.o _) ?_;rintro e m ⟨rfl,D⟩;have m4:=k.o.1.keep D;have i:=bP m4 (k.o.2.trans (k.o.1.fl.below D));have c2:=m4.b.cell 2 (.int .u64 b.us) rfl;clear m4 D k U V p J;have z1:IntKind.u64.wrap (b.us+s)=b.us+s:=by rw[IntKind.wrap_u64];omega
   by_cases G:4294967296<b.us+s
   .have he:aH (I=24):=by have:=x.o;rw[abQ aT,abP G] at this;exact this
    clear x;go_wp2_with fail
    go_ret
    refine⟨by rw[he.o];rfl,?_,i.o.2⟩;rw[C.o,he.o,abQ aQ];exact⟨_,i.o.1⟩
   .have he:aH (I=0):=by have:=x.o;rw[abQ aT,abQ G] at this;exact this
    clear x;have c3:=i.o.1.b.cell 3 (.map M) rfl;obtain⟨K,H⟩:∃K,K=b.us:=⟨_,rfl⟩
    rw[<-H] at c2 z1 G hu ht;have HU:=aP H;clear H;have L:=λr=>Sq r m
    rcases M with _|r;have X:= @run_makeMap prog;have Y:=Mi m;have m5:=i.o.1.keep (aX m (Obj.map #[] 0));have c5:=m5.b.cell 3 (.map none) rfl;have f5:=m5.b.frozen 3;go_upto_region 12 with(fail)
    obtain⟨m6,k6⟩:=m5.Td (iJ.new m KZ) (λhF=>by have:=i.o.1.fl _ hF;omega);have N:b.f=λ_=>none:=funext (i.o.1.mp.1 rfl)
    have m7:gG F ((m.alloc (Obj.map #[] 0)).setCell (g,3) (.map (some m.heap.size))) g E n c b (some m.heap.size) B d nw tu:=by
     have:=m6;rw[<-N] at this;exact this
    have l:=aP (And.intro m7 (i.o.2.trans ((i.o.1.fl.below (aX m _)).trans k6)));clear m5 c5 f5 m6 k6 m7 N i X Y L c2 c3;generalize (m.alloc (Obj.map #[] 0)).setCell (g,3) (.map (some m.heap.size))=w6 at *;generalize m.heap.size=r at *;rotate_left
    all_goals try go_upto_region 12 with(fail)
    clear L c2 c3;have l:=i;clear i;generalize m=w6 at *
    all_goals
     obtain⟨w7,O,P,Q⟩:=KV underlying181 underlying3 (l.o.1.mp.2 r rfl) a s;have c3:=l.o.1.b.cell 3 (.map (some r)) rfl;obtain⟨m7,k7⟩:=l.o.1.map P Q;obtain⟨m8,k8⟩:=m7.VC (K+s);have c2:=m7.b.cell 2 (.int .u64 b.us) rfl;have f2:=m7.b.frozen 2;rw[<-HU.o] at c2;have R:=bP m8 ((l.o.2.trans k7).trans k8);clear m7 k7 m8 k8 P Q l;simp only[KZ] at O;go_wp2_with fail
     have Z:aH (Ending.returned (.int .i64 0)=Ending.returned (.int .i64 I)/\(∃M,gG F (w7.setCell (g,2) (.int .u64 (K+s))) g E n c b' M B d nw tu)/\Kp F w (w7.setCell (g,2) (.int .u64 (K+s)))):=by
      refine⟨by rw[he.o],?_,R.o.2⟩;rw[C.o,he.o,abP rfl,<-HU.o];exact⟨_,R.o.1⟩
     exact bodyPost_ret (v:= .int .i64 0) (by simp[results,results96,go_sem]) rfl Z.o
 .have S:nP bu pe=false:=by simpa using u
  have he:aH (nL b a bu pe=1):=by unfold aH nL;rw[abQ u]
  have hB:aH (r9 b a bu pe=b):=by unfold aH r9;rw[he.o,abQ aQ]
  rw[S] at p;have y:=bP m1 T;clear h hb u S m1 T;generalize r9 b a bu pe=b' at *;generalize nL b a bu pe=I at *;go_enter func96,ntmps96
  go_upto_region 3 with(fail)
  generalize w.alloc (aI #[bu,pe] 112)=w1 at *;generalize hq:w.heap.size=q at t⊢;have U:=t.cell 0 bu rfl;have V:=t.cell 1 pe rfl;clear t;go_wp2_with fail
  refine aS (p.o _) ?_;rintro e w2 ⟨rfl,j⟩;go_wp2_with fail
  go_ret
  exact⟨by rw[he.o];rfl,by rw[hB.o];exact⟨_,y.o.1.keep j⟩,y.o.2.trans (y.o.1.fl.below j)⟩
end
end
end Go.Proofs.YtacgiflhgdaeaaaGreat
