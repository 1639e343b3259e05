/- Texts laid as one. -/
import Derived.Deep.DeepCutAuto
import Derived.Deep.CutBlock
import Derived.Shelf.Abstract
import Derived.Test.YtacgiflhgdaeaaaGreatAZ2
import Derived.Test.YtacgiflhgdaeaaaGreatAZ4
set_option linter.unusedVariables false
set_option linter.unusedSimpArgs false
set_option maxRecDepth 100000
set_option maxHeartbeats 20000000
namespace Go.Proofs.YtacgiflhgdaeaaaGreat
open Go.Proofs.Tryz
open Go renaming World->aA,Value->aC,Addr->aJ,Oper->aK,TypeId->aN,Program->aO,Calls->aG
open Go.RowKit renaming Below->aD,Hid->aH
open Go.Obj renaming cells->aI
section
open Go.RowKit Go.Lib
open dF (Tb)
open Fr (dX Fm)
section
namespace Pa.Cp
def Fa(x:Nat):aC:=match EC x with
 |some i=> .tuple #[.agg #[i.op,i.a,i.b,i.c, .int .u64 i.n],aU]
 |none=> .tuple #[.agg #[aU,aU,aU,aU,bC], .int .i64 21]
theorem XF(x:Nat)(a:x<18446744073709551616)(w:aA):aG prog 225 #[.int .u64 x] w λe w'=>e= .returned (Fa x)/\aD w w w':=by
 have h:=U1 x (x%256) (x /256%16) (x /4096%16) (x /65536%16) (x /1048576) w a (D8 x a) aQ _ rfl;unfold Fa EC;cases b:sE ((x%256:Nat):Int) ((x /256%16:Nat):Int) ((x /4096%16:Nat):Int) ((x /65536%16:Nat):Int) ((x /1048576:Nat):Int)
 .rw[b] at h;simpa using h
 .rw[b] at h;simpa using h
structure Cd(F:Nat->Prop)(w:aA)(C:Option aJ)(CL:List Int):Prop where
 sl:Sl eU 1 w C CL
 rg:∀v∈CL,0<=v/\v<18446744073709551616
 len:CL.length<=9223372036854775807
 Pb:0<CL.length->∀b,Go.Proofs.YtacgiflhgdaeaaaGreat.aY C=some b->F b
variable{F:Nat->Prop}{w w':aA}{CL:List Int}
theorem Cd.kp{C:Option aJ}(h:Cd F w C CL)(k:Kp F w w'):Cd F w' C CL:=by
 refine⟨λhp=>?_,h.rg,h.len,h.Pb⟩;obtain⟨b,off,a,hc⟩:=h.sl hp;exact⟨b,off,a,λi x j u c hu=>k.cell (hc i x j u c hu) (h.Pb hp b (by rw[a];rfl))⟩
variable{G:Nat->Prop}
theorem Cd.more{C:Option aJ}(h:Cd F w C CL)(a:∀i,F i->G i):Cd G w C CL:=⟨h.sl,h.rg,h.len,λhp b hb=>a b (h.Pb hp b hb)⟩
variable{i:Nat}
theorem Cd.at_{C:Option aJ}(h:Cd F w C CL)(hi:i<CL.length):∃b off,C=some ⟨b,off,none⟩/\w.cell? ⟨b,off+i,none⟩=some (.int .u64 (rat CL i))/\0<=rat CL i/\rat CL i<18446744073709551616:=by
 obtain⟨b,off,a,hc⟩:=h.sl aQ;have e:rat CL i=CL[i]:=by unfold rat;rw[Zv hi];rfl
 refine⟨b,off,a,?_,?_⟩
 .have:=hc i CL[i] 0 (.int .u64 CL[i]) (Zv hi) rfl;rw[e];simpa using this
 .rw[e];exact h.rg _ (aaF _)
def AJ(CL:List Int)(p:Int):Except (Int×Int) In:=
 if p<0\/(CL.length:Int)<=p then .error (3,0)
 else match EC (rat CL p.toNat).toNat with
  |none=> .error (3,rat CL p.toNat)
  |some i=> .ok i
def NP(r:Except (Int×Int) In):Except (Int×Int) aC:=match r with
 | .ok i=> .ok (.agg #[i.op,i.a,i.b,i.c, .int .u64 i.n])
 | .error z=> .error z
theorem G7(F:Nat->Prop)(f gt gf:Nat)(gc:Gc)(C:Option aJ)(cc:Nat)(g:List Int)(env p:Int)(w:aA)(hl:Fg w f gt gf gc C g.length cc env)(c8:w.cell? (gc.b,gc.o+8)=some (.int .i64 p))(hc:Cd F w C g):
 aG prog 177 #[.pointer f] w λe w'=>e=gO p (NP (AJ g p))/\aD w w w':=by
 have d:=aX w (aI #[aU,aU,aU,aU,bC] 365);have bk:=bF.new w 365 #[aU,aU,aU,aU,bC];have cf0:=bG d hl.c0;have h:=bG d hl.c1;have ca:=bG d c8;have r:=hl.c0;have s:=c8;clear c8;unfold AJ;by_cases D:p<0
 .rw[Zz (.inl D)];simp only[NP];clear hl hc;go_enter func177,ntmps177
  go_wp2_with fail
  generalize w.alloc (aI #[aU,aU,aU,aU,bC] 365)=w1 at *;go_quiet (fail)
  go_wp2_with fail
  refine(pU f 3 0 p gc _ (by exact cf0) (by exact ca)).mono ?_;rintro e E ⟨rfl,rfl⟩;simp only[bodyPost,gO];exact⟨rfl,rfl,fD d _⟩
 .by_cases h1:(g.length:Int)<=p
  .rw[Zz (.inr h1)];simp only[NP];clear hl hc;generalize g.length=n at *;go_enter func177,ntmps177
   go_wp2_with fail
   generalize w.alloc (aI #[aU,aU,aU,aU,bC] 365)=w1 at *;go_quiet (fail)
   go_wp2_with fail
   refine(pU f 3 0 p gc _ (by exact cf0) (by exact ca)).mono ?_;rintro e E ⟨rfl,rfl⟩;simp only[bodyPost,gO];exact⟨rfl,rfl,fD d _⟩
  .rw[aaA aQ];obtain⟨k,rfl⟩:=aaB (show 0<=p by omega);rw[aaG];obtain⟨b,off,L,j,l,m⟩:=hc.at_ (i:=k) aQ;subst L;replace j:=bG d j;obtain⟨x,q⟩:=aaB l;rw[q] at j m⊢;rw[aaG];have HD:=aP (λW=>XF x aQ W);unfold Fa at HD;clear q l m hl hc;clear r s;have hk:k<g.length:=aQ;clear D h1;generalize g.length=n at *;cases hd:EC x with
   |none=>
    rw[hd] at HD;simp only[NP];simp only at HD;go_enter func177,ntmps177
    go_wp2_with fail
    generalize w.alloc (aI #[aU,aU,aU,aU,bC] 365)=w1 at *;go_quiet (fail)
    go_wp2_with fail
    go_quiet (fail)
    go_wp2_with fail
    refine(HD.o _).mono ?_;rintro e G ⟨rfl,hb⟩;replace bk:=(bk.drewN _).keep hb;replace cf0:=bG hb (show World.cell? _ _=_ from cf0);replace ca:=bG hb (show World.cell? _ _=_ from ca);replace d:=fK (fD d _) (Zw _) hb;clear hb h j;have t:=bk.lt;have z0:=bk.cell 0 (.int .i64 0) rfl;have M:=bk.cell 1 (.int .i64 0) rfl;have z2:=bk.cell 2 (.int .i64 0) rfl;have z3:=bk.cell 3 (.int .i64 0) rfl;have z4:=bk.cell 4 (.int .u64 0) rfl;have f0:=bk.frozen 0;have f1:=bk.frozen 1;have f2:=bk.frozen 2;have f3:=bk.frozen 3;have f4:=bk.frozen 4;go_wp2_with fail
    refine(pU f 3 x k gc _ (bG (aX _ _) cf0) (bG (aX _ _) ca)).mono ?_;rintro e E ⟨rfl,rfl⟩;simp only[gO];go_wp2_with fail
    simp only[bodyPost,gO];exact⟨trivial,trivial,d.alloc d.size _⟩
   |some i=>
    rw[hd] at HD;simp only[NP];simp only at HD;generalize u:i.op=n0 at *;generalize y:i.a=n1 at *;generalize z:i.b=H at *;generalize A:i.c=I at *;generalize B:i.n=J at *;clear hd u y z A B;go_enter func177,ntmps177
    go_wp2_with fail
    generalize w.alloc (aI #[aU,aU,aU,aU,bC] 365)=w1 at *;go_quiet (fail)
    go_wp2_with fail
    go_quiet (fail)
    go_wp2_with fail
    refine(HD.o _).mono ?_;rintro e G ⟨rfl,hb⟩;replace bk:=(bk.drewN _).keep hb;replace d:=fK (fD d _) (Zw _) hb;clear hb cf0 h ca j;have t:=bk.lt;have z0:=bk.cell 0 (.int .i64 0) rfl;have M:=bk.cell 1 (.int .i64 0) rfl;have z2:=bk.cell 2 (.int .i64 0) rfl;have z3:=bk.cell 3 (.int .i64 0) rfl;have z4:=bk.cell 4 (.int .u64 0) rfl;have f0:=bk.frozen 0;have f1:=bk.frozen 1;have f2:=bk.frozen 2;have f3:=bk.frozen 3;have f4:=bk.frozen 4;go_wp2_with fail
    have K:=(d.grown (tS G w (.int .i64 n0) (.int .i64 n1) (.int .i64 H) (.int .i64 I) (.int .u64 J)) d.size (λk hk=>by injection hk with hk;omega))
    exact bodyPost_ret (v:= .agg #[n0,n1,H,I, .int .u64 J]) (by simp[results,results177,go_sem, *]) rfl ⟨rfl,K.alloc K.size _⟩
end Pa.Cp
end
section
namespace Pa.Cp
theorem Km(F:Nat->Prop)(f gt gf:Nat)(gc:Gc)(C:Option aJ)(cl cc:Nat)(env:Int)(T:Int->Tt)(st:St)(i:In)(w:aA)(q:Mo F w gt gf gc T st)(hl:Fg w f gt gf gc C cl cc env)(hf:F f)(ok:QE i)(p0:0<=st.pc)(p1:st.pc<9223372036854775807):
 aG prog 176 #[.pointer f, .agg #[i.op,i.a,i.b,i.c, .int .u64 i.n]] w (Rs F gt gf gc T st (kW (T env) i st) w):=by
 obtain⟨op,a,b,c,k⟩:=i;obtain⟨j,h1,d,e,g⟩:=ok;simp only at j h1 d e g;rcases(by omega:op=0\/op=1\/op=2\/op=3\/op=4\/op=5\/op=6\/op=7\/op=8\/op=9\/op=10\/op=11\/op=12\/op=13\/op=14\/op=15\/op=16\/op=17\/op=18) with rfl|rfl|rfl|rfl|rfl|rfl|rfl|rfl|rfl|rfl|rfl|rfl|rfl|rfl|rfl|rfl|rfl|rfl|rfl
 .exact Nz ⟨q,hl,hf,h1,d,e,g,p0,p1⟩
 .exact Pz ⟨q,hl,hf,h1,d,e,g,p0,p1⟩
 .exact Xk ⟨q,hl,hf,h1,d,e,g,p0,p1⟩
 .exact Xn ⟨q,hl,hf,h1,d,e,g,p0,p1⟩
 .exact Wv ⟨q,hl,hf,h1,d,e,g,p0,p1⟩
 .by_cases h:rat st.R c=0
  .exact Kt ⟨q,hl,hf,h1,d,e,g,p0,p1⟩ h
  .exact Mx ⟨q,hl,hf,h1,d,e,g,p0,p1⟩ h
 .exact Yd ⟨q,hl,hf,h1,d,e,g,p0,p1⟩
 .exact Xb ⟨q,hl,hf,h1,d,e,g,p0,p1⟩
 .exact Yc ⟨q,hl,hf,h1,d,e,g,p0,p1⟩
 .exact Wq ⟨q,hl,hf,h1,d,e,g,p0,p1⟩
 .exact Un ⟨q,hl,hf,h1,d,e,g,p0,p1⟩
 .exact Tz ⟨q,hl,hf,h1,d,e,g,p0,p1⟩
 .cases h:GU (T env) st.s (vA (rat st.R b) k) with
  |error z=>exact Cs ⟨q,hl,hf,h1,d,e,g,p0,p1⟩ z h
  |ok v=>exact Hy ⟨q,hl,hf,h1,d,e,g,p0,p1⟩ v h
 .cases h:stM (T env) st.s (vA (rat st.R b) k) (rat st.R a) with
  |error z=>exact X2 ⟨q,hl,hf,h1,d,e,g,p0,p1⟩ z h
  |ok v=>exact Y0 ⟨q,hl,hf,h1,d,e,g,p0,p1⟩ v h
 .exact Nl ⟨q,hl,hf,h1,d,e,g,p0,p1⟩
 .by_cases h:rat st.R a=0
  .exact WM ⟨q,hl,hf,h1,d,e,g,p0,p1⟩ h
  .exact UY ⟨q,hl,hf,h1,d,e,g,p0,p1⟩ h
 .exact Rp ⟨q,hl,hf,h1,d,e,g,p0,p1⟩
 .exact Nd ⟨q,hl,hf,h1,d,e,g,p0,p1⟩
 .by_cases h:17592186044415<rat st.R a
  .exact Fz ⟨q,hl,hf,h1,d,e,g,p0,p1⟩ h
  .exact Gh ⟨q,hl,hf,h1,d,e,g,p0,p1⟩ h
theorem Ha(t:Tt)(C:List Int)(m:St):mF t C m=match AJ C m.pc with
 | .error z=>(⟨z.1,m.pc,z.2⟩,m)
 | .ok i=>match kW t i m with
  | .error z=>(⟨z.1,m.pc,z.2⟩,m)
  | .ok q=>(q.2,q.1):=by
 unfold mF AJ;split
 .rfl
 .cases EC (rat C m.pc.toNat).toNat <;> rfl
variable{p:Int}
theorem SP{C:List Int}{i:In}(h:AJ C p= .ok i):QE i/\0<=p/\p<C.length:=by
 unfold AJ at h;split at h
 .cases h
 .rename_i hp;split at h
  .cases h
  .rename_i j a;injection h with h;subst h;exact⟨Nx a,aQ,aQ⟩
def OS(F:Nat->Prop)(gt gf:Nat)(gc:Gc)(T:Int->Tt)(r:Tp×St)(w:aA)(e:Ending)(w':aA):Prop:=e= .returned (.agg #[r.1.k,r.1.p, .int .u64 r.1.x])/\Mo F w' gt gf gc T r.2/\Kp F w w'
variable{F G:Nat->Prop}{w w':aA}{gt gf b:Nat}{gc:Gc}
theorem Mo.JY{T:Int->Tt}{st:St}(q:Mo G w gt gf gc T st)(d:w.grownBy w' (some b))(a:∀i,F i->G i){B:Nat}(hF:∀i,F i->i<B)(hb:B<=b/\G b):Mo F w' gt gf gc T st:=by
 obtain⟨A,c,L,h,m,q⟩:=q;obtain⟨_,o1,o2,o3,e⟩:=q.off _ hb.2;exact⟨A,c,L,h,m,q.tb.only d (acT o1) e,⟨q.fm.n0,q.fm.t,q.fm.b,q.fm.at_.grown d (by simpa using acT o2)⟩,q.cp.grown d (by simpa using acT o3),q.rg,q.og,q.C4,q.len,q.tt,q.tf,q.tc,q.fc,q.af,q.ac,λi hi=>⟨Zy (q.off i (a i hi)).1 d.size,(q.off i (a i hi)).2⟩⟩
theorem _root_.Go.Proofs.YtacgiflhgdaeaaaGreat.Kp.NG{a:aA}(h:Kp F a w)(c:w.grownBy w' (some b))(hF:∀i,F i->i<a.heap.size)(hb:a.heap.size<=b):Kp F a w':=
 ⟨c.os.trans h.os,c.tape.trans h.tape,c.output.trans h.output,aaC h.size c.size,λi hi=>by
  have:=hF i hi;exact(c.block i (by have:=h.size;omega) bT).trans (h.block i hi)⟩
theorem Lk(F:Nat->Prop)(gt gf:Nat)(gc:Gc)(C:Option aJ)(cc:Nat)(c:List Int)(env:Int)(T:Int->Tt)(st:St)(w:aA)(q:Mo F w gt gf gc T st)(hc:Cd F w C c)(z:Int×Int)(r:AJ c st.pc= .error z):
 aG prog 121 #[.pointer (some ⟨gc.b,gc.o,none⟩),(C,c.length,cc), .agg #[env, .pointer gt, .pointer gf]] w (OS F gt gf gc T (⟨z.1,st.pc,z.2⟩,st) w):=by
 have u:∀(fn:Fn) (first cap:Array aC) (w:aA),(Instr.makeFunc fn first cap).run prog w= .ok (.func fn first cap) w:=λ_ _ _ _=>rfl
 obtain⟨d,a⟩:∃d:Nat->Prop,d=λi=>((F i\/i=w.heap.size)\/i=(w.alloc (aI #[env, .pointer gt, .pointer gf] 241)).heap.size)\/i=((w.alloc (aI #[env, .pointer gt, .pointer gf] 241)).alloc (aI #[aU,aU,bC] 77)).heap.size:=⟨_,rfl⟩
 have l:=((q.box (aI #[env, .pointer gt, .pointer gf] 241)).box (aI #[aU,aU,bC] 77)).box (aI #[.pointer (some ⟨gc.b,gc.o,none⟩),(C,c.length,cc),env, .pointer gt, .pointer gf] 362);rw[<-a] at l;have m:aH ((∀i,F i->d i)/\d w.heap.size/\d (w.heap.size+1)/\d (w.heap.size+1+1)/\∀i,F i->i<w.heap.size):=⟨λi hi=>by rw[a];exact .inl (.inl (.inl hi)),by rw[a];exact .inl (.inl (.inr rfl)),by rw[a];exact .inl (.inr aT),by rw[a];exact .inr aT,q.lt⟩
 have s:aD w w (((w.alloc (aI #[env, .pointer gt, .pointer gf] 241)).alloc (aI #[aU,aU,bC] 77)).alloc (aI #[.pointer (some ⟨gc.b,gc.o,none⟩),(C,c.length,cc),env, .pointer gt, .pointer gf] 362)):=((aX w (aI #[env, .pointer gt, .pointer gf] 241)).alloc aT _).alloc bT _;have t:=aP (Kp.cB s q.lt);have bt:=(bF.fI (w.alloc (aI #[env, .pointer gt, .pointer gf] 241)) 77 #[aU,aU,bC] (g:=w.heap.size+1) aT).alloc (aI #[.pointer (some ⟨gc.b,gc.o,none⟩),(C,c.length,cc),env, .pointer gt, .pointer gf] 362);have h:=bF.fI ((w.alloc (aI #[env, .pointer gt, .pointer gf] 241)).alloc (aI #[aU,aU,bC] 77)) 362 #[.pointer (some ⟨gc.b,gc.o,none⟩),(C,c.length,cc),env, .pointer gt, .pointer gf] (g:=w.heap.size+1+1) aT;have n:=(hc.kp (Kp.cB s q.lt)).more m.o.1;clear a q hc;go_enter_defers func121,ntmps121
 go_wp2_with fail
 generalize (((w.alloc (aI #[env, .pointer gt, .pointer gf] 241)).alloc (aI #[aU,aU,bC] 77)).alloc (aI #[.pointer (some ⟨gc.b,gc.o,none⟩),(C,c.length,cc),env, .pointer gt, .pointer gf] 362))=w1 at *;clear s;have hl:Fg w1 (w.heap.size+1+1) gt gf gc C c.length cc env:=⟨h.cell 0 _ rfl,h.cell 1 _ rfl,h.cell 2 _ rfl,h.cell 3 _ rfl,h.cell 4 _ rfl⟩
 have j:=G7 d (w.heap.size+1+1) gt gf gc C cc c env st.pc w1 hl l.c8 n;rw[r] at j;refine j.mono ?_;rintro e v ⟨rfl,hb⟩;replace l:=l.keep hb;replace bt:=bt.keep hb;have x:aH (Kp F w v):=t.o.trans (Kp.cB hb (λi hi=>by have:=m.o.2.2.2.2 i hi;have:=h.lt;omega));replace hl:=hl.keep hb;clear hb h t j;simp only[NP,gO];have HQ:=aP l;clear l hl n;go_wp2_with fail
 refine leaves_cons (f:=175) (args:=#[.pointer (some ⟨w.heap.size+1,0,none⟩)]) aT (by simp[go_sem]) ?_;refine(JX _ z.1 st.pc z.2 _ _ _ [] _ bt).mono ?_;rintro e H y ⟨rfl,rfl,p,k⟩;have A:=k.cell 0 z.1 rfl;have B:=k.cell 1 st.pc rfl;have D:=k.cell 2 (.int .u64 z.2) rfl;have E:=HQ.o.JY p m.o.1 m.o.2.2.2.2 ⟨aQ,m.o.2.2.1⟩;have G:=x.o.NG p m.o.2.2.2.2 aQ;simp[Leaves,settle,results,results121,go_sem,A,B,D];exact⟨rfl,E,G⟩
theorem Ky(F:Nat->Prop)(gt gf:Nat)(gc:Gc)(C:Option aJ)(cc:Nat)(c:List Int)(env:Int)(T:Int->Tt)(st:St)(w:aA)(q:Mo F w gt gf gc T st)(hc:Cd F w C c)(i:In)(s:AJ c st.pc= .ok i)(z:Int×Int)(v:kW (T env) i st= .error z):
 aG prog 121 #[.pointer (some ⟨gc.b,gc.o,none⟩),(C,c.length,cc), .agg #[env, .pointer gt, .pointer gf]] w (OS F gt gf gc T (⟨z.1,st.pc,z.2⟩,st) w):=by
 have E:∀(fn:Fn) (first cap:Array aC) (w:aA),(Instr.makeFunc fn first cap).run prog w= .ok (.func fn first cap) w:=λ_ _ _ _=>rfl
 obtain⟨j,a⟩:∃j:Nat->Prop,j=λi=>((F i\/i=w.heap.size)\/i=(w.alloc (aI #[env, .pointer gt, .pointer gf] 241)).heap.size)\/i=((w.alloc (aI #[env, .pointer gt, .pointer gf] 241)).alloc (aI #[aU,aU,bC] 77)).heap.size:=⟨_,rfl⟩
 have r:=((q.box (aI #[env, .pointer gt, .pointer gf] 241)).box (aI #[aU,aU,bC] 77)).box (aI #[.pointer (some ⟨gc.b,gc.o,none⟩),(C,c.length,cc),env, .pointer gt, .pointer gf] 362);rw[<-a] at r;have d:aH ((∀i,F i->j i)/\j w.heap.size/\j (w.heap.size+1)/\j (w.heap.size+1+1)/\∀i,F i->i<w.heap.size):=⟨λi hi=>by rw[a];exact .inl (.inl (.inl hi)),by rw[a];exact .inl (.inl (.inr rfl)),by rw[a];exact .inl (.inr aT),by rw[a];exact .inr aT,q.lt⟩
 have x:aD w w (((w.alloc (aI #[env, .pointer gt, .pointer gf] 241)).alloc (aI #[aU,aU,bC] 77)).alloc (aI #[.pointer (some ⟨gc.b,gc.o,none⟩),(C,c.length,cc),env, .pointer gt, .pointer gf] 362)):=((aX w (aI #[env, .pointer gt, .pointer gf] 241)).alloc aT _).alloc bT _;have B:=aP (Kp.cB x q.lt);have bt:=(bF.fI (w.alloc (aI #[env, .pointer gt, .pointer gf] 241)) 77 #[aU,aU,bC] (g:=w.heap.size+1) aT).alloc (aI #[.pointer (some ⟨gc.b,gc.o,none⟩),(C,c.length,cc),env, .pointer gt, .pointer gf] 362);have k:=bF.fI ((w.alloc (aI #[env, .pointer gt, .pointer gf] 241)).alloc (aI #[aU,aU,bC] 77)) 362 #[.pointer (some ⟨gc.b,gc.o,none⟩),(C,c.length,cc),env, .pointer gt, .pointer gf] (g:=w.heap.size+1+1) aT;have h:=(hc.kp (Kp.cB x q.lt)).more d.o.1;clear a q hc;go_enter_defers func121,ntmps121
 go_wp2_with fail
 generalize (((w.alloc (aI #[env, .pointer gt, .pointer gf] 241)).alloc (aI #[aU,aU,bC] 77)).alloc (aI #[.pointer (some ⟨gc.b,gc.o,none⟩),(C,c.length,cc),env, .pointer gt, .pointer gf] 362))=w1 at *;clear x;have hl:Fg w1 (w.heap.size+1+1) gt gf gc C c.length cc env:=⟨k.cell 0 _ rfl,k.cell 1 _ rfl,k.cell 2 _ rfl,k.cell 3 _ rfl,k.cell 4 _ rfl⟩
 have HD:=aP (λ(W:aA) hW hl (hi:QE i/\0<=st.pc/\st.pc<c.length)=>Km j (w.heap.size+1+1) gt gf gc C c.length cc env T st i W hW hl d.o.2.2.2.1 hi.1 hi.2.1 (by have:=h.len;have:=hi.2.2;omega));have l:=G7 j (w.heap.size+1+1) gt gf gc C cc c env st.pc w1 hl r.c8 h;rw[s] at l;refine l.mono ?_;rintro e D ⟨rfl,hb⟩;replace r:=r.keep hb;replace bt:=bt.keep hb;have y:aH (Kp F w D):=B.o.trans (Kp.cB hb (λi hi=>by have:=d.o.2.2.2.2 i hi;have:=k.lt;omega));replace hl:=hl.keep hb;clear hb k B l;have A:=aP (SP s);have N:=aP h;clear h;simp only[NP,gO];go_wp2_with fail
 have m:=HD.o D r hl A.o;clear HD hl r;rw[v] at m;refine m.mono ?_;rintro e G ⟨rfl,t,n⟩;simp only[gO];replace bt:=n.aY bt d.o.2.2.1;replace y:aH (Kp F w G):=y.o.trans (n.mono d.o.1);have HQ:=aP t;clear m t n;go_wp2_with fail
 refine leaves_cons (f:=175) (args:=#[.pointer (some ⟨w.heap.size+1,0,none⟩)]) aT (by simp[go_sem]) ?_;refine(JX _ z.1 st.pc z.2 _ _ _ [] _ bt).mono ?_;rintro e O H ⟨rfl,rfl,u,p⟩;have I:=p.cell 0 z.1 rfl;have J:=p.cell 1 st.pc rfl;have K:=p.cell 2 (.int .u64 z.2) rfl;have L:=HQ.o.JY u d.o.1 d.o.2.2.2.2 ⟨aQ,d.o.2.2.1⟩;have M:=y.o.NG u d.o.2.2.2.2 aQ;simp[Leaves,settle,results,results121,go_sem,I,J,K];exact⟨rfl,L,M⟩
theorem Oa(F:Nat->Prop)(gt gf:Nat)(gc:Gc)(C:Option aJ)(cc:Nat)(d:List Int)(env:Int)(T:Int->Tt)(st:St)(w:aA)(q:Mo F w gt gf gc T st)(hc:Cd F w C d)(i:In)(D:AJ d st.pc= .ok i)(y:St×Tp)(H:kW (T env) i st= .ok y):
 aG prog 121 #[.pointer (some ⟨gc.b,gc.o,none⟩),(C,d.length,cc), .agg #[env, .pointer gt, .pointer gf]] w (OS F gt gf gc T (y.2,y.1) w):=by
 have S:∀(fn:Fn) (first cap:Array aC) (w:aA),(Instr.makeFunc fn first cap).run prog w= .ok (.func fn first cap) w:=λ_ _ _ _=>rfl
 obtain⟨n,a⟩:∃n:Nat->Prop,n=λi=>((F i\/i=w.heap.size)\/i=(w.alloc (aI #[env, .pointer gt, .pointer gf] 241)).heap.size)\/i=((w.alloc (aI #[env, .pointer gt, .pointer gf] 241)).alloc (aI #[aU,aU,bC] 77)).heap.size:=⟨_,rfl⟩
 have B:=((q.box (aI #[env, .pointer gt, .pointer gf] 241)).box (aI #[aU,aU,bC] 77)).box (aI #[.pointer (some ⟨gc.b,gc.o,none⟩),(C,d.length,cc),env, .pointer gt, .pointer gf] 362);rw[<-a] at B;have j:aH ((∀i,F i->n i)/\n w.heap.size/\n (w.heap.size+1)/\n (w.heap.size+1+1)/\∀i,F i->i<w.heap.size):=⟨λi hi=>by rw[a];exact .inl (.inl (.inl hi)),by rw[a];exact .inl (.inl (.inr rfl)),by rw[a];exact .inl (.inr aT),by rw[a];exact .inr aT,q.lt⟩
 have I:aD w w (((w.alloc (aI #[env, .pointer gt, .pointer gf] 241)).alloc (aI #[aU,aU,bC] 77)).alloc (aI #[.pointer (some ⟨gc.b,gc.o,none⟩),(C,d.length,cc),env, .pointer gt, .pointer gf] 362)):=((aX w (aI #[env, .pointer gt, .pointer gf] 241)).alloc aT _).alloc bT _;have P:=aP (Kp.cB I q.lt);have bt:=(bF.fI (w.alloc (aI #[env, .pointer gt, .pointer gf] 241)) 77 #[aU,aU,bC] (g:=w.heap.size+1) aT).alloc (aI #[.pointer (some ⟨gc.b,gc.o,none⟩),(C,d.length,cc),env, .pointer gt, .pointer gf] 362);have s:=bF.fI ((w.alloc (aI #[env, .pointer gt, .pointer gf] 241)).alloc (aI #[aU,aU,bC] 77)) 362 #[.pointer (some ⟨gc.b,gc.o,none⟩),(C,d.length,cc),env, .pointer gt, .pointer gf] (g:=w.heap.size+1+1) aT;have r:=(hc.kp (Kp.cB I q.lt)).more j.o.1;clear a q hc;go_enter_defers func121,ntmps121
 go_wp2_with fail
 generalize (((w.alloc (aI #[env, .pointer gt, .pointer gf] 241)).alloc (aI #[aU,aU,bC] 77)).alloc (aI #[.pointer (some ⟨gc.b,gc.o,none⟩),(C,d.length,cc),env, .pointer gt, .pointer gf] 362))=w1 at *;clear I;have hl:Fg w1 (w.heap.size+1+1) gt gf gc C d.length cc env:=⟨s.cell 0 _ rfl,s.cell 1 _ rfl,s.cell 2 _ rfl,s.cell 3 _ rfl,s.cell 4 _ rfl⟩
 have HD:=aP (λ(W:aA) hW hl (hi:QE i/\0<=st.pc/\st.pc<d.length)=>Km n (w.heap.size+1+1) gt gf gc C d.length cc env T st i W hW hl j.o.2.2.2.1 hi.1 hi.2.1 (by have:=r.len;have:=hi.2.2;omega));have t:=G7 n (w.heap.size+1+1) gt gf gc C cc d env st.pc w1 hl B.c8 r;rw[D] at t;refine t.mono ?_;rintro e Q ⟨rfl,hb⟩;replace B:=B.keep hb;replace bt:=bt.keep hb;have J:aH (Kp F w Q):=P.o.trans (Kp.cB hb (λi hi=>by have:=j.o.2.2.2.2 i hi;have:=s.lt;omega));replace hl:=hl.keep hb;clear hb s P t;have K:=aP (SP D);have Z:=aP r;clear r;simp only[NP,gO];go_wp2_with fail
 have u:=HD.o Q B hl K.o;clear HD hl B;rw[H] at u;refine u.mono ?_;rintro e E ⟨rfl,l,v⟩;replace bt:=v.aY bt j.o.2.2.1;replace J:aH (Kp F w E):=J.o.trans (v.mono j.o.1);have HQ:=aP l;have q8:=l.c8;have g8:=l.frozen 8;have G:gc.b≠w.heap.size+1:=by
  obtain⟨A,c,L,h,m,q⟩:=l;exact acT (q.off _ j.o.2.2.1).2.2.2.1
 have M:=bt.cell 0 (.int .i64 0) rfl;have N:=bt.cell 1 (.int .i64 0) rfl;have O:=bt.cell 2 (.int .u64 0) rfl;have l0:=bt.frozen 0;have l1:=bt.frozen 1;have U:=bt.frozen 2;clear u l v;go_wp2_with fail
 clear q8 g8 M N O l0 l1 U;refine leaves_cons (f:=175) (args:=#[.pointer (some ⟨w.heap.size+1,0,none⟩)]) aT (by simp[go_sem]) ?_;refine(XO _ _).mono ?_;rintro e u' V ⟨rfl,rfl,rfl⟩;have R:=aP (HQ.o.Xr y.1.pc);have X:Mo n (((((((E.setCell (gc.b,gc.o+8) y.1.pc).setCell (w.heap.size+1,0) y.2.k).setCell (w.heap.size+1,1) y.2.p).setCell (w.heap.size+1,2) (.int .u64 y.2.x)).setCell (w.heap.size+1,0) y.2.k).setCell (w.heap.size+1,1) y.2.p).setCell (w.heap.size+1,2) (.int .u64 y.2.x)) gt gf gc T y.1:=(R.o.1.ID j.o.2.2.1 y.2.k y.2.p y.2.x).ID j.o.2.2.1 y.2.k y.2.p y.2.x;have Y:Kp F w (((((((E.setCell (gc.b,gc.o+8) y.1.pc).setCell (w.heap.size+1,0) y.2.k).setCell (w.heap.size+1,1) y.2.p).setCell (w.heap.size+1,2) (.int .u64 y.2.x)).setCell (w.heap.size+1,0) y.2.k).setCell (w.heap.size+1,1) y.2.p).setCell (w.heap.size+1,2) (.int .u64 y.2.x)):=((J.o.trans (R.o.2.mono j.o.1)).IE j.o.2.2.2.2 (b:=w.heap.size+1) aQ y.2.k y.2.p y.2.x).IE j.o.2.2.2.2 (b:=w.heap.size+1) aQ y.2.k y.2.p y.2.x;have z:bF (((((((E.setCell (gc.b,gc.o+8) y.1.pc).setCell (w.heap.size+1,0) y.2.k).setCell (w.heap.size+1,1) y.2.p).setCell (w.heap.size+1,2) (.int .u64 y.2.x)).setCell (w.heap.size+1,0) y.2.k).setCell (w.heap.size+1,1) y.2.p).setCell (w.heap.size+1,2) (.int .u64 y.2.x)) (w.heap.size+1) 77 #[y.2.k,y.2.p, .int .u64 y.2.x]:=((((((bt.rU (p:=⟨gc.b,gc.o+8,none⟩) (acT G) (.int .i64 y.1.pc)).bX 0 y.2.k).bX 1 y.2.p).bX 2 (.int .u64 y.2.x)).bX 0 y.2.k).bX 1 y.2.p).bX 2 (.int .u64 y.2.x);generalize (((((((E.setCell (gc.b,gc.o+8) y.1.pc).setCell (w.heap.size+1,0) y.2.k).setCell (w.heap.size+1,1) y.2.p).setCell (w.heap.size+1,2) (.int .u64 y.2.x)).setCell (w.heap.size+1,0) y.2.k).setCell (w.heap.size+1,1) y.2.p).setCell (w.heap.size+1,2) (.int .u64 y.2.x))=w5 at *;have M:=z.cell 0 y.2.k rfl;have N:=z.cell 1 y.2.p rfl;have O:=z.cell 2 (.int .u64 y.2.x) rfl;simp[Leaves,settle,results,results121,go_sem,M,N,O];exact⟨rfl,X.less j.o.1,Y⟩
theorem Li(F:Nat->Prop)(gt gf:Nat)(gc:Gc)(C:Option aJ)(cc:Nat)(a:List Int)(env:Int)(T:Int->Tt)(st:St)(w:aA)(q:Mo F w gt gf gc T st)(hc:Cd F w C a):
 aG prog 121 #[.pointer (some ⟨gc.b,gc.o,none⟩),(C,a.length,cc), .agg #[env, .pointer gt, .pointer gf]] w (OS F gt gf gc T (mF (T env) a st) w):=by
 rw[Ha];cases c:AJ a st.pc with
 |error z=>exact Lk F gt gf gc C cc a env T st w q hc z c
 |ok i=>
  simp only;cases d:kW (T env) i st with
  |error z=>exact Ky F gt gf gc C cc a env T st w q hc i c z d
  |ok y=>exact Oa F gt gf gc C cc a env T st w q hc i c y d
end Pa.Cp
end
end
section
open Go.RowKit Go.Lib
namespace Pa.Cp
def ER(F:Nat->Prop)(gt gf:Nat)(gc:Gc)(T:Int->Tt)(r:Tp×Nat×St)(w:aA)(e:Ending)(w':aA):Prop:=e= .returned (.tuple #[.agg #[r.1.k,r.1.p, .int .u64 r.1.x],r.2.1])/\Mo F w' gt gf gc T r.2.2/\Kp F w w'
theorem Su(F:Nat->Prop)(gt gf:Nat)(gc:Gc)(C:Option aJ)(cc:Nat)(y:List Int)(env:Int)(T:Int->Tt)(st:St)(k:Nat)(w:aA)(q:Mo F w gt gf gc T st)(hc:Cd F w C y)(hk:k<=1000):
 aG prog 81 #[.pointer (some ⟨gc.b,gc.o,none⟩),(C,y.length,cc), .agg #[env, .pointer gt, .pointer gf],k] w (ER F gt gf gc T (mZ (T env) y k 0 st) w):=by
 obtain⟨p,u⟩:∃p:Nat->Prop,p=λi=>(F i\/i=w.heap.size)\/i=(w.alloc (aI #[env, .pointer gt, .pointer gf] 241)).heap.size:=⟨_,rfl⟩
 have q2:=(q.box (aI #[env, .pointer gt, .pointer gf] 241)).box (aI #[aU,aU,bC] 77);rw[<-u] at q2;have d:aH ((∀i,F i->p i)/\p w.heap.size/\p (w.heap.size+1)/\∀i,F i->i<w.heap.size):=⟨λi hi=>by rw[u];exact .inl (.inl hi),by rw[u];exact .inl (.inr rfl),by rw[u];exact .inr aT,q.lt⟩
 have B:aD w w ((w.alloc (aI #[env, .pointer gt, .pointer gf] 241)).alloc (aI #[aU,aU,bC] 77)):=(aX w (aI #[env, .pointer gt, .pointer gf] 241)).alloc aT _;have Q:=aP (Kp.cB B q.lt);have D:=(bF.new w 241 #[env, .pointer gt, .pointer gf]).alloc (aI #[aU,aU,bC] 77);have bt:=bF.fI (w.alloc (aI #[env, .pointer gt, .pointer gf] 241)) 77 #[aU,aU,bC] (g:=w.heap.size+1) aT;have R:=aP ((hc.kp (Kp.cB B q.lt)).more d.o.1);have S:min (k:Int) 65536=k:=aQ;have U:max (0:Int) k=k:=aQ;clear u q hc;go_enter func81,ntmps81
 go_wp2_with fail
 generalize ((w.alloc (aI #[env, .pointer gt, .pointer gf] 241)).alloc (aI #[aU,aU,bC] 77))=A at *;clear B;have E:=aP q2;clear q2;go_loopw [10,11,17] (λ_ _ G wr=>∃(j:Nat) (m:St),j<=k/\G= .int .i64 j/\aH (Mo p wr gt gf gc T m/\Kp F w wr/\Kp p A wr)/\aH (mZ (T env) y (k - j) j m=mZ (T env) y k 0 st)) (λ_ _ i _=>k - (intOf i).toNat)
 case atStart=>exact⟨0,st,aaH _,rfl,⟨E.o,Q.o,Kp.refl p A⟩,rfl⟩
 case round=>
  obtain⟨j,m,W,rfl,t,H⟩:=hrel;by_cases V:j<k
  .have z:=aP (Li p gt gf gc C cc y env T m wr t.o.1 (R.o.kp t.o.2.2));obtain⟨n,pp,f,m2,I⟩:∃n pp f m2,mF (T env) y m=(⟨n,pp,f⟩,m2):=⟨_,_,_,_,rfl⟩
   rw[I] at z;have s:aH (mZ (T env) y k 0 st=if n=0 then mZ (T env) y (k - (j+1)) (j+1) m2 else if n=1 then(⟨n,pp,f⟩,j+1,m2) else(⟨n,pp,f⟩,j,m2)):=by
    unfold aH;rw[<-H.o,show k - j=(k - (j+1))+1 by omega,mZ,I]
   have p0:=(t.o.2.2.aY D d.o.2.1).cell 0 env rfl;have p1:=(t.o.2.2.aY D d.o.2.1).cell 1 (.pointer gt) rfl;have p2:=(t.o.2.2.aY D d.o.2.1).cell 2 (.pointer gf) rfl;clear I H;by_cases K:n=0
   .subst K;go_wp2_with fail
    refine z.o.mono ?_;rintro e l ⟨rfl,c,h⟩;have r:aH (Mo p (l.alloc (aI #[aU, .int .i64 pp, .int .u64 f] 77)) gt gf gc T m2/\Kp F w (l.alloc (aI #[aU, .int .i64 pp, .int .u64 f] 77))/\Kp p A (l.alloc (aI #[aU, .int .i64 pp, .int .u64 f] 77))):=⟨c.keep (aX l _),(t.o.2.1.trans (h.mono d.o.1)).trans ((c.kp (aX l _)).mono d.o.1),(t.o.2.2.trans h).trans (c.kp (aX l _))⟩
    clear c h p0 p1 p2;go_wp2_with fail
    go_roundw
    case rel=>exact⟨j+1,m2,aQ,by go_num,r.o,by unfold aH;rw[s.o];simp⟩
    case measure=>simp[intOf];omega
   .by_cases L:n=1
    .subst L;go_wp2_with fail
     refine z.o.mono ?_;rintro e l ⟨rfl,c,h⟩;have r:aH (Mo p (l.alloc (aI #[.int .i64 1, .int .i64 pp, .int .u64 f] 77)) gt gf gc T m2/\Kp F w (l.alloc (aI #[.int .i64 1, .int .i64 pp, .int .u64 f] 77))/\Kp p A (l.alloc (aI #[.int .i64 1, .int .i64 pp, .int .u64 f] 77))):=⟨c.keep (aX l _),(t.o.2.1.trans (h.mono d.o.1)).trans ((c.kp (aX l _)).mono d.o.1),(t.o.2.2.trans h).trans (c.kp (aX l _))⟩
     clear c h p0 p1 p2;have a:=r.o.2.2.aY bt d.o.2.2.1;have M:=a.cell 0 (.int .i64 0) rfl;have N:=a.cell 1 (.int .i64 0) rfl;have O:=a.cell 2 (.int .u64 0) rfl;have l0:=a.frozen 0;have l1:=a.frozen 1;have P:=a.frozen 2;go_wp2_with fail
     have x:=bN (r.o.1.ID d.o.2.2.1 (1) (pp) (f)) (r.o.2.1.IE d.o.2.2.2 (b:=w.heap.size+1) aQ (1) (pp) (f));change bodyPost _ _ _ _ _ (dU (l.alloc (aI #[.int .i64 1, .int .i64 pp, .int .u64 f] 77)) (w.heap.size+1) (1) (pp) (f))
     refine bodyPost_ret (v:= .tuple #[.agg #[.int .i64 (1), .int .i64 (pp), .int .u64 (f)], .int .i64 (((j:Nat):Int)+1)]) (by simp[results,results81,go_sem,dU, *]) rfl ?_;unfold ER;rw[s.o];simp only[abI];exact⟨rfl,x.o.1.less d.o.1,x.o.2⟩
    .have J:aH (¬n=0):=K;go_wp2_with fail
     refine z.o.mono ?_;rintro e l ⟨rfl,c,h⟩;have r:aH (Mo p (l.alloc (aI #[.int .i64 n, .int .i64 pp, .int .u64 f] 77)) gt gf gc T m2/\Kp F w (l.alloc (aI #[.int .i64 n, .int .i64 pp, .int .u64 f] 77))/\Kp p A (l.alloc (aI #[.int .i64 n, .int .i64 pp, .int .u64 f] 77))):=⟨c.keep (aX l _),(t.o.2.1.trans (h.mono d.o.1)).trans ((c.kp (aX l _)).mono d.o.1),(t.o.2.2.trans h).trans (c.kp (aX l _))⟩
     clear c h p0 p1 p2;have a:=r.o.2.2.aY bt d.o.2.2.1;have M:=a.cell 0 (.int .i64 0) rfl;have N:=a.cell 1 (.int .i64 0) rfl;have O:=a.cell 2 (.int .u64 0) rfl;have l0:=a.frozen 0;have l1:=a.frozen 1;have P:=a.frozen 2;go_wp2_with fail
     have x:=bN (r.o.1.ID d.o.2.2.1 (n) (pp) (f)) (r.o.2.1.IE d.o.2.2.2 (b:=w.heap.size+1) aQ (n) (pp) (f));change bodyPost _ _ _ _ _ (dU (l.alloc (aI #[.int .i64 n, .int .i64 pp, .int .u64 f] 77)) (w.heap.size+1) (n) (pp) (f))
     refine bodyPost_ret (v:= .tuple #[.agg #[.int .i64 (n), .int .i64 (pp), .int .u64 (f)], .int .i64 (j)]) (by simp[results,results81,go_sem,dU, *]) rfl ?_;unfold ER;rw[s.o,aaA J.o,aaA L];exact⟨rfl,x.o.1.less d.o.1,x.o.2⟩
  .obtain rfl:j=k:=aQ;have r:=t;have a:=r.o.2.2.aY bt d.o.2.2.1;have M:=a.cell 0 (.int .i64 0) rfl;have N:=a.cell 1 (.int .i64 0) rfl;have O:=a.cell 2 (.int .u64 0) rfl;have l0:=a.frozen 0;have l1:=a.frozen 1;have P:=a.frozen 2;have s:aH (mZ (T env) y j 0 st=(⟨0,0,0⟩,j,m)):=by
    unfold aH;rw[<-H.o,Nat.sub_self];rfl
   go_wp2_with fail
   .have x:=bN (r.o.1.ID d.o.2.2.1 (0) (0) (0)) (r.o.2.1.IE d.o.2.2.2 (b:=w.heap.size+1) aQ (0) (0) (0));change bodyPost _ _ _ _ _ (dU wr (w.heap.size+1) (0) (0) (0))
    refine bodyPost_ret (v:= .tuple #[.agg #[aU,aU,bC], .int .i64 (((j:Nat):Int))]) (by simp[results,results81,go_sem,dU, *]) rfl ?_;unfold ER;rw[s.o];exact⟨rfl,x.o.1.less d.o.1,x.o.2⟩
   .obtain rfl:j=0:=aQ;have x:=bN (r.o.1.ID d.o.2.2.1 (0) (0) (0)) (r.o.2.1.IE d.o.2.2.2 (b:=w.heap.size+1) aQ (0) (0) (0));change bodyPost _ _ _ _ _ (dU wr (w.heap.size+1) (0) (0) (0))
    refine bodyPost_ret (v:= .tuple #[.agg #[aU,aU,bC],aU]) (by simp[results,results81,go_sem,dU, *]) rfl ?_;unfold ER;rw[s.o];exact⟨rfl,x.o.1.less d.o.1,x.o.2⟩
end Pa.Cp
end
section
open Go.RowKit
def CR(C:Nat->aA->Prop)(b:Nat×Nat):aA->Prop:=λw=>∃p,b.1<=p/\p<=b.2/\C p w
section
variable{P:aO}{E:aA->Prop}{C:Nat->aA->Prop}{B:List (Nat×Nat)}{Z:Nat->aA->aA->Prop}{made T:List Nat}{S:Nat->aC->aA->Prop}{ops:Array aK}
def XR(made:List Nat)(ops:Array aK)(i:Nat)(o:aK):List Nat:=made.filter λk=>(o.looksAt ops).contains k&&(List.range i).any λj=>jQ ops j==some k
def NR(P:aO)(E C:aA->Prop)(Z:aA->aA->Prop)(made:List Nat)(S:Nat->aC->aA->Prop)(ops:Array aK)(i:Nat)(o:aK)(a:Act)(v:aC):Prop:=
 match pD made o with
 |some d=>v=undef/\∀(γ:Nat->aC) (w:aA),C w->(∀k∈XR made ops i o,S k (γ k) w)->AZ P Z (S d) w ((execOp (cO γ (XR made ops i o) a).eval o).run P w)
 |none=>
  if XR made ops i o= [] then
   (if nJ o then ∀w,(∃n:LP,w=n.w)->o.quietAt P a (λw=>∃n:LP,w=n.w) w v
   else if plain o then ∀w,(∃n:CW E,w=n.w)->o.quietAt P a (λw=>∃n:CW E,w=n.w) w v
   else ∀w,C w->AZ P Z (λu _=>u=v) w ((execOp a.eval o).run P w))
  else ∀(γ:Nat->aC) (w:aA),C w->(∀k∈XR made ops i o,S k (γ k) w)->AZ P Z (λu _=>u=v) w ((execOp (cO γ (XR made ops i o) a).eval o).run P w)
def pN(C:aA->Prop)(Z:aA->aA->Prop)(made:List Nat)(S:Nat->aC->aA->Prop)(inT:Bool)(o:aK):Prop:=(∀d,pD made o=some d->∀w,C w->S d undef w)/\(inT=true->∀w,C w->Z w w)
def Zs(P:aO)(ops:Array aK)(T:List Nat)(E:aA->Prop)(C:Nat->aA->Prop)(B:List (Nat×Nat))(Z:Nat->aA->aA->Prop)(made:List Nat)(S:Nat->aC->aA->Prop)(i:Nat)(o:aK)(a:Act)(v:aC):Prop:=
 (Region.wanted o (yielded ops a.tmps)=true/\NR P E (CR C (B.getD i (0,0))) (Z i) made S ops i o a v)\/(Region.wanted o (yielded ops a.tmps)=false/\v=undef/\pN (CR C (B.getD i (0,0))) (Z i) made S (T.contains i) o)
end
end
section
open Go.RowKit Go.Lib
variable{sz:Nat}{w w':aA}{A:Option aJ}{F:Nat->Prop}
section
theorem bI.kp{α:Type}{enc:α->List aC}{base c:Nat}{e:aN}{xs:List α}(h:bI enc sz w base e A c xs)(hk:Kp F w w')(hF:∀q,aY A=some q->F q):bI enc sz w' base e A c xs:=by
 refine⟨h.1,?_⟩;rcases h.2 with h1|⟨g,cap,cur,h1,a,b,d⟩
 .exact .inl h1
 .exact .inr ⟨g,cap,cur,h1,a,(hk.block g (hF g (by injection h1 with h1;rw[h1];rfl))).trans b,d⟩
theorem Sl.kp{α:Type}{enc:α->List aC}{xs:List α}(h:Sl enc sz w A xs)(hk:Kp F w w')(hF:∀q,aY A=some q->F q):Sl enc sz w' A xs:=λc=>by
 obtain⟨b,off,a,hc⟩:=h c;exact⟨b,off,a,λi x j u d hu=>hk.cell (hc i x j u d hu) (hF b (by rw[a];rfl))⟩
end
variable{q i j n:Nat}{v:aC}
section
variable{α:Type}{enc:α->List aC}{sz:Nat}
theorem Dx(he:∀x,(enc x).length=sz)(k:0<sz)(cur:Array aC)(R:List α)(i c:Nat)(x:α)(hi:i<R.length)(hc:R.length<=c)(hs:cur.size=c *sz)(l:cur.toList.take (R.length *sz)=R.flatMap enc):
 (lay cur (i *sz) (enc x)).toList.take (R.length *sz)=(R.set i x).flatMap enc:=by
 have m:(i+1) *sz<=R.length *sz:=abU _ hi;have n:R.length *sz<=c *sz:=abU _ hc;rw[acF,adP] at m;apply adD;intro j;by_cases d:j<R.length *sz
 .rw[aa7,Zz d,aaX,lay_get? _ _ _ _ (by rw[he];omega),he];have hq:j /sz<R.length:=aeI (by rw[ad9];exact d);have a:j /sz *sz+j%sz=j:=by rw[ad9];exact Nat.div_add_mod j sz
  have e:j%sz<sz:=aeP _ k;by_cases f:j /sz=i
  .have h1:=kM he (R.set i x) i x (j%sz) (by simp[hi]) e;rw[f] at a;rw[Zz aQ,show j - i *sz=j%sz by omega,<-h1,a]
  .have h1:=kM he (R.set i x) (j /sz) R[j /sz] (j%sz) (by rw[acJ aQ,Zv hq]) e;have h:=kM he R (j /sz) R[j /sz] (j%sz) (Zv hq) e;have g:¬(i *sz<=j/\j<i *sz+sz):=by
    intro o;rcases acW (j /sz) i with b|hge
    .have:=abU sz b;rw[Nat.succ_mul] at this;omega
    .have b:i+1<=j /sz:=aQ;have:=abU sz b;rw[acF,adP] at this;omega
   rw[a] at h1 h;rw[aaA g,h1,<-h,<-l,aa7,Zz d,aaX]
 .rw[abR (by rw[abJ];omega),abR (by rw[eZ he,aaL];omega)]
theorem LL(he:∀x,(enc x).length=sz)(d:0<sz){base:Nat}{e:aN}{c:Nat}{R:List α}(h:bI enc sz w base e q c R)(hi:i<R.length)(x:α):
 bI enc sz (w.setCells q (i *sz) (enc x)) base e q c (R.set i x)/\w.grownBy (w.setCells q (i *sz) (enc x)) (some q):=by
 obtain⟨cur,h1,f,a,g,b,j⟩:=eV h;refine⟨?_,fJ q _ _ w w (bK w q)⟩;have k:=iX q e (enc x) (i *sz) w cur f;have l:=Dx he d cur R i c x hi a b j;exact⟨eZ he _, .inr ⟨q,c,_,rfl,h1,k,by rw[aaL];exact a,g,by rw[lay_size];exact b,by rw[aaL];exact l⟩⟩
theorem bM(he:eL enc sz){base:Nat}{e:aN}{c:Nat}{R:List α}(h:bI enc sz w base e q c R)(hi:i<R.length)(d:(enc R[i])[j]?=some v):w.cell? (q,i *sz+j)=some v:=by
 obtain⟨b,off,a,hc⟩:=(h.sl he).at_ hi;injection a with a;injection a with h1 f;subst h1 f;simpa using hc j v d
theorem NI{base:Nat}{e:aN}{c:Nat}{R:List α}(h:bI enc sz w base e q c R)(hi:i<c):w.there q (i *sz) sz:=λj b=>by
 have a:(i+1) *sz<=c *sz:=abU _ hi;rw[acF,adP] at a;exact cZ h (i *sz+j) aQ
theorem Nc(he:∀x,(enc x).length=sz){base:Nat}{e:aN}{c:Nat}{R:List α}(h:bI enc sz w base e q c R)(a:n<=R.length):bI enc sz w base e q c (R.take n):=by
 obtain⟨cur,h1,b,j,d,f,g⟩:=eV h;have hl:(R.take n).length=n:=bT;have i:n *sz<=R.length *sz:=abU _ a;refine⟨eZ he _, .inr ⟨q,c,cur,rfl,h1,b,aQ,d,f,?_⟩⟩;rw[hl,NH he,<-g,List.take_take,Nat.min_eq_left i]
end
section
variable{α:Type}{enc:α->List aC}{sz:Nat}
theorem NT(he:∀x,(enc x).length=sz):∀(R:List α) (i j:Nat) (x:α) (v:aC),(hi:i<R.length)->j<sz->enc x=(enc R[i]).set j v->(R.flatMap enc).set (i *sz+j) v=(R.set i x).flatMap enc
 | [],i,j,x,v,hi,_,_=>absurd hi (acH _)
 |y::ys,0,j,x,v,_,a,b=>by
  simp only[aa0,aaE,adO,aa8];rw[acA _ _ (by rw[he];exact a),b];rfl
 |y::ys,i+1,j,x,v,hi,a,b=>by
  simp only[aa0,aaD];rw[aaQ _ _ (by rw[he,acF];omega),he,show(i+1) *sz+j - sz=i *sz+j by rw[acF];omega,NT he ys i j x v (by simpa using hi) a (by simpa using b)]
theorem qO(he:∀x,(enc x).length=sz){base:Nat}{e:aN}{c:Nat}{R:List α}(h:bI enc sz w base e q c R)(hi:i<R.length)(a:j<sz)(x:α)(v:aC)(b:enc x=(enc R[i]).set j v):
 bI enc sz (w.setCell (q,i *sz+j) v) base e q c (R.set i x)/\w.grownBy (w.setCell (q,i *sz+j) v) (some q):=by
 have h1:=World.ownsRow.stored h (i *sz+j) v;rw[NT he R i j x v hi a b] at h1;unfold bI;rw[aaL];exact h1
end
def Ol(F:Nat->Prop)(w:aA):Prop:=∀b,F b->b<w.heap.size
section
variable{F:Nat->Prop}{w w' w'':aA}{q:Nat}
theorem Ol.kp(h:Ol F w)(k:Kp F w w'):Ol F w':=λb hb=>Zy (h b hb) k.size
theorem Ol.below(h:Ol F w)(hb:aD w w w'):Kp F w w':=Kp.cB hb h
theorem Ol.self(h:Ol F w)(hq:¬F q)(a:w.grownBy w' (some q)):Kp F w w':=Kp.grown a λb hb=>⟨h b hb,λe=>hq (by injection e with e;rw[<-e];exact hb)⟩
end
end
section
open Go.RowKit Go.Lib Go.Shelf
variable{w:aA}{A:Option aJ}{i:Nat}
section
structure Ck where
 lf:Int
 us:Int
 de:Int
structure Rl where
 at_:Int
 am:Int
def yH(x:Ck):List aC:= [.int .i64 x.lf, .int .i64 x.us, .int .i64 x.de]
def tJ(x:Rl):List aC:= [.int .i64 x.at_, .int .i64 x.am]
theorem kZ:eL yH 3:=⟨λ_=>rfl,λx u hu=>by simp[yH] at hu;rcases hu with rfl|rfl|rfl <;> rfl⟩
theorem pJ:eL tJ 2:=⟨λ_=>rfl,λx u hu=>by simp[tJ] at hu;rcases hu with rfl|rfl <;> rfl⟩
theorem UE:(prog.info? 329).map (λi=>(i.zero,i.size,i.bytes))=some (some (.agg #[aU,aU,aU]),3,24):=aV
theorem S5:(prog.info? 327).map (λi=>(i.zero,i.size,i.bytes))=some (some (.agg #[aU,aU]),2,16):=aV
theorem Xu:jS prog 300 329 3 24:=fU underlying300 UE rfl aQ
theorem Gw:jS prog 301 327 2 16:=fU underlying301 S5 rfl aQ
namespace Vr
theorem kX:∀w,(zeroValue 329).run prog w= .ok (.agg #[aU,aU,aU]) w:=λw=>by kernel_rfl
variable{A:Option aJ}{n m:Nat}
theorem fH{c:Nat}(h:n=m):Ending.returned (.slice A n c)= .returned (.slice A m c):=by rw[h]
theorem lX(g c i k base:Nat)(L:List Ck)(w:aA)(own:bI yH 3 w base 329 g c L)(r:L.length=i+1+k)(hl:L.length<=4000000):
 aG prog 156 #[.slice g L.length c,i, .int .i64 ((i:Int)+1)] w λe w'=>e= .returned (.slice g (L.eraseIdx i).length c)/\bI yH 3 w' base 329 g c (L.eraseIdx i)/\w.grownBy w' (some g):=by
 obtain⟨i0,n,G,p,H⟩:=info_parts UE;have s:(L.eraseIdx i).length=i+k:=by rw[ab2,Zz aQ];omega
 obtain⟨_,_,_,v,x,_,_⟩:=eV own;simp only[maxLen] at x;obtain⟨news,b⟩:∃news,news=(L.drop (i+1)).flatMap yH:=⟨_,rfl⟩
 have s1:aH (news.length=k *3):=by unfold aH;rw[b,eZ kZ.len,acM];omega
 have s2:aH (∀u∈news,u.oneCell'=true):=λu hu=>qX kZ _ u (by rw[<-b];exact hu)
 have D:aH (∀t,t<news.length->(w.drew.cell? ⟨g,0+i *3+t,none⟩).isSome=true/\w.drew.frozen? ⟨g,0+i *3+t,none⟩=false):=λt E=>by
  rw[s1.o] at E;exact cZ own _ aQ
 have I:aH (∀t u,news[t]?=some u->w.drew.cell? ((⟨g,(i+1) *3,none⟩:aJ).add t)=some u):=λt u hu=>by
  have E:t<k *3:=by rw[<-s1.o];exact(aaN.1 hu).1
  have hF:=oE kZ.len L (i+1);rw[b,hF,abY] at hu;rw[Addr.add_lit];obtain⟨cur,_,J,_,_,_,K⟩:=eV own;show w.cell? _=_;rw[cell_of_row w g _ cur _ (0,0) J,<-hu,<-K,aa7,Zz aQ,aaX]
 obtain⟨m,h⟩:∃m,m=w.drew.setCells g (0+i *3) news:=⟨_,rfl⟩
 have F:=aP h;have y:=tG (w:=w.drew) kZ.len own.drew i k r [.int .i64 0, .int .i64 0, .int .i64 0] rfl;rw[<-b,show i *3=0+i *3 by omega,<-h] at y;have a:=aP y;have d:∀j,j<c *3->(m.cell? ⟨g,j,none⟩).isSome=true/\m.frozen? ⟨g,j,none⟩=false:=λj z=>by
  rw[h];have:=cZ own j z;exact⟨Go.World.isSome_setCells g _ _ _ _ this.1,by rw[World.frozen?_setCells];exact this.2⟩
 have l:∀ty q A,q=1->(Builtin.clear_ #[300] ty #[.slice (some ⟨g,(i+k) *3,none⟩) q A]).run prog m= .ok (.tuple #[]) (m.setCells g ((i+k) *3) [.int .i64 0, .int .i64 0, .int .i64 0]):=λty q A B=>
  lE m _ 329 ty _ underlying300 kX [.int .i64 0, .int .i64 0, .int .i64 0] aV cC g ((i+k) *3) q A B (λj z=>d _ (by simp at z;omega))
 clear h y d b;rw[r];rw[r] at v;have M:i<=c:=aQ;have N:i+1<=c:=aQ;have O:(0:Int)<=i+1:=aQ;have P:(i:Int)+1<=(i:Int)+1+(k:Int):=aQ;by_cases hce:c=i+1
 .obtain rfl:k=0:=aQ;obtain rfl:news= []:=aa5 (by rw[s1.o]);have C:aH (∀t u,([]:List aC)[t]?=some u->w.drew.cell? ((⟨g,0,none⟩:aJ).add t)=some u):=λt u hu=>by simp at hu
  subst hce;have f:=λty=>l ty (i+1 - i) (i+1 - i) aQ
  simp only[aaU] at f s⊢;have Q:(i:Int)<=(i:Int)+1:=aQ;have R:i+1 - i=1:=aQ;rw[R] at f;clear l;go_enter func156,ntmps156
  go_wp2_with fail
  go_region_law (refine step_append_room rfl (.tmp 22) (.tmp 25) 300 rfl 329 i0 3 underlying300 n p g 0 i (i+1) (by simp[Act.eval,Act.put]) ⟨g,0,none⟩ 0 0 [] (by simp[Act.eval,Act.put]) s1.o C.o s2.o aQ D.o ?_;rw[<-F.o])
  go_wp2
  go_ret
  exact⟨fH aQ,a.o.1,⟨a.o.2.os,a.o.2.tape,a.o.2.output,a.o.2.size,a.o.2.block⟩⟩
 .have f:=λty=>l ty (i+1+k - (i+k)) (c - (i+k)) aQ
  clear l;go_enter func156,ntmps156
  go_wp2_with fail
  go_region_law (refine step_append_room rfl (.tmp 22) (.tmp 25) 300 rfl 329 i0 3 underlying300 n p g 0 i c (by simp[Act.eval,Act.put]) ⟨g,(i+1) *3,none⟩ k (c - (i+1)) news (by simp[Act.eval,Act.put]) s1.o I.o s2.o aQ D.o ?_;rw[<-F.o])
  go_wp2
  go_ret
  exact⟨fH aQ,a.o.1,⟨a.o.2.os,a.o.2.tape,a.o.2.output,a.o.2.size,a.o.2.block⟩⟩
end Vr
namespace Vm
theorem kX:∀w,(zeroValue 327).run prog w= .ok (.agg #[aU,aU]) w:=λw=>by kernel_rfl
variable{A:Option aJ}{n m:Nat}
theorem fH{c:Nat}(h:n=m):Ending.returned (.slice A n c)= .returned (.slice A m c):=by rw[h]
theorem lX(g c i k base:Nat)(L:List Rl)(w:aA)(own:bI tJ 2 w base 327 g c L)(r:L.length=i+1+k)(hl:L.length<=4000000):
 aG prog 154 #[.slice g L.length c,i, .int .i64 ((i:Int)+1)] w λe w'=>e= .returned (.slice g (L.eraseIdx i).length c)/\bI tJ 2 w' base 327 g c (L.eraseIdx i)/\w.grownBy w' (some g):=by
 obtain⟨i0,n,G,p,H⟩:=info_parts S5;have s:(L.eraseIdx i).length=i+k:=by rw[ab2,Zz aQ];omega
 obtain⟨_,_,_,v,x,_,_⟩:=eV own;simp only[maxLen] at x;obtain⟨news,b⟩:∃news,news=(L.drop (i+1)).flatMap tJ:=⟨_,rfl⟩
 have s1:aH (news.length=k *2):=by unfold aH;rw[b,eZ pJ.len,acM];omega
 have s2:aH (∀u∈news,u.oneCell'=true):=λu hu=>qX pJ _ u (by rw[<-b];exact hu)
 have D:aH (∀t,t<news.length->(w.drew.cell? ⟨g,0+i *2+t,none⟩).isSome=true/\w.drew.frozen? ⟨g,0+i *2+t,none⟩=false):=λt E=>by
  rw[s1.o] at E;exact cZ own _ aQ
 have I:aH (∀t u,news[t]?=some u->w.drew.cell? ((⟨g,(i+1) *2,none⟩:aJ).add t)=some u):=λt u hu=>by
  have E:t<k *2:=by rw[<-s1.o];exact(aaN.1 hu).1
  have hF:=oE pJ.len L (i+1);rw[b,hF,abY] at hu;rw[Addr.add_lit];obtain⟨cur,_,J,_,_,_,K⟩:=eV own;show w.cell? _=_;rw[cell_of_row w g _ cur _ (0,0) J,<-hu,<-K,aa7,Zz aQ,aaX]
 obtain⟨m,h⟩:∃m,m=w.drew.setCells g (0+i *2) news:=⟨_,rfl⟩
 have F:=aP h;have y:=tG (w:=w.drew) pJ.len own.drew i k r [.int .i64 0, .int .i64 0] rfl;rw[<-b,show i *2=0+i *2 by omega,<-h] at y;have a:=aP y;have d:∀j,j<c *2->(m.cell? ⟨g,j,none⟩).isSome=true/\m.frozen? ⟨g,j,none⟩=false:=λj z=>by
  rw[h];have:=cZ own j z;exact⟨Go.World.isSome_setCells g _ _ _ _ this.1,by rw[World.frozen?_setCells];exact this.2⟩
 have l:∀ty q A,q=1->(Builtin.clear_ #[301] ty #[.slice (some ⟨g,(i+k) *2,none⟩) q A]).run prog m= .ok (.tuple #[]) (m.setCells g ((i+k) *2) [.int .i64 0, .int .i64 0]):=λty q A B=>
  lE m _ 327 ty _ underlying301 kX [.int .i64 0, .int .i64 0] aV cC g ((i+k) *2) q A B (λj z=>d _ (by simp at z;omega))
 clear h y d b;rw[r];rw[r] at v;have M:i<=c:=aQ;have N:i+1<=c:=aQ;have O:(0:Int)<=i+1:=aQ;have P:(i:Int)+1<=(i:Int)+1+(k:Int):=aQ;by_cases hce:c=i+1
 .obtain rfl:k=0:=aQ;obtain rfl:news= []:=aa5 (by rw[s1.o]);have C:aH (∀t u,([]:List aC)[t]?=some u->w.drew.cell? ((⟨g,0,none⟩:aJ).add t)=some u):=λt u hu=>by simp at hu
  subst hce;have f:=λty=>l ty (i+1 - i) (i+1 - i) aQ
  simp only[aaU] at f s⊢;have Q:(i:Int)<=(i:Int)+1:=aQ;have R:i+1 - i=1:=aQ;rw[R] at f;clear l;go_enter func154,ntmps154
  go_wp2_with fail
  go_region_law (refine step_append_room rfl (.tmp 22) (.tmp 25) 301 rfl 327 i0 2 underlying301 n p g 0 i (i+1) (by simp[Act.eval,Act.put]) ⟨g,0,none⟩ 0 0 [] (by simp[Act.eval,Act.put]) s1.o C.o s2.o aQ D.o ?_;rw[<-F.o])
  go_wp2
  go_ret
  exact⟨fH aQ,a.o.1,⟨a.o.2.os,a.o.2.tape,a.o.2.output,a.o.2.size,a.o.2.block⟩⟩
 .have f:=λty=>l ty (i+1+k - (i+k)) (c - (i+k)) aQ
  clear l;go_enter func154,ntmps154
  go_wp2_with fail
  go_region_law (refine step_append_room rfl (.tmp 22) (.tmp 25) 301 rfl 327 i0 2 underlying301 n p g 0 i c (by simp[Act.eval,Act.put]) ⟨g,(i+1) *2,none⟩ k (c - (i+1)) news (by simp[Act.eval,Act.put]) s1.o I.o s2.o aQ D.o ?_;rw[<-F.o])
  go_wp2
  go_ret
  exact⟨fH aQ,a.o.1,⟨a.o.2.os,a.o.2.tape,a.o.2.output,a.o.2.size,a.o.2.block⟩⟩
end Vm
def JB(L:List Rl)(de:Int):Int:=match L.findIdx? λr=>decide (de<r.at_) with|some i=>i|none=> -1
theorem Sl.Kf{xs:List Rl}(h:Sl tJ 2 w A xs)(hi:i<xs.length):
 ∃b off,A=some ⟨b,off,none⟩/\w.cell? ⟨b,off+i *2,none⟩=some (.int .i64 xs[i].at_)/\w.cell? ⟨b,off+i *2+1,none⟩=some (.int .i64 xs[i].am):=by
 obtain⟨b,off,a,hc⟩:=h.at_ hi;exact⟨b,off,a,by simpa using hc 0 _ (show(tJ xs[i])[0]?=some (.int .i64 xs[i].at_) from rfl),by simpa[abD] using hc 1 _ (show(tJ xs[i])[1]?=some (.int .i64 xs[i].am) from rfl)⟩
theorem ZG(de:Int)(e:Rl)(b:Nat)(w:aA)(c1:w.cell? (b,2)=some (.int .i64 de)):
 aG prog 201 #[.agg #[e.at_,e.am], .pointer b] w λr w'=>r= .returned (.bool (decide (de<e.at_)))/\aD w w w':=by
 have h1:=bG (aX w (aI #[e.at_,e.am] 327)) c1;clear c1;go_enter func201,ntmps201
 go_wp2
 go_ret
 exact⟨jL aT,aX _ _⟩
theorem SH:∀args w,(callFunc 201 args).run prog w= .ok (.enter 201 args) w:=enters_of func201 aV rfl
theorem UK(A:Option aJ)(L:List Rl)(c:Nat)(de:Int)(b1:Nat)(w:aA)(hs:Sl tJ 2 w A L)(hl:L.length<=4000000)(c1:w.cell? (b1,2)=some (.int .i64 de)):
 aG prog 200 #[(A,L.length,c), .func (.func 201) #[] #[.pointer b1]] w λe w'=>e= .returned (.int .i64 (JB L de))/\aD w w w':=by
 have t:=SH;go_enter func200,ntmps200
 go_wp2
 go_loopw [5,8] (λ_ p wr=>∃k:Nat,k<=L.length/\p= .int .i64 k/\aD w w wr/\aH (∀j,(a:j<L.length)->j<k->decide (de<L[j].at_)=false)) (λ_ i _=>L.length - (intOf i).toNat)
 case atStart=>exact⟨0,aaH _,rfl,Below.refl _ w,λj a h=>absurd h (acH _)⟩
 case round=>
  obtain⟨k,hk,rfl,d,f⟩:=hrel;by_cases g:k<L.length
  .obtain⟨b,off,rfl,u,v⟩:=(hs.keep d).Kf g;have z:(0:Int)<=k:=aQ;have B:(k:Int)<(L.length:Int):=aQ;have hc:=ZG de L[k] b1 wr (bG d c1);have HQ:aH (decide (de<L[k].at_)=true->JB L de=k):=λh=>by
    unfold JB;rw[aaT.2 ⟨g,h,λj a=>by rw[f.o j aQ a];simp⟩]
   have l:aH (decide (de<L[k].at_)=false->∀j,(a:j<L.length)->j<k+1->decide (de<L[j].at_)=false):=λh j a q=>by
    by_cases he:j=k
    .subst he;exact h
    .exact f.o j a aQ
   clear f;generalize L[k]=y at *;cases hq:decide (de<y.at_) with
   |true=>
    rw[hq] at hc;have m:=aP (HQ.o hq);clear hq HQ l;go_wp2_with(go_at_fn 201;(with_reducible refine hc.mono ?_);rintro e w' ⟨rfl,hb⟩)
    go_ret
    exact⟨lT m.o.symm,fK d (Zw _) hb⟩
   |false=>
    rw[hq] at hc;have n:=aP (l.o hq);clear hq HQ l;go_wp2_with(go_at_fn 201;(with_reducible refine hc.mono ?_);rintro e w' ⟨rfl,hb⟩)
    go_roundw
    case rel=>exact⟨k+1,aQ,by go_num,fK d (Zw _) hb,n.o⟩
    case measure=>simp[intOf];omega
  .obtain rfl:k=L.length:=aQ;have r:aH (JB L de= -1):=by
    unfold aH JB;rw[abH.2 (λx s=>by obtain⟨j,a,rfl⟩:=aa1 s;exact f.o j a a)]
   clear f;go_wp2
   go_ret
   exact⟨lT r.o.symm,d⟩
end
end
end Go.Proofs.YtacgiflhgdaeaaaGreat
