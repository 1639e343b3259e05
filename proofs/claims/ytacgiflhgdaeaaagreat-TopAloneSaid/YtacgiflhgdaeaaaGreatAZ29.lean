/- Texts laid as one. -/
import Derived.Laws.BytesArg
import Derived.Test.YtacgiflhgdaeaaaGreatAZ12
import Derived.Test.YtacgiflhgdaeaaaGreatAZ22
import Derived.Test.YtacgiflhgdaeaaaGreatAZ24
import Derived.Test.YtacgiflhgdaeaaaGreatAZ26
import Derived.Test.YtacgiflhgdaeaaaGreatAZ27
import Derived.Test.YtacgiflhgdaeaaaGreatAZ28
set_option linter.unusedVariables false
set_option linter.unusedSimpArgs false
set_option maxRecDepth 100000
set_option maxHeartbeats 20000000
namespace Go.Proofs.YtacgiflhgdaeaaaGreat
open Go.Proofs.Tryz
open Go renaming World->aA,Calls->aG
open Go.RowKit renaming Below->aD,Hid->aH
section
open Go.RowKit Go.Lib Go.Shelf dF Fr Up Nt
inductive nP (k:Kv) (rs:List Rm) (a:Ac):Int->Kv->List Rm->Prop
 |res (h:a.kd=1):nP k rs a (D4 k a.env a.bu a.pe) (LN k a.env a.bu a.pe) rs
 |Y5 (h:a.kd=2):nP k rs a (IV k a.env) (PE k a.env) rs
 |ZD (h:a.kd=3) (gl:Nat) (sv:Value):nP k rs a (uN rs a.env (a.ts.map Tm.t) (a.od%2)) k (DJ rs a.env (a.ts.map Tm.t) (a.od%2) gl sv)
 |Bv (h:a.kd=4):nP k rs a (NW k rs a.env) (Aa k rs a.env) (UA rs a.env)
 |Y9 (h:a.kd=5) (B:Option Addr) (d:Nat):nP k rs a (C1 k rs a.env a.cs) (O1 k rs a.env a.cs) (NV rs a.env a.cs B d)
 |go (h:a.kd≠1/\a.kd≠2/\a.kd≠3/\a.kd≠4/\a.kd≠5):nP k rs a (Q3 k rs a.env) (XT k rs a.env) (TD rs a.env)
def Wh(a:Ac):Value:= .agg #[a.kd,a.env, .int .u8 a.n,a.bu,a.pe,(a.TA,a.ts.length,a.Tc), .int .u8 a.od,(a.CA,a.cs.length,a.Cc),(a.RA,a.rs.length,a.Rc),(a.WA,a.ws.length,a.Wc),(a.XA,a.xs.length,a.Xc),(a.QA,a.qs.length,a.Qc)]
def zI(F:Nat->Prop)(hb m g:Nat)(c:Int)(k:Kv)(rs:List Rm)(a:Ac)(w:aA)(e:Ending)(w':aA):Prop:=∃(E:Int) (k':Kv) (rs':List Rm),e= .returned (.int .i64 E)/\nP k rs a E k' rs'/\bV F w' hb m g c k' rs'/\Kp F w w'
variable{E:Int}{k':Kv}{oa:List Rm}{n0:Nat}
section
variable{F:Nat->Prop}{w w':aA}{hb m g:Nat}{c:Int}{k:Kv}{rs:List Rm}
theorem yJ.act{a:Ac}{o:Obj}{e:Ending}(h:bV F w hb m g c k rs)(r:yJ (Fb F w) hb m g c k' oa (.int .i64 E) (w.alloc o) e w')(ha:nP k rs a E k' oa):e= .returned (.int .i64 E)/\aH (zI F hb m g c k rs a w (.returned (.int .i64 E)) w'):=by
 obtain⟨h1,d,f⟩:=r;exact⟨h1,E,k',oa,rfl,ha,d.less λb hb=> .inl hb,(h.below (aX w o)).2.trans f.unbox⟩
theorem Hv(h:bV F w hb m g c k rs)(A:KI k n0)(a:Ac)(I:pB (λb=>b<w.heap.size) w a)(C:qI a):aG prog 12 #[.pointer hb,Wh a] w (zI F hb m g c k rs a w):=by
 have p:=λo=>aX w o
 have l:=λo=>(bV.cD hb m g c k rs).box h h.fl o
 have f:=λo=>I.kp (Kp.cB (p o) λb hb=>hb)
 obtain⟨kd,env,n,bu,pe,TA,Tc,ts,od,CA,Cc,cs,RA,Rc,i,WA,Wc,ws,XA,Xc,xs,QA,Qc,qs⟩:=a;have z:=aP h;simp only[Wh];by_cases q:kd=1
 .subst q;have G:aH (∀o,aG prog 32 #[.pointer hb,env, .agg #[bu,pe]] (w.alloc o) λr w'=>r= .returned (.int .i64 (D4 k env bu pe))/\aH (zI F hb m g c k rs ⟨1,env,n,bu,pe,TA,Tc,ts,od,CA,Cc,cs,RA,Rc,i,WA,Wc,ws,XA,Xc,xs,QA,Qc,qs⟩ w (.returned (.int .i64 (D4 k env bu pe))) w')):=λo=>(RS (l o) A.sd env bu pe).mono λe w' r=>r.act z.o (.res rfl)
  clear h l A I C f p z;go_enter func12,ntmps12
  go_wp2_with(go_at_call 32;(refine aS (G.o _) ?_);rintro r R ⟨rfl,j⟩)
  go_ret
  exact j.o
 by_cases s:kd=2
 .subst s;have G:aH (∀o,aG prog 35 #[.pointer hb,env] (w.alloc o) λr w'=>r= .returned (.int .i64 (IV k env))/\aH (zI F hb m g c k rs ⟨2,env,n,bu,pe,TA,Tc,ts,od,CA,Cc,cs,RA,Rc,i,WA,Wc,ws,XA,Xc,xs,QA,Qc,qs⟩ w (.returned (.int .i64 (IV k env))) w')):=λo=>(Ew (l o) A.sd env).mono λe w' r=>r.act z.o (.Y5 rfl)
  clear h l A I C f p z;go_enter func12,ntmps12
  go_wp2_with(go_at_call 35;(refine aS (G.o _) ?_);rintro r R ⟨rfl,j⟩)
  go_ret
  exact j.o
 have T:(kd==1)=false:=by simpa using q
 have U:(kd==2)=false:=by simpa using s
 by_cases u:kd=4
 .subst u;have G:aH (∀o,aG prog 36 #[.pointer hb,env] (w.alloc o) λr w'=>r= .returned (.int .i64 (NW k rs env))/\aH (zI F hb m g c k rs ⟨4,env,n,bu,pe,TA,Tc,ts,od,CA,Cc,cs,RA,Rc,i,WA,Wc,ws,XA,Xc,xs,QA,Qc,qs⟩ w (.returned (.int .i64 (NW k rs env))) w')):=λo=>(ZP (l o) A.Rh env).mono λe w' r=>r.act z.o (.Bv rfl)
  clear h l A I C f p z q s T U;go_enter func12,ntmps12
  go_wp2_with(go_at_call 36;(refine aS (G.o _) ?_);rintro r R ⟨rfl,j⟩)
  go_ret
  exact j.o
 have e4:(kd==4)=false:=by simpa using u
 by_cases D:kd=5
 .subst D;have G:aH (∀o,aG prog 37 #[.pointer hb,env,(CA,cs.length,Cc)] (w.alloc o) λr w'=>r= .returned (.int .i64 (C1 k rs env cs))/\aH (zI F hb m g c k rs ⟨5,env,n,bu,pe,TA,Tc,ts,od,CA,Cc,cs,RA,Rc,i,WA,Wc,ws,XA,Xc,xs,QA,Qc,qs⟩ w (.returned (.int .i64 (C1 k rs env cs))) w')):=λo=>(Z9 (l o) A.Rh env Cc (f o).c (aaC C.c cC) (f o).cr).mono λe w' ⟨B,d,r⟩=>r.act z.o (.Y9 rfl B d)
  clear h l A I C f p z q s T U u e4;go_enter func12,ntmps12
  go_wp2_with(go_at_call 37;(refine aS (G.o _) ?_);rintro r R ⟨rfl,j⟩)
  go_ret
  exact j.o
 have e5:(kd==5)=false:=by simpa using D
 by_cases H:kd=3
 .subst H;clear T U e4 e5 q s u D;have ho:Int.tmod od 2=od%2:=adM I.od.1;have o0:0<=od%2:=aQ;have o1:od%2<2:=aQ;have N:aH (∀o W,aD (w.alloc o).heap.size (w.alloc o) W->aG prog 25 #[(TA,ts.length,Tc)] W λr w'=>∃(A':Option Addr) (J:Nat) (L:List Tm),r= .returned (.slice A' ts.length J)/\aH (qK w' A' L/\L.map Tm.t=ts.map Tm.t/\aD (w.alloc o).heap.size (w.alloc o) w')):=λo W K=>by
   refine(JZ Tc W ((f o).t.keep K) (λx l=>((f o).se x l).1.keep K) (aaC C.t cC) (λx l=>by have:=C.se x l;omega)).mono ?_;rintro r w' ⟨A',J,L,rfl,h1,V,h3⟩;exact⟨A',J,L,rfl,h1,V,K.trans (h3.mono K.size)⟩
  have O:aH (∀o P W A' J L,aH (qK P A' L/\L.map Tm.t=ts.map Tm.t/\aD (w.alloc o).heap.size (w.alloc o) P)->aD P.heap.size P W->aG prog 33 #[.pointer hb,env, .slice A' ts.length J, .int .i64 (od%2)] W λr w'=>r= .returned (.int .i64 (uN rs env (ts.map Tm.t) (od%2)))/\aH (zI F hb m g c k rs ⟨3,env,n,bu,pe,TA,Tc,ts,od,CA,Cc,cs,RA,Rc,i,WA,Wc,ws,XA,Xc,xs,QA,Qc,qs⟩ w (.returned (.int .i64 (uN rs env (ts.map Tm.t) (od%2)))) w'/\Kp (Fb F w) (w.alloc o) w')):=λo P W A' J L M hV=>by
   have K:aD (w.alloc o).heap.size (w.alloc o) W:=M.o.2.2.trans (hV.mono M.o.2.2.size);have h1:=(l o).below K;have hl:L.length=ts.length:=by have:=congrArg List.length M.o.2.1;simpa using this
   have X:∀x∈L,x.t.se.length<=1000000:=λx Y=>by
    have V:x.t∈ts.map Tm.t:=by rw[<-M.o.2.1];exact acL.2 ⟨x,Y,rfl⟩
    obtain⟨y,hy,e⟩:=acL.1 V;have:=C.se y hy;rw[<-e];omega
   have hc:=OG h1.1 env J (M.o.1.keep hV) (by rw[hl];exact aaC C.t cC) X (od%2);rw[hl,M.o.2.1] at hc;refine hc.mono ?_;rintro r w' ⟨gl,sv,r1,r2,r3⟩;have k2:=h1.2.trans r3;exact⟨r1,⟨_,_,_,rfl, .ZD rfl gl sv,r2.less λb hb=> .inl hb,(z.o.below (aX w o)).2.trans k2.unbox⟩,k2⟩
  have Z:aH (∀o,¬Fb F w (w.alloc o).heap.size/\Fb F w w.heap.size):=λo=>⟨λh=>by
   have:=(l o).fl _ h;omega, .inr rfl⟩
  clear h l A I C f p z;generalize od%2=o2 at *;go_enter func12,ntmps12
  go_upto_region 7 with(fail)
  have S:=aP (bF.new w 44 #[.int .i64 3,env, .int .u8 n,bu,pe,(TA,ts.length,Tc), .int .u8 od,(CA,cs.length,Cc),(RA,i.length,Rc),(WA,ws.length,Wc),(XA,xs.length,Xc),(QA,qs.length,Qc)]);have d1:=S.o.cell 1 env rfl;have d5:=S.o.cell 5 (.slice TA ts.length Tc) rfl;have d6:=S.o.cell 6 (.int .u8 od) rfl;have a1:=aP (N.o (Obj.cells #[.int .i64 3,env, .int .u8 n,bu,pe,(TA,ts.length,Tc), .int .u8 od,(CA,cs.length,Cc),(RA,i.length,Rc),(WA,ws.length,Wc),(XA,xs.length,Xc),(QA,qs.length,Qc)] 44));have Q:=aP (O.o (Obj.cells #[.int .i64 3,env, .int .u8 n,bu,pe,(TA,ts.length,Tc), .int .u8 od,(CA,cs.length,Cc),(RA,i.length,Rc),(WA,ws.length,Wc),(XA,xs.length,Xc),(QA,qs.length,Qc)] 44));have v:aH (Fb F w w.heap.size):= .inr rfl;clear N O Z S;generalize w.alloc (Obj.cells #[.int .i64 3,env, .int .u8 n,bu,pe,(TA,ts.length,Tc), .int .u8 od,(CA,cs.length,Cc),(RA,i.length,Rc),(WA,ws.length,Wc),(XA,xs.length,Xc),(QA,qs.length,Qc)] 44)=w1 at *;generalize w.heap.size=q1 at *;have ow:IntKind.i64.wrap o2=o2:=by rw[IntKind.wrap_i64];omega
  go_region_held3 (λW=>W.cell? (q1,1)=some (.int .i64 env)/\W.cell? (q1,5)=some (.slice TA ts.length Tc)/\W.cell? (q1,6)=some (.int .u8 od)) (first|exact⟨d1,d5,d6⟩|exact⟨‹_›,‹_›,‹_›⟩|fail) ((first|(go_at_call 25;(with_reducible refine(a1.o _ (Below.refl _ _).drew).mono ?_);rintro r w3 ⟨A',J,L,rfl,E⟩;(have x1:=bG E.o.2.2 d1);(have x5:=bG E.o.2.2 d5);(have x6:=bG E.o.2.2 d6))|(go_at_call 33;(with_reducible refine(Q.o _ _ _ _ _ E (Below.refl _ _)).mono ?_);rintro r w4 ⟨rfl,j⟩;(have y1:=j.o.2.cell d1 v.o);(have y5:=j.o.2.cell d5 v.o);(have y6:=j.o.2.cell d6 v.o))|(go_at_call 33;(with_reducible refine(Q.o _ _ _ _ _ E (Below.refl _ _).drew).mono ?_);rintro r w4 ⟨rfl,j⟩;(have y1:=j.o.2.cell d1 v.o);(have y5:=j.o.2.cell d5 v.o);(have y6:=j.o.2.cell d6 v.o))))
  all_goals
   go_wp2_with fail
   go_ret
   exact j.o.1
 have e3:(kd==3)=false:=by simpa using H
 have G:aH (∀o,aG prog 38 #[.pointer hb,env] (w.alloc o) λr w'=>r= .returned (.int .i64 (Q3 k rs env))/\aH (zI F hb m g c k rs ⟨kd,env,n,bu,pe,TA,Tc,ts,od,CA,Cc,cs,RA,Rc,i,WA,Wc,ws,XA,Xc,xs,QA,Qc,qs⟩ w (.returned (.int .i64 (Q3 k rs env))) w')):=λo=>(Mz (l o) A.Rh env).mono λe w' r=>r.act z.o (.go ⟨q,s,H,u,D⟩)
 clear h l A I C f p z q s H u D;go_enter func12,ntmps12
 go_wp2_with(go_at_call 38;(refine aS (G.o _) ?_);rintro r R ⟨rfl,j⟩)
 go_ret
 exact j.o
end
end
section
open Go.RowKit Go.Lib
namespace Fr
end Fr
end
section
open Go.RowKit Go.Lib Go.Shelf dF Fr Up Nt
structure iK(F:Nat->Prop)(w:aA)(hb m g:Nat)(c:Int)(k:Kv)(rs:List Rm)(l:List Pt):Prop where
 ob:Ob (NS hb m g c k rs::l) F w
section
variable{F G:Nat->Prop}{w w':aA}{hb m g q:Nat}{c:Int}{k:Kv}{rs:List Rm}{l:List Pt}
theorem iK.fl(h:iK F w hb m g c k rs l):Ol F w:=h.ob.fl
theorem iK.less(h:iK F w hb m g c k rs l)(a:∀b,G b->F b):iK G w hb m g c k rs l:=⟨h.ob.VM a⟩
theorem iK.below(h:iK F w hb m g c k rs l)(b:aD w w w'):iK F w' hb m g c k rs l/\Kp F w w':=⟨⟨h.ob.below b⟩,h.ob.QC b⟩
theorem iK.grow(h:iK F w hb m g c k rs l)(hw:aD w w w'):iK (Nw F w w') w' hb m g c k rs l:=⟨dN.grow (Ob.cD _) h.ob h.ob.fl hw⟩
theorem iK.box(h:iK F w hb m g c k rs l)(x:Obj):iK (Fb F w) (w.alloc x) hb m g c k rs l:=⟨(Ob.cD _).box h.ob h.ob.fl x⟩
theorem iK.of(h:bV F w hb m g c k rs):iK F w hb m g c k rs []:=⟨Ob.single (p:=NS hb m g c k rs) h h.fl⟩
theorem iK.Sk(h:iK F w hb m g c k rs l):∃G,bV G w hb m g c k rs:=by
 obtain⟨G,a,_⟩:=h.ob.use 0 _ rfl;exact⟨G,a⟩
theorem iK.ho(h:iK F w hb m g c k rs l):∃G,(∀b,F b->G b)/\bV G w hb m g c k rs/\∀(k':Kv) (a:List Rm) (w':aA) (X:Nat->Prop),(∀b,X b->w.heap.size<=b)->bV (λb=>G b\/X b) w' hb m g c k' a->Kp G w w'->iK (λb=>F b\/X b) w' hb m g c k' a l/\Kp F w w':=by
 obtain⟨G,hs,e,back⟩:=h.ob.UM 0 _ rfl;refine⟨G,hs,e,λk' a w' X f d i=>?_⟩;obtain⟨b1,b2⟩:=back (NS hb m g c k' a) w' X f d (bV.fl d) i;exact⟨⟨b1⟩,b2⟩
end
def fS(s:dX)(f:Nat):ByteArray:=strOfNums (IT s f)
variable{k k':Kv}{N E p tk nu:Int}{i n nT:Nat}{L:List En}{ws qs:List (Int×Int×Int)}{rn:Rn}{rs oa:List Rm}{AS:List Int}
section
theorem Mv.mono{A B:Int->Int->Int->Prop}(m:Mv A k k')(f:∀w d o,A w d o->B w d o):Mv B k k':=by
 cases m with
 |gI h r=>exact .gI (h.elim (λ⟨i,h1,c,g⟩=> .inl ⟨i,h1,f _ _ _ c,g⟩) .inr) r
 |nO ho ha self j=>exact .nO ho (f _ _ _ ha) self j
 |alloc h c=>exact .alloc h c
 |pass ho ha l h1 e s=>exact .pass ho (f _ _ _ ha) l h1 e s
 |write ho ha hk c a v=>exact .write ho (f _ _ _ ha) hk c a v
 |load ho hk he hf c=>exact .load ho hk he hf c
 |tl h=>exact .tl h
 |xO b v s n=>exact .xO b v s n
theorem uU.mono{A B:Int->Int->Int->Prop}(m:uU A k k')(a:∀w d o,A w d o->B w d o):uU B k k':=by
 induction m with
 |nil _=>exact .nil _
 |cons m _ b=>exact .cons (m.mono a) b
def gM(A:Int->Int->Int->Prop)(k k':Kv):Prop:=KJ k->uU A k k'/\(HD k->HD k')
section
variable{A B:Int->Int->Int->Prop}{k k1 k':Kv}
theorem gM.refl(k:Kv):gM A k k:=λ_=>⟨.nil _,λd=>d⟩
theorem gM.trans(h:gM A k k1)(e:gM A k1 k'):gM A k k':=λhk=>by
 obtain⟨a,b⟩:=h hk;obtain⟨c,d⟩:=e (hk.C6 a);exact⟨a.trans c,λx=>d (b x)⟩
theorem gM.mono(h:gM A k k')(a:∀w d o,A w d o->B w d o):gM B k k':=λhk=>⟨(h hk).1.mono a,(h hk).2⟩
theorem gM.xO(k:Kv)(b:List Nt)(v:List Vc)(s:Sd)(n:Nat):gM A k {k with b:=b,v:=v,s:=s,n:=n}:=λ_=>⟨.one (.xO b v s n),λd=>d.same rfl rfl⟩
theorem gM.tell(k:Kv)(e:Int):gM A k (dL k e):=by
 unfold dL;split
 .exact gM.xO k k.b k.v _ k.n
 .exact gM.refl _
theorem gM.nF(l:List Int):∀k:Kv,gM A k (dQ k l):=by
 induction l with
 |nil=>intro k;exact gM.refl _
 |cons e l a=>intro k;exact(gM.tell k e).trans (a _)
end
theorem iN.zX{c e x:Int}(he:0<=e/\e<8)(r:iN c e i x k N E k'):gM (I4 e) k k':=λhk=>by
 unfold iN at r;split at r
 .rw[r.2.2];exact⟨.nil _,λd=>d⟩
 .split at r
  .rcases r with r|r
   .have a:0<=aW x:=by unfold aW;omega
    exact⟨r.C6 hk he a,λd=>r.hd hk d he a⟩
   .rw[r.2.2];exact⟨.nil _,λd=>d⟩
  .rw[r.2.2];exact⟨.nil _,λd=>d⟩
theorem uA.zX{c e:Int}{ws:List Int}{D:List (Int×Int)}(he:0<=e/\e<8)(r:uA c e k ws D k'):gM (I4 e) k k':=by
 induction r with
 |nil=>exact gM.refl _
 |snoc _ x h a=>exact a.trans (h.zX he)
theorem YE{a f:Int}{b:Bool}(h:Pa.Cp.nD L a p=some (f,b)):∃x∈L,x.env=a/\x.cN=p/\x.frame=f/\x.write=b:=by
 unfold Pa.Cp.nD at h;cases hf:L.find? (mJ a p) with
 |none=>rw[hf] at h;cases h
 |some x=>
  rw[hf] at h;injection h with h;obtain⟨h1,c⟩:=aeK h;obtain⟨d,e⟩:=kR.1 (List.find?_some hf);exact⟨x,ad2 hf,d,e,h1,c⟩
theorem YK{x:En}:∀{L:List En},qD L->x∈L->Pa.Cp.nD L x.env x.cN=some (x.frame,x.write)
 | [],_,h=>by cases h
 |y::L,u,h=>by
  unfold qD at u;rw[adK] at u;unfold Pa.Cp.nD;by_cases a:mJ x.env x.cN y=true
  .rw[List.find?_cons_of_pos a];rcases acQ.1 h with rfl|h
   .rfl
   .exact absurd (kR.1 a) (u.1 x h)
  .rw[List.find?_cons_of_neg a];rcases acQ.1 h with rfl|h
   .exact absurd (kR.2 ⟨rfl,rfl⟩) a
   .exact YK u.2 h
theorem Om{e:Int}{s:dX}(h:zE (Pa.Cp.nD k.t e) k.f s):gM (I4 e) k {k with f:=s}:=λhk=>by
 induction h with
 |refl=>exact⟨.nil _,λd=>d⟩
 | @put s1 r p f a v hp b=>
  obtain⟨x,g,j,q,l,m⟩:=YE hp;obtain⟨i,n,i1,i2,i3,i4⟩:=hk.tb x g;have m2:Mv (I4 e) {k with f:=s1} {k with f:=iW s1 (bJ k.c i).ob a v}:=Mv.write (k:={k with f:=s1}) n (by show _=e;rw[<-j,i1]) i2 (i4 m) a v;rw[i3,l] at m2;refine⟨b.1.trans (.one m2),λd o ho=>?_⟩;obtain⟨n1,t1,_,_⟩:=wD s1 f a v;exact b.2 d o (by rw[<-EP n1 t1 o];exact ho)
theorem lZ.zX{e:Int}(he:0<=e/\e<8)(r:lZ e k k'):gM (I4 e) k k':=by
 induction r with
 |refl=>exact gM.refl _
 | @run k1 r L s hL hs g=>
  refine g.trans ((Om hs).trans λhk=>⟨.one (Mv.tl (k:={k1 with f:=s}) λx p=>?_),λd=>d.same rfl rfl⟩);have h1:=YK hL.1 p;rw[hL.2.2] at h1;obtain⟨y,q,i,j,m,o⟩:=YE h1;obtain⟨a,b,c,d⟩:=x;obtain⟨a',t,u,z⟩:=y;simp only at i j m o;subst i j m o;exact q
 |Bl r l x N E h g=>exact g.trans (h.zX he)
 | @EE k1 r b g=>exact g.trans (gM.xO k1 k1.b k1.v _ k1.n)
 |tell r g=>exact g.trans (gM.tell _ e)
theorem kA.zX{l:List Nt}(r:kA l k k'):gM (λw d o=>∃x∈l,RJ x.dM x.eY w d o) k k':=by
 induction r with
 |nil _=>exact gM.refl _
 | @cons x l k k1 k' r1 r ih=>
  have h1:gM (RJ x.dM x.eY) k k1:=λhk=>r1.C6 hk
  exact(h1.mono λw d o h=>⟨x,aT,h⟩).trans ((gM.tell k1 x.dM).trans (ih.mono λw d o ⟨y,a,h⟩=>⟨y,by simp[a],h⟩))
theorem AF{x:Nt}:∀{l:List Nt} {n:Nat},x∈lO n l->∃y∈l,y.dM=x.dM/\y.eY=x.eY/\y.dD=x.dD
 | [],_,h=>by cases h
 |y::l,n,h=>by
  unfold lO at h;rcases acQ.1 h with rfl|h
  .exact⟨y,aT,rfl,rfl,rfl⟩
  .obtain⟨z,a,h⟩:=AF h;exact⟨z,by simp[a],h⟩
def Wg(b:List Nt)(nw:Int):Int->Int->Int->Prop:=λw d o=>∃x∈b,x.dD<=nw/\RJ x.dM x.eY w d o
theorem kQ.zX(r:kQ k k'):gM (Wg k.b k.s.nw) k k':=by
 obtain⟨l1,c,T,e,f,h,rfl⟩:=r;refine(gM.nF l1 k).trans (gM.trans (gM.xO (dQ k l1) (k.b.filter λx=>decide (k.s.nw<x.dD)) (T.foldl mQ k.v) (dQ k l1).s (dQ k l1).n) (gM.trans (h.zX.mono λw d o ⟨x,g,h⟩=>?_) (gM.nF c e)));obtain⟨y,a,i,j,l⟩:=AF (f.mem_iff.1 g);rw[abZ,acB] at a;exact⟨y,a.1,a.2,by rw[i,j];exact h⟩
theorem Br{A:Int->Int->Int->Prop}(k:Kv)(e o gr:Int):gM A k (gX k e o gr).2:=by
 unfold gX;split
 .exact gM.refl _
 .split
  .exact gM.refl _
  .split
   .exact gM.refl _
   .exact(gM.xO k _ k.v k.s k.n).trans (gM.tell _ e)
theorem VN{A:Int->Int->Int->Prop}(ws:List (Int×Int×Int)):∀k:Kv,gM A k (kI k ws):=by
 induction ws with
 |nil=>intro k;exact gM.refl _
 |cons a l b=>intro k;exact(Br k a.1 a.2.1 a.2.2).trans (b _)
theorem L5(k:Kv)(e:Int):(dL k e).b=k.b:=by unfold dL;split <;> rfl
theorem MH(k:Kv)(e:Int):(dL k e).v=k.v:=by unfold dL;split <;> rfl
theorem LW(k:Kv)(e:Int):(dL k e).c=k.c:=by unfold dL;split <;> rfl
theorem KT(l:List Int):∀k:Kv,(dQ k l).b=k.b/\(dQ k l).v=k.v/\(dQ k l).c=k.c:=by
 induction l with
 |nil=>intro k;exact⟨rfl,rfl,rfl⟩
 |cons e l a=>
  intro k;obtain⟨h1,d,f⟩:=a (dL k e);exact⟨h1.trans (L5 k e),d.trans (MH k e),f.trans (LW k e)⟩
theorem Lr(k:Kv)(e o gr:Int):(∀x∈k.b,x∈(gX k e o gr).2.b)/\(∀x∈(gX k e o gr).2.b,x∈k.b\/k.s.nw<x.dD)/\(gX k e o gr).2.v=k.v/\(gX k e o gr).2.c=k.c:=by
 unfold gX;split
 .exact⟨λx a=>a,λx a=> .inl a,rfl,rfl⟩
 .split
  .exact⟨λx a=>a,λx a=> .inl a,rfl,rfl⟩
  .split
   .exact⟨λx a=>a,λx a=> .inl a,rfl,rfl⟩
   .rename_i h1 f g;simp only[L5,MH,LW];refine⟨λx a=>?_,λx a=>?_,trivial,trivial⟩
    .unfold gT;split
     .split
      .exact a
      .exact adB _ a
     .exact a
    .unfold gT at a;split at a
     .rename_i d;split at a
      .exact .inl a
      .rcases aaO.1 a with a|a
       .exact .inl a
       .rw[aaK.1 a];have:1<=gr:=by unfold wM at d;omega
        exact .inr (by show _<k.s.nw+gr;omega)
     .exact .inl a
theorem PT(ws:List (Int×Int×Int)):∀k:Kv,(∀x∈k.b,x∈(kI k ws).b)/\(∀x∈(kI k ws).b,x∈k.b\/k.s.nw<x.dD)/\(kI k ws).v=k.v/\(kI k ws).c=k.c:=by
 induction ws with
 |nil=>intro k;exact⟨λx d=>d,λx d=> .inl d,rfl,rfl⟩
 |cons a l e=>
  intro k;obtain⟨h1,f,g,i⟩:=e (gX k a.1 a.2.1 a.2.2).2;obtain⟨g1,g2,g3,g4⟩:=Lr k a.1 a.2.1 a.2.2;have j:=Q4 k a.1 a.2.1 a.2.2;refine⟨λx d=>h1 x (g1 x d),λx d=>?_,g.trans g3,i.trans g4⟩;rcases f x d with h|h
  .exact g2 x h
  .exact .inr (by rw[<-j];exact h)
def YS(b:List Nt)(nw env:Int):Int->Int->Int->Prop:=λw d o=>w=env\/Wg b nw w d o
theorem sO.zX{c:Int}{xs:List Wd}{D:List (Int×Int)}(h:sO k c ws xs rn D k')(m:KI k n):gM (YS k.b k.s.nw rn.env) k k':=by
 have p:=h.Fu m;obtain⟨a,hb,r,h⟩:=h;have h1:gM (YS k.b k.s.nw rn.env) k a:=(VN ws k).trans (hb.zX.mono λw d o ⟨x,q,e,h⟩=>by
  rw[zR] at e;rcases(PT ws k).2.1 x q with g|g
  .exact .inr ⟨x,g,e,h⟩
  .omega)
 have l:gM (YS k.b k.s.nw rn.env) a {a with s:=(gH a.s).2}:=gM.xO a a.b a.v _ a.n;rcases h with⟨i,z,he,t,ha⟩|⟨he,_,rfl⟩
 .have f:0<=rn.env/\rn.env<8:=by
   rcases p with h|⟨j,h,u⟩ <;> omega
  exact h1.trans (l.trans ((ha.zX f).mono λw d o h=> .inl h))
 .exact h1.trans l
theorem jN.zX{c:Int}{xs:List Wd}{D:List (Int×Int)}(h:jN c k rs ws xs qs rn D AS tk nu nT k' oa)(a:KI k n):gM (YS k.b k.s.nw rn.env) k k':=by
 obtain⟨g,h1,j⟩:=h.t;obtain⟨l,z2,z3⟩:=xY a.sd a.p4 (gD rs qs) 8;have m:=h1.zX (a.DW l z2);have f:gM (YS k.b k.s.nw rn.env) k g:=(gM.xO k k.b k.v (jZ k.s (gD rs qs) 8) k.n).trans (m.mono λw d o h=>by
  rcases h with h|⟨x,p,e,h⟩
  .exact .inl h
  .exact .inr ⟨x,p,by have:x.dD<=(jZ k.s (gD rs qs) 8).nw:=e;omega,h⟩)
 rcases j with⟨i,he,hi,_,q,_⟩|⟨_,rfl,_⟩
 .refine f.trans ((q.zX aQ).mono λw d o h=> .inl ?_);rw[he];exact h
 .exact f
end
variable{C:Cf}{ob rt op D:Int}
section
def O4(k:Kv):Prop:=∀i,Oc k.c i->i<64
theorem O4.sub(h:O4 k)(s:oN k'.c k.c):O4 k':=λi hi=>h i (s.s i hi).1
theorem O4.same(h:O4 k)(hc:k'.c=k.c):O4 k':=λi hi=>h i (by rw[<-hc];exact hi)
structure Ax(k k':Kv):Prop where
 b:k'.b.Sublist k.b
 v:k'.v=k.v
 o:O4 k->O4 k'
section
variable{k k1 k':Kv}
theorem Ax.refl(k:Kv):Ax k k:=⟨abW _,rfl,λh=>h⟩
theorem Ax.trans(h:Ax k k1)(a:Ax k1 k'):Ax k k':=⟨a.b.trans h.b,a.v.trans h.v,λx=>a.o (h.o x)⟩
theorem Ax.of(hb:k'.b=k.b)(a:k'.v=k.v)(hc:k'.c=k.c):Ax k k':=⟨by rw[hb];exact abW _,a,λh=>h.same hc⟩
theorem Ax.tell(k:Kv)(e:Int):Ax k (dL k e):=Ax.of (L5 k e) (MH k e) (LW k e)
theorem Fx{o:Int}(r:kC k o k'):oN k'.c k.c:=by
 obtain⟨L,_,rfl⟩:=r;exact sY k.c _
theorem Ax.gI{o:Int}(r:kC k o k'):Ax k k':=⟨r.sm.b,r.sm.v,λh=>h.sub (Fx r)⟩
theorem Ax.nO(k:Kv)(num:Int)(self:Bool)(L:List cM):Ax k (iR k num self L):=⟨abW _,rfl,λh=>h.sub (sY k.c _)⟩
theorem Ax.Ud{l:List cM}(r:fX l k k'):Ax k k':=by
 induction r with
 |nil k=>exact Ax.refl k
 |skip _ _ a=>exact a
 |gI _ r1 _ a=>exact(Ax.gI r1).trans a
theorem Ax.Jy{e:Int}{l:List Int}(r:iZ e l k k'):Ax k k':=by
 induction r with
 |nil k=>exact Ax.refl k
 |no _ _ a=>exact a
 |drop _ L _ _ a=>exact(Ax.nO _ _ _ L).trans a
theorem Ax.take{e o:Int}(r:nH e o k k'):Ax k k':=by
 cases r with
 |no _ h=>rw[h];exact Ax.refl k
 |keep _ r _=>exact Ax.Jy r
 |gI _ r _ a=>exact(Ax.Jy r).trans (Ax.gI a)
theorem Ax.Ve{l:List Nt}(r:kA l k k'):Ax k k':=by
 induction r with
 |nil k=>exact Ax.refl k
 |cons r1 _ a=>exact(Ax.take r1).trans ((Ax.tell _ _).trans a)
theorem LS{e s kd pf:Int}(h:∀i,Oc C i->i<64)(he:e<4):∀i,Oc (cY C e s kd ob rt pf).2 i->i<64:=by
 unfold cY;split
 .exact h
 .split
  .exact h
  .rename_i k hk;split
   .exact h
   .intro i hi;by_cases c:i=k
    .obtain⟨_,a,b,ha,hb,_,d,rfl⟩:=uF hk;omega
    .refine h i ⟨hi.1,?_⟩;have:=hi.2;unfold bJ at this⊢;rw[aaI,acJ (λe=>c e.symm)] at this;rw[aaI];exact this
theorem PC{env f o t r m:Int}(h:∀i,Oc C i->i<64)(ho:o<4):∀i,Oc (gU C env f o t r m).2 i->i<64:=by
 rcases wJ (C:=C) (env:=env) (from_:=f) (other:=o) (to_:=t) (rights:=r) (more:=m) with a|⟨i,c,a,d,e,b⟩
 .rw[a];exact h
 .rw[b];exact LS h ho
theorem lF.ax{e A B C:Int}(he:e<4)(r:lF k e op A B C D N E k'):Ax k k':=by
 cases r with
 |alloc _=>
  unfold lH;split
  .exact Ax.refl k
  .split
   .exact Ax.refl k
   .split
    .exact Ax.of rfl rfl rfl
    .split <;> exact⟨abW _,rfl,λh=>LS h he⟩
 |free _ r=>
  unfold rH at r;split at r
  .rw[r.2];exact Ax.refl k
  .exact Ax.gI r.2
 |read _=>exact Ax.refl k
 |write _=>
  unfold nZ;split
  .exact Ax.refl k
  .split
   .exact Ax.refl k
   .exact Ax.of rfl rfl rfl
 |load _=>
  unfold mP;split
  .exact Ax.refl k
  .split
   .exact Ax.refl k
   .exact Ax.of rfl rfl rfl
 |yR _=>exact Ax.of rfl rfl rfl
 |hand _ r=>
  unfold gS at r;split at r
  .rw[(aeK r).2];exact⟨abW _,rfl,λh=>PC h he⟩
  .split at r
   .split at r
    .rename_i b;have a:B<4:=by unfold nY at b;exact(abQ b).2
     rw[(aeK r).2];exact⟨abW _,rfl,λh=>PC h a⟩
    .rw[r.2];exact Ax.refl k
   .split at r
    .unfold pV at r;split at r
     .rw[r.2];exact Ax.refl k
     .obtain⟨_,L,_,rfl⟩:=r;exact Ax.nO _ _ _ L
    .unfold wC at r;split at r
     .rw[r.2];exact Ax.refl k
     .obtain⟨_,L,_,r⟩:=r;exact(Ax.nO _ _ _ L).trans (Ax.Ud r)
 |line _=>exact Ax.refl k
 |p7 _ _=>exact Ax.of rfl rfl rfl
 |time _ r=>
  unfold mR at r;split at r
  .rw[r.2];exact Ax.of rfl rfl rfl
  .split at r
   .rw[r.2];exact Ax.of rfl rfl rfl
   .rcases r with r|r
    .rw[r];exact Ax.refl k
    .rw[r];exact Ax.of rfl rfl rfl
 |send _ r=>
  rcases r with r|⟨o,r⟩
  .rw[r];exact Ax.refl k
  .rw[r];exact Ax.tell k o
 |next _ _=>exact Ax.refl k
 |null _=>exact Ax.refl k
theorem iN.ax{c e x:Int}(he:e<4)(r:iN c e i x k N E k'):Ax k k':=by
 unfold iN at r;split at r
 .rw[r.2.2];exact Ax.refl k
 .split at r
  .rcases r with r|r
   .exact r.ax he
   .rw[r.2.2];exact Ax.refl k
  .rw[r.2.2];exact Ax.refl k
theorem uA.ax{c e:Int}{ws:List Int}{D:List (Int×Int)}(he:e<4)(r:uA c e k ws D k'):Ax k k':=by
 induction r with
 |nil=>exact Ax.refl k
 |snoc _ x h a=>exact a.trans (h.ax he)
theorem lZ.ax{e:Int}(he:e<4)(r:lZ e k k'):Ax k k':=by
 induction r with
 |refl=>exact Ax.refl k
 |run r L s c hs a=>exact a.trans (Ax.of rfl rfl rfl)
 |Bl r l x N E h a=>exact a.trans (h.ax he)
 |EE r b a=>exact a.trans (Ax.of rfl rfl rfl)
 |tell r a=>exact a.trans (Ax.tell _ e)
theorem jN.ax{c:Int}{xs:List Wd}{D:List (Int×Int)}(h:jN c k rs ws xs qs rn D AS tk nu nT k' oa)(f:KI k n):(O4 k->O4 k')/\∃(b:List Nt) (T:List Nt),(∀x∈k.b,x∈b)/\(ws= []->b=k.b)/\(∀x∈b,(0<=x.dM/\x.dM<4)/\0<=x.eY/\x.eY<6)/\(b.Pairwise λx y=>¬(x.dM=y.dM/\x.eY=y.eY))/\T.Perm (lO 0 (b.filter λx=>decide (x.dD<=k.s.nw)))/\k'.v=T.foldl mQ k.v/\k'.b.Sublist (b.filter λx=>decide (k.s.nw<x.dD)):=by
 obtain⟨m,h1,r⟩:=h.t;obtain⟨u,z2,z3⟩:=xY f.sd f.p4 (gD rs qs) 8;have a:=f.DW u z2;have A:=h1.Fu a;have g:rn.env<4:=by rcases A with h|⟨i,h,hi⟩ <;> omega
 have B:Ax m k':=by
  rcases r with⟨i,he,hi,_,C,_⟩|⟨_,rfl,_⟩
  .exact C.ax aQ
  .exact Ax.refl _
 obtain⟨e,hb,N,E⟩:=h1;have F:Ax e m:=by
  rcases E with⟨i,z,he,O,ha⟩|⟨_,_,rfl⟩
  .exact(Ax.of rfl rfl rfl:Ax e {e with s:=(gH e.s).2}).trans (ha.ax g)
  .exact Ax.of rfl rfl rfl
 have j:=F.trans B;have d:=zQ ws a;have wn:=zR ws {k with s:=jZ k.s (gD rs qs) 8};obtain⟨G,_,H,I⟩:=PT ws {k with s:=jZ k.s (gD rs qs) 8};have J:ws= []->(kI {k with s:=jZ k.s (gD rs qs) 8} ws).b=k.b:=λh=>by rw[h];rfl
 rw[show({k with s:=jZ k.s (gD rs qs) 8}:Kv).s.nw=k.s.nw from z3] at wn;generalize kI {k with s:=jZ k.s (gD rs qs) 8} ws=kw at *;obtain⟨l1,K,T,L,p,M,rfl⟩:=hb;have t1:=KT l1 kw;have t2:=KT K L;have l:=Ax.Ve M;rw[wn] at p;refine⟨λh=>?_,kw.b,T,G,J,d.bb,d.bu,p,?_,?_⟩
 .have o1:O4 (dQ kw l1):=h.same (t1.2.2.trans I);exact j.o ((l.o (o1.same rfl)).same t2.2.2)
 .rw[j.v,t2.2.1,l.v,H]
 .have q:=j.b.trans (by rw[t2.1];exact l.b);rw[wn] at q;exact q
end
end
structure KQ(k:Kv):Prop where
 j:KJ k
 d:HD k
 o:O4 k
section
variable{c:Int}{k k':Kv}{rs rs':List Rm}{ws:List (Int×Int×Int)}{xs:List Wd}{qs:List (Int×Int×Int)}{rn:Rn}{D:List (Int×Int)}{AS:List Int}{tk nu:Int}{nT n:Nat}
theorem jN.kq(h:jN c k rs ws xs qs rn D AS tk nu nT k' rs')(a:KI k n)(q:KQ k):KQ k':=by
 obtain⟨m,d⟩:=h.zX a q.j;exact⟨q.j.C6 m,d q.d,(h.ax a).1 q.o⟩
end
section
theorem kC.s_{o:Int}(h:kC k o k'):k'.s=k.s:=by
 obtain⟨L,_,rfl⟩:=h;rfl
theorem fX.s_{l:List cM}(h:fX l k k'):k'.s=k.s:=by
 induction h with
 |nil=>rfl
 |skip _ _ a=>exact a
 |gI _ r1 _ a=>rw[a,r1.s_]
theorem gS.s_{e A B C:Int}(h:gS k e op A B C D E k'):k'.s=k.s:=by
 unfold gS at h;split at h
 .injection h with _ h;rw[h]
 .split at h
  .split at h
   .injection h with _ h;rw[h]
   .rw[h.2]
  .split at h
   .unfold pV at h;split at h
    .rw[h.2]
    .obtain⟨_,L,_,h⟩:=h;rw[h];rfl
   .unfold wC at h;split at h
    .rw[h.2]
    .obtain⟨_,L,_,h⟩:=h;rw[h.s_];rfl
theorem rH.s_{e s:Int}(h:rH k e s E k'):k'.s=k.s:=by
 unfold rH at h;split at h
 .rw[h.2]
 .exact h.2.s_
theorem Ds(k:Kv)(e s:Int):(lH k e s).2.2.s=k.s:=by
 unfold lH;split
 .rfl
 .split
  .rfl
  .split
   .rfl
   .split <;> rfl
theorem Ea(k:Kv)(e s a v:Int):(nZ k e s a v).2.s=k.s:=by
 unfold nZ;split
 .rfl
 .split <;> rfl
theorem Lp(k:Kv)(e s p w:Int):(mP k e s p w).2.s=k.s:=by
 unfold mP;split
 .rfl
 .split <;> rfl
theorem TN(s:Sd)(e bu pe:Int):(qN s e bu pe).nw=s.nw:=by
 unfold qN;split
 .unfold D3;split <;> rfl
 .rfl
theorem SV(s:Sd)(e:Int):(r6 s e).nw=s.nw:=by
 unfold r6;split <;> rfl
theorem lF.nw{e A B C:Int}(r:lF k e op A B C D N E k'):k'.s.nw=k.s.nw:=by
 cases r with
 |alloc h=>rw[Ds]
 |free h r=>rw[r.s_]
 |read h=>rfl
 |write h=>rw[Ea]
 |load h=>rw[Lp]
 |yR h=>rfl
 |hand h r=>rw[r.s_]
 |line h=>rfl
 |p7 h hm=>rfl
 |time h r=>
  unfold mR at r;split at r
  .rw[r.2];exact TN _ _ _ _
  .split at r
   .rw[r.2];exact SV _ _
   .rcases r with rfl|rfl
    .rfl
    .exact xZ _ _ _
 |send h r=>
  rcases r with rfl|⟨o,rfl⟩
  .rfl
  .exact yM _ _
 |next h a=>rfl
 |null h=>rfl
theorem uA.nw{c e:Int}{ws:List Int}{D:List (Int×Int)}(h:uA c e k ws D k'):k'.s.nw=k.s.nw:=by
 induction h with
 |nil=>rfl
 |snoc r x a b=>
  rw[<-b];unfold iN at a;split at a
  .rw[a.2.2]
  .split at a
   .rcases a with a|a
    .exact a.nw
    .rw[a.2.2]
   .rw[a.2.2]
end
variable{rs':List Rm}{nl n':Nat}{T od:Int}{ts:List Tk}
section
structure HQ(t nl n:Nat)(k:Kv)(rs:List Rm):Prop where
 ki:KI k n
 kq:KQ k
 n0:0<=k.s.nw
 nw:k.s.nw<=t
 lb:nV rs nl k.s.nw
 l8:rs.length=8
structure uV(C:Cf):Prop where
 ci:CI C
 z:∀i,Oc C i->(bJ C i).pf=0/\(bJ C i).kd≠1
 o:∀i,Oc C i->i<64
theorem uV.put{C:Cf}(h:uV C)(e s kd ob rt:Int)(he:e<4)(hk:kd≠1):uV (cY C e s kd ob rt 0).2:=by
 refine⟨h.ci.put e s kd ob rt 0 (.inl rfl),?_,LS h.o he⟩;rcases rN h.ci.len e s kd ob rt 0 with⟨h1,_⟩|⟨i,_,hi,_,_,d,f,hl,g,a,hold⟩
 .rw[h1];exact h.z
 .intro j b;by_cases e:j=i
  .subst e;rw[a];exact⟨rfl,hk⟩
  .rw[hold j e];exact h.z j ⟨b.1,by rw[<-hold j e];exact b.2⟩
theorem uV.Zi:uV DN:=by
 have a:∀i,¬Oc DN i:=λi h=>h.2 (by
  unfold bJ DN;rw[aaI,adE];split <;> rfl)
 exact⟨⟨rfl,ab3 _,λi h=>absurd h (a i),λi _ h=>absurd h (a i),λi h=>absurd h (a i),λi h=>absurd h (a i),λi _ h=>absurd h (a i)⟩,λi h=>absurd h (a i),λi h=>absurd h (a i)⟩
theorem uV.env:∀n,n<=4->uV (pE n)
 |0,_=>uV.Zi
 |i+1,h=>by
  have a:=uV.env i aQ;unfold pE;split
  .exact a.put _ _ _ _ _ aQ aQ
  .exact(a.put _ _ _ _ _ aQ aQ).put _ _ _ _ _ aQ aQ
theorem uV.Vs:∀n,uV (vQ n)
 |0=>uV.env 4 (Zw _)
 |i+1=>(uV.Vs i).put _ _ _ _ _ aQ aQ
theorem Q6(n:Nat)(o:Int):¬dH (vE n) o=true:=λh=>by
 obtain⟨i,_,_,a⟩:=oU.1 h;have:(List.replicate 32 false)[i]?=some true:=a;rw[adE] at this;split at this
 .cases this
 .cases this
theorem KQ.start(p:Nat×Nat):KQ (oK p):=by
 have h:=uV.Vs 2;exact⟨⟨h.ci,rfl,rfl,λi a=>⟨by have:=(h.z i a).1;have:=h.ci.nu i a;show(bJ (vQ 2) i).pf<(bJ (vQ 2) i).nu;omega,λhp=>absurd (h.z i a).1 hp⟩,λi j a e b=>absurd b (h.z i a).2,λi a b=>absurd b (h.z i a).2,λo ho _=>absurd ho (Q6 6 o),λx d=>by cases d⟩,λo ho=>absurd ho (Q6 6 o),h.o⟩
theorem T7(i:Nat):bE sD i=pK:=by
 unfold bE sD;rw[aaI,adE];split <;> rfl
theorem QU:∀n,(tI n).nw=0
 |0=>rfl
 |n+1=>(xZ _ _ _).trans (QU n)
theorem HQ.start(p:Nat×Nat):HQ 0 0 9 (oK p) sD:=by
 have b:(oK p).s.nw=0:=QU 4;exact⟨Kg p,KQ.start p,aQ,aQ,(λi x a=>by rw[T7] at a;cases a),rfl⟩
theorem nP.same{a:Ac}(h:nP k rs a E k' rs'):∃s,k'={k with s:=s}/\s.nw=k.s.nw/\(gQ k.s->k.s.P.length=4->gQ s/\s.P.length=4):=by
 have b:∀e,∃s,V8 k e={k with s:=s}/\s.nw=k.s.nw/\(gQ k.s->k.s.P.length=4->gQ s/\s.P.length=4):=λe=>⟨_,rfl,xZ _ _ _,λh hp=>vI h hp e true⟩
 have nn:∃s,k={k with s:=s}/\s.nw=k.s.nw/\(gQ k.s->k.s.P.length=4->gQ s/\s.P.length=4):=⟨k.s,rfl,rfl,λh hp=>⟨h,hp⟩⟩
 cases h with
 |res h=>
  unfold LN;split
  .exact⟨_,rfl,TN _ _ _ _,λh hp=>FD h hp _ _ _⟩
  .exact nn
 |Y5 h=>
  unfold PE;split
  .exact⟨_,rfl,SV _ _,λh hp=>T5 h hp _⟩
  .exact nn
 |ZD h gl sv=>exact nn
 |Bv h=>
  unfold Aa;split
  .split
   .exact nn
   .exact b _
  .exact nn
 |Y9 h B d=>
  unfold O1;split
  .exact b _
  .exact nn
 |go h=>
  unfold XT;split
  .split
   .exact nn
   .exact b _
  .exact nn
theorem nV.set(h:nV rs nl T)(d:rs.length=8){e:Nat}(he:e<8){r:Rm}(b:∀x,r.l=some x->kT x nl/\x.nw<=T):nV (rs.set e r) nl T:=λi x a=>by
 by_cases hi:e=i
 .subst hi;rw[iM aQ] at a;exact b x a
 .rw[rI hi] at a;exact h i x a
theorem Ns{e:Int}(h:r9 rs e ts od=true):(0<=e/\e<4)/\mI ts=true:=by
 unfold r9 at h;simp only[aa6,acB] at h;exact⟨h.1,h.2.2.2.1⟩
theorem nP.WX{a:Ac}(h:nP k rs a E k' rs')(hl:nV rs nl T)(b:rs.length=8)(f:0<=T):nV rs' nl T/\rs'.length=8:=by
 have nn:nV rs nl T/\rs.length=8:=⟨hl,b⟩
 cases h with
 |res h=>exact nn
 |Y5 h=>exact nn
 |ZD h gl sv=>
  unfold DJ;split
  .rename_i ho;obtain⟨he,g⟩:=Ns ho;exact⟨hl.set b aQ λx e=>by
    injection e with e;rw[<-e];exact⟨(SZ _ g).up (aaH _),f⟩,by simp[b]⟩
  .exact nn
 |Bv h=>
  unfold UA;split
  .split
   .exact nn
   .exact⟨hl.set b aQ (λx e=>by cases e),by simp[b]⟩
  .exact nn
 |Y9 h B d=>
  unfold NV;split
  .rename_i ho;have he:0<=a.env/\a.env<4:=by
    unfold xE at ho;simp only[aa6,acB] at ho;exact ho.1.1
   exact⟨hl.set b aQ (λx e=>by cases e),by simp[b]⟩
  .exact nn
 |go h=>
  unfold TD;split
  .rename_i he;split
   .exact nn
   .exact⟨hl.set b aQ λx e=>hl _ x e,by simp[b]⟩
  .exact nn
theorem KQ.same(q:KQ k)(s:Sd):KQ {k with s:=s}:=⟨q.j.same rfl rfl λx a=>a,q.d,q.o⟩
theorem nP.hq{a:Ac}(h:nP k rs a E k' rs'){t:Nat}(q:HQ t nl n k rs):HQ t nl n k' rs':=by
 obtain⟨s,rfl,b,hs⟩:=h.same;obtain⟨s1,s2⟩:=hs q.ki.sd q.ki.p4;obtain⟨l1,d⟩:=h.WX q.lb q.l8 q.n0;exact⟨q.ki.DW s1 s2,q.kq.same s,by show 0<=s.nw;rw[b];exact q.n0,by show s.nw<=_;rw[b];exact q.nw,by show nV rs' nl s.nw;rw[b];exact l1,d⟩
theorem NN(s:Sd):(gH s).2.nw=s.nw+1:=by
 unfold gH;split
 .rfl
 .split <;> rfl
theorem iN.nw{c e x:Int}(r:iN c e i x k N E k'):k'.s.nw=k.s.nw:=by
 unfold iN at r;split at r
 .rw[r.2.2]
 .split at r
  .rcases r with r|r
   .exact r.nw
   .rw[r.2.2]
  .rw[r.2.2]
theorem lZ.nw{e:Int}(r:lZ e k k'):k'.s.nw=k.s.nw:=by
 induction r with
 |refl=>rfl
 |run r L s d hs a=>exact a
 |Bl r l x N E h a=>exact h.nw.trans a
 |EE r b a=>exact(xZ _ _ _).trans a
 |tell r a=>exact(yM _ _).trans a
section
variable{c:Int}{k k':Kv}{rs rs':List Rm}{ws:List (Int×Int×Int)}{xs:List Wd}{qs:List (Int×Int×Int)}{rn:Rn}{D:List (Int×Int)}{AS:List Int}{tk nu:Int}{nT n:Nat}
theorem jN.nw(h:jN c k rs ws xs qs rn D AS tk nu nT k' rs')(b:KI k n):k'.s.nw=k.s.nw+1:=by
 obtain⟨e,h1,f⟩:=h.t;obtain⟨m,z2,z3⟩:=xY b.sd b.p4 (gD rs qs) 8;have g:k'.s.nw=e.s.nw:=by
  rcases f with⟨i,_,_,_,j,_⟩|⟨_,rfl,_⟩
  .exact j.nw
  .rfl
 rw[g];obtain⟨a,hb,_,l⟩:=h1;have d:a.s.nw=k.s.nw:=by
  rw[hb.nw,zR];exact z3
 rcases l with⟨i,z,_,_,ha⟩|⟨_,_,rfl⟩
 .rw[ha.nw];show(gH a.s).2.nw=_;rw[NN,d]
 .show(gH a.s).2.nw=_;rw[NN,d]
theorem De(x:Lb)(i:Nat):(AA x i).nw=x.nw:=by unfold AA;simp only;split <;> rfl
theorem NY(x:Lb):∀m,(eJ x m).nw=x.nw
 |0=>rfl
 |m+1=>(De _ m).trans (NY x m)
theorem Mr(x:Lb)(i:Nat):(DL x i).nw=x.nw:=by unfold DL;split <;> rfl
theorem QG(x:Lb):∀m,(eC x m).nw=x.nw
 |0=>rfl
 |m+1=>(Mr _ m).trans (QG x m)
theorem Lo(x:Lb)(i:Nat):(qG x i).nw=x.nw:=by
 unfold qG;simp only;repeat' split
 all_goals rfl
theorem Hj(x:Lb)(gv:Bool):(gG x gv).nw=x.nw+1:=by
 unfold gG;rw[QG,NY];unfold qZ;split
 .rfl
 .rw[Lo]
theorem jN.hq(h:jN c k rs ws xs qs rn D AS tk nu nT k' rs'){t:Nat}(q:HQ t nl n k rs)(g:KI k' n')(hq:qs.length<=20)(m:nl<=2600)(u:t<1048576)(b:rs'.length=8):HQ (t+1) (nl+22) n' k' rs':=by
 have v:=h.nw q.ki;have h1:=q.n0;have z:=q.nw;refine⟨g,h.kq q.ki q.kq,aQ,aQ,?_,b⟩;have f:=q.lb.asks qs q.l8;have A:(gD rs qs).length=8:=(IB qs rs).trans q.l8;have key:∀i x,(bE (iI (gD rs qs) rn.env 8) i).l=some x->kT x (nl+22)/\x.nw<=k'.s.nw:=λi x a=>by
  obtain⟨o,_⟩:=yA (rs:=gD rs qs) (e:=rn.env) i 8 aQ;rw[o] at a;split at a
  .cases hl:(bE (gD rs qs) i).l with
   |none=>rw[hl] at a;cases a
   |some y=>
    rw[hl] at a;injection a with a;obtain⟨d,p⟩:=f i y hl;rw[<-a];exact⟨(d.tick aQ aQ _).up aQ,by rw[Hj];omega⟩
  .obtain⟨d,p⟩:=f i x a;exact⟨d.up aQ,aQ⟩
 obtain⟨B,_,r⟩:=h.t;rcases r with⟨i,_,_,_,_,hC⟩|⟨_,_,rfl⟩
 .intro j x a;rw[hC.l j] at a;exact key j x a
 .exact key
end
end
theorem Ks:Vk:=λF w hb m g q p0 gl sv h hq hF=>by
 have H:=NF h (n0:=9) (M:=0) (nl:=0) (Yn p0) aQ aQ (show NQ.nw<1048576 by decide) (cR:=0) (cW:=0) (cX:=0) (cQ:=1) (ls:= []) (ws:= []) (xs:= []) (qs:= [(2,0,1)]) (AR:=none) (AW:=none) (AX:=none) (AQ:=some ⟨q,0,none⟩) ⟨Sl.nil _ _,IY,Sl.nil _ _,IY,Sl.nil _ _,IY,λz a=>(by cases a)⟩ hq hF cC (λz a=>(by cases a)) (Xq gl sv) cC;simpa only[aa9,abM,aa8] using H
structure Wm(w0:aA)(vs us:List (Int×Int×Int))(w':aA)(W2 Q2:uY):Prop where
 b:aD w0 w0 w'
 w:bI mB 3 w' w0.heap.size 172 W2.A W2.c vs
 q:bI mB 3 w' w0.heap.size 126 Q2.A Q2.c us
 nw:W2.n=vs.length
 nq:Q2.n=us.length
variable{g:Nat}{x:Lb}
section
def eT(mine:Nat)(x:Lb)(qs:List (Int×Int×Int)):Lb:=qs.foldl (λx a=>if a.1=(mine:Int) then(jD x a.2.1 a.2.2).2 else x) x
theorem Aw(b:Nat)(x:Lb)(qs:List (Int×Int×Int))(a:Int×Int×Int):eT b x (qs++ [a])=if a.1=(b:Int) then(jD (eT b x qs) a.2.1 a.2.2).2 else eT b x qs:=by
 unfold eT;rw[acC];rfl
theorem YF{α:Type}{p:Prop}[Decidable p](h:¬p)(a:Option α)(f:α->α):(a.map λx=>if p then f x else x)=a:=by
 cases a <;> simp[h]
theorem Ow(e:rs.length=8)(hm:g<4)(a:Int×Int×Int):(bE (pX rs a.1 a.2.1 a.2.2) g).l=(bE rs g).l.map λx=>if a.1=(g:Int) then(jD x a.2.1 a.2.2).2 else x:=by
 unfold pX;by_cases hc:0<=a.1/\a.1<4
 .rw[Zz hc];obtain⟨n,d⟩:=aaB hc.1;rw[d,aaG];by_cases b:n=g
  .subst b;cases hl:(bE rs n).l with
   |none=>simp only[abT];exact hl
   |some x=>
    simp only[aa4];unfold rS;rw[iM aQ,Zz trivial]
  .rw[YF aQ];cases hl:(bE rs n).l with
   |none=>rfl
   |some x=>
    simp only;unfold rS;rw[rI b]
 .rw[aaA hc,YF aQ]
theorem Av(rs:List Rm)(e t d:Int):(pX rs e t d).length=rs.length:=by
 unfold pX;split
 .split
  .rfl
  .unfold rS;rw[aaL]
 .rfl
theorem EJ(hm:g<4):∀(qs:List (Int×Int×Int)) {rs:List Rm},rs.length=8->(bE (gD rs qs) g).l=(bE rs g).l.map λx=>eT g x qs
 | [],rs,_=>by
  show(bE rs g).l=(bE rs g).l.map λx=>x
  cases (bE rs g).l <;> rfl
 |a::qs,rs,b=>by
  show(bE (gD (pX rs a.1 a.2.1 a.2.2) qs) g).l=_;rw[EJ hm qs (by rw[Av];exact b),Ow b hm,Option.map_map];rfl
theorem TC:∀(qs:List (Int×Int×Int)) (rs:List Rm) (k:Nat) (hk:k<qs.length),(lM rs qs)[k]?=some (CO (gD rs (qs.take k)) qs[k].1 qs[k].2.1 qs[k].2.2)
 |a::qs,rs,0,_=>rfl
 |a::qs,rs,k+1,hk=>by
  show(lM (pX rs a.1 a.2.1 a.2.2) qs)[k]?=_;rw[TC qs _ k (by simpa using hk)];rfl
theorem ZN(a:rs.length=8)(hm:g<4)(hl:(bE rs g).l=some x){k:Nat}(hk:k<qs.length)(he:qs[k].1=(g:Int)):(lM rs qs)[k]?=some (jD (eT g x (qs.take k)) qs[k].2.1 qs[k].2.2).1:=by
 rw[TC qs rs k hk,he];unfold CO;rw[Zz aQ,aaG,EJ hm _ a,hl];rfl
theorem OE(hl:(bE rs g).l=some x):∀n,g<n->n<=rs.length->lN rs (g:Int) n=iV x (gY x true)
 |n+1,hn,h8=>by
  show M1 (iI rs (g:Int) n) (g:Int) n (lN rs (g:Int) n)=_;by_cases a:g=n
  .subst a;have h1:=(yA (rs:=rs) (e:=(g:Int)) g g aQ).1;rw[aaA (abX _),hl] at h1;unfold M1;rw[h1];simp only[decide_true,abI]
  .have b:=OE hl n aQ aQ;unfold M1;split
   .exact b
   .rw[aaA aQ];exact b
section
variable{c:Int}{k k':Kv}{rs rs':List Rm}{ws:List (Int×Int×Int)}{xs:List Wd}{qs:List (Int×Int×Int)}{rn:Rn}{D:List (Int×Int)}{AS:List Int}{tk nu:Int}{nT:Nat}
theorem jN.alone(h:jN c k rs ws xs qs rn D AS tk nu nT k' rs')(a:rs.length=8)(hm:g<4):
 ((bE rs' g).l=(bE rs g).l.map λx=>gG (eT g x qs) (decide (rn.env=(g:Int))))/\∀x,(bE rs g).l=some x->rn.env=(g:Int)->(tk,nu)=iV (eT g x qs) (gY (eT g x qs) true):=by
 have d:(gD rs qs).length=8:=(IB qs rs).trans a;have h1:(bE (iI (gD rs qs) rn.env 8) g).l=(bE rs g).l.map λx=>gG (eT g x qs) (decide (rn.env=(g:Int))):=by
  rw[(yA (rs:=gD rs qs) (e:=rn.env) g 8 aQ).1,Zz aQ,EJ hm qs a,Option.map_map];rfl
 refine⟨?_,λx hl he=>?_⟩
 .obtain⟨f,_,b⟩:=h.t;rcases b with⟨i,_,_,_,_,hC⟩|⟨_,_,rfl⟩
  .rw[hC.l g];exact h1
  .exact h1
 .rw[h.j,he];refine OE ?_ 8 aQ aQ;rw[EJ hm qs a,hl];rfl
end
theorem nP.alone{a:Ac}(h:nP k rs a E k' rs')(hs:gQ k.s)(hp:k.s.P.length=4)(x:rs.length=8)(hm:g<4):
 ((E≠0\/a.env≠(g:Int)\/(a.kd≠3/\a.kd≠4))->(bE rs' g).l=(bE rs g).l)/\
 (E=0->a.env=(g:Int)->a.kd=3->(mI (a.ts.map Tm.t)=true/\(a.od%2=0\/a.od%2=1))/\(bE rs' g).l=some (kD (a.ts.map Tm.t) (a.od%2)))/\
 (E=0->a.env=(g:Int)->a.kd=4->(bE rs' g).l=none):=by
 have j:∀n:Nat,n<4->xL k.s (n:Int)=0:=λn m=>by
  unfold xL MO;rw[Zz bT]
 have ne:∀(n:Nat) (r:Rm),n≠g->(bE (rs.set n r) g).l=(bE rs g).l:=λn r m=>by rw[rI m]
 cases h with
 |res h=>exact⟨λ_=>rfl,λ_ _ b=>by omega,λ_ _ b=>by omega⟩
 |Y5 h=>exact⟨λ_=>rfl,λ_ _ b=>by omega,λ_ _ b=>by omega⟩
 |ZD h gl sv=>
  by_cases ho:r9 rs a.env (a.ts.map Tm.t) (a.od%2)=true
  .unfold DJ;rw[Zz ho];have i:=ho;unfold r9 at i;simp only[aa6,acB] at i;obtain⟨o1,o2,o3,o,p⟩:=i;have f:uN rs a.env (a.ts.map Tm.t) (a.od%2)=0:=by
    unfold uN;rw[Zz o1,Zz o2,Zz o3,Zz ⟨o,p⟩]
   refine⟨λe=>?_,λ_ he _=>⟨⟨o,p⟩,?_⟩,λ_ _ q=>by omega⟩
   .rcases e with e|e|e
    .exact absurd f e
    .exact ne _ _ aQ
    .omega
   .rw[he,aaG,iM aQ];rfl
  .unfold DJ;rw[aaA ho];refine⟨λ_=>rfl,λf he _=>?_,λ_ _ q=>by omega⟩;exfalso
   apply ho;unfold uN at f;unfold r9;rw[he] at f⊢;rw[Zz aQ] at f;split at f
   .rename_i h1;split at f
    .rename_i u;split at f
     .rename_i b;simp only[aa6,acB];exact⟨aQ,h1,u,b.1,b.2⟩
     .omega
    .omega
   .omega
 |Bv h=>
  unfold UA NW;by_cases hc:0<=a.env/\a.env<4
  .rw[Zz hc,Zz hc];by_cases hl:(bE rs a.env.toNat).l.isNone=true
   .rw[Zz hl,Zz hl];exact⟨λ_=>rfl,λ_ _ b=>by omega,λh1 _ _=>by omega⟩
   .rw[aaA hl,aaA hl];have v:xL k.s a.env=0:=by
     have:=j a.env.toNat aQ;rwa [show((a.env.toNat:Nat):Int)=a.env by omega] at this
    refine⟨λe=>?_,λ_ _ b=>by omega,λ_ he _=>?_⟩
    .rcases e with e|e|e
     .exact absurd v e
     .exact ne _ _ aQ
     .omega
    .rw[he,aaG,iM aQ];rfl
  .rw[aaA hc,aaA hc];exact⟨λ_=>rfl,λ_ _ b=>by omega,λh1 _ _=>by omega⟩
 |Y9 h B d=>
  refine⟨λ_=>?_,λ_ _ b=>by omega,λ_ _ b=>by omega⟩;unfold NV;split
  .rename_i ho;unfold xE at ho;simp only[aa6,acB] at ho;obtain⟨⟨o1,o2⟩,_⟩:=ho;by_cases he:a.env.toNat=g
   .rw[he] at o2⊢;rw[iM aQ];rw[ac8] at o2;rw[o2];rfl
   .exact ne _ _ he
  .rfl
 |go h=>
  refine⟨λ_=>?_,λ_ _ b=>absurd b h.2.2.1,λ_ _ b=>absurd b h.2.2.2.1⟩;unfold TD;split
  .split
   .rfl
   .by_cases he:a.env.toNat=g
    .rw[he,iM aQ]
    .exact ne _ _ he
  .rfl
end
variable{q g1 g2:Nat}{y y1 y2:La}{F1 F2:Nat->Prop}{w:aA}
section
section
variable{F G:Nat->Prop}{w w':aA}{hb m g:Nat}{c:Int}{k:Kv}{rs:List Rm}{ro:Rm}
theorem iK.drop{p:Pt}(h:iK F w hb m g c k rs [p]):iK F w hb m g c k rs []:=⟨h.ob.reorder id id λi q hq=>by
 match i,hq with
 |0,hq=>exact⟨hq,rfl⟩⟩
theorem iK.take(h:iK F w hb m g c k rs [jB ro])(a:aD w w w')(e:bR (λb=>b<w.heap.size) w' q x y):iK F w' hb m g c k rs [jB {pK with l:=some x,g:=q}]:=
 ⟨h.drop.ob.add (p:=jB {pK with l:=some x,g:=q}) ⟨λb hb=>Zy hb a.size,λz d=>by injection d with d;subst d;exact⟨y,e⟩⟩ a⟩
theorem iK.Kb(h:iK F w hb m g c k rs []):iK F w hb m g c k rs [jB pK]:=
 ⟨h.ob.add (p:=jB pK) ⟨λb hb=>hb,λz a=>by cases a⟩ (Below.refl _ _)⟩
theorem iK.Aj(h:iK F w hb m g c k rs [jB ro])(hl:ro.l=some x):∃G y,bR G w ro.g x y/\∀(b:Lb) (w':aA),(∃d,bR G w' ro.g b d)->Kp G w w'->iK F w' hb m g c k rs [jB {ro with l:=some b}]/\Kp F w w':=by
 obtain⟨G,f,back⟩:=h.ob.use 1 (jB ro) rfl;obtain⟨y,i⟩:=f.2 x hl;refine⟨G,y,i,λb w' ⟨d,a⟩ k2=>?_⟩;obtain⟨b1,b2⟩:=back (jB {ro with l:=some b}) w' ⟨a.o.fl,λz e=>by injection e with e;subst e;exact⟨d,a⟩⟩ k2;exact⟨⟨b1⟩,b2⟩
end
theorem V6(h1:bR F1 w g1 x y1)(v:bR F2 w g2 x y2)(hl:x.jb.length<=1000000):
 aG prog 29 #[.pointer g1, .pointer g2] w λr w'=>r= .returned (.bool true)/\aD w w w':=by
 have q:aH (∀W,aD w w W->aG prog 62 #[.pointer g1] W λr w'=>∃B d,r= .returned (.slice B x.jb.length d)/\aH (Sl CE 10 w' B x.jb/\aD W.heap.size W w')):=λW h=>(M8 (h1.below h) hl).mono λe w' ⟨B,d,r1,y,z⟩=>⟨B,d,r1,y.sl F4,z⟩
 have s:aH (∀W,aD w w W->aG prog 62 #[.pointer g2] W λr w'=>∃B d,r= .returned (.slice B x.jb.length d)/\aH (Sl CE 10 w' B x.jb/\aD W.heap.size W w')):=λW h=>(M8 (v.below h) hl).mono λe w' ⟨B,d,r1,y,z⟩=>⟨B,d,r1,y.sl F4,z⟩
 have A:aH (∀W,aD w w W->aG prog 63 #[.pointer g1] W λr w'=>r= .returned (.int .i64 x.nw)/\W=w'):=λW h=>PM (h1.below h)
 have C:aH (∀W,aD w w W->aG prog 63 #[.pointer g2] W λr w'=>r= .returned (.int .i64 x.nw)/\W=w'):=λW h=>PM (v.below h)
 generalize x.nw=nw at *;clear h1 v;have H:(x.jb.length:Int)<=1000000:=aQ;clear hl;generalize x.jb=L at *;go_enter func29,ntmps29
 go_upto_region 2 with(first|(go_at_call 62;(with_reducible refine(q.o _ (Below.refl _ _)).mono ?_);rintro r J ⟨I,d1,rfl,a⟩)|(go_at_call 62;(with_reducible refine(s.o _ a.o.2).mono ?_);rintro r u ⟨K,d2,rfl,l⟩))
 have n:aH (aD w w u):=a.o.2.trans (l.o.2.mono a.o.2.size);have D:aH (Sl CE 10 u I L):=a.o.1.keep l.o.2;clear q s a;go_wp2_with fail
 go_loopw [7] (λE wr=>∃i:Nat,E= .int .i64 i/\i<=L.length/\aH (aD u u wr)) (λE _=>L.length - (intOf E).toNat)
 case atStart=>exact⟨0,rfl,aaH _,Below.refl _ _⟩
 case round=>
  obtain⟨i,rfl,hi,p⟩:=hrel;have i0:(0:Int)<=i:=aQ;by_cases t:i<L.length
  .as_aux_lemma=>
   have i1:(i:Int)<(L.length:Int):=aQ;obtain⟨b1,o1,rfl,b⟩:=(D.o.keep p.o).cells t;obtain⟨b2,o2,rfl,f⟩:=(l.o.1.keep p.o).cells t;generalize L[i]=j at *;have M:wr.cell? (b1,o1+i *10)=some (.int .i64 j.tk):=b 0 _ rfl;have N:wr.cell? (b1,o1+i *10+1)=some (.int .i64 j.nu):=b 1 _ rfl;have O:wr.cell? (b1,o1+i *10+3)=some (.int .i64 j.de):=b 3 _ rfl;have P:wr.cell? (b1,o1+i *10+4)=some (.int .i64 j.ra):=b 4 _ rfl;have Q:wr.cell? (b1,o1+i *10+6)=some (.int .i64 j.lf):=b 6 _ rfl;have R:wr.cell? (b1,o1+i *10+7)=some (.bool j.bg):=b 7 _ rfl;have S:wr.cell? (b1,o1+i *10+8)=some (.bool j.bh):=b 8 _ rfl;have T:wr.cell? (b2,o2+i *10)=some (.int .i64 j.tk):=f 0 _ rfl;have y1:wr.cell? (b2,o2+i *10+1)=some (.int .i64 j.nu):=f 1 _ rfl;have U:wr.cell? (b2,o2+i *10+3)=some (.int .i64 j.de):=f 3 _ rfl;have V:wr.cell? (b2,o2+i *10+4)=some (.int .i64 j.ra):=f 4 _ rfl;have X:wr.cell? (b2,o2+i *10+6)=some (.int .i64 j.lf):=f 6 _ rfl;have Y:wr.cell? (b2,o2+i *10+7)=some (.bool j.bg):=f 7 _ rfl;have Z:wr.cell? (b2,o2+i *10+8)=some (.bool j.bh):=f 8 _ rfl;clear b f;go_upto_region 5 with(fail)
   go_quiet (fail)
   go_wp2_with fail
   exact⟨⟨i+1,rfl,aQ,fD p.o _⟩,by simp only[intOf];omega⟩
  .as_aux_lemma=>
   obtain rfl:i=L.length:=aQ;have i1:¬(L.length:Int)<(L.length:Int):=aQ;go_wp2_with(first|(go_at_call 63;(with_reducible refine(A.o _ (n.o.trans (p.o.mono n.o.size))).mono ?_);rintro r w5 ⟨rfl,rfl⟩)|(go_at_call 63;(with_reducible refine(C.o _ (n.o.trans (p.o.mono n.o.size))).mono ?_);rintro r w5 ⟨rfl,rfl⟩))
   go_ret
   exact⟨rfl,n.o.trans (p.o.mono n.o.size)⟩
end
end
end Go.Proofs.YtacgiflhgdaeaaaGreat
