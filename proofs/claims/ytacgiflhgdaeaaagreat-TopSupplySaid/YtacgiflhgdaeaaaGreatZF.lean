/- TopSupply answers true at every number of calls and list of acts: who has a reservation, and is ready in so many ticks side by side, is charged at least its least of these, and at most its most in any, whatever words of all environments ask, whatever is raised, and wanted. No condition. -/
import Derived.Test.YtacgiflhgdaeaaaGreatZ30
import Derived.Test.YtacgiflhgdaeaaaGreatZ34
set_option linter.unusedVariables false
set_option linter.unusedSimpArgs false
set_option maxRecDepth 100000
set_option maxHeartbeats 20000000
namespace Go.Proofs.YtacgiflhgdaeaaaGreat
open Go.Proofs.Tryz
open Go renaming World->aA,Calls->aG
open Go.RowKit renaming Below->aD,Hid->aH,intOf->aL
open Go.Obj renaming cells->aI
section
open Go.RowKit Go.Lib Go.Shelf dH Fr Up Nt
theorem Ej:Xi:=λF w b m g q p0 gl sv h hq hF=>by
 have H:=J1 h (n0:=9) (M:=0) (nl:=0) (Yw p0) aQ aQ (show N9.nw<1048576 by decide) (cR:=0) (cW:=0) (cX:=0) (cQ:=1) (ls:= []) (ws:= []) (xs:= []) (qs:= [(2,0,1)]) (AR:=none) (AW:=none) (AX:=none) (AQ:=some ⟨q,0,none⟩) ⟨Sl.nil _ _,tN,Sl.nil _ _,tN,Sl.nil _ _,tN,λz a=>(by cases a)⟩ hq hF cD (λz a=>(by cases a)) (λi hi=>by rw[GB];rcases(show i=0\/i=1\/i=2\/i=3 by omega) with rfl|rfl|rfl|rfl <;> rfl) (Ym gl sv) cD;simpa only[abM,ab5,abQ] using H
variable{n t' n' i hb m g q:Nat}{gs la:List Gv}{F:Nat->Prop}{w w':aA}{A:Option Addr}
section
structure xR(t n:Nat)(k:Kv)(gs:List Gv):Prop where
 nl:NL k.s
 nw:k.s.nw<=t
 ki:KI k n
 gv:kH k.s (gs.map Gv.k)
theorem xR.mono{t:Nat}{k:Kv}(h:xR t n k gs)(b:t<=t')(a:n<=n'):xR t' n' k gs:=⟨h.nl,by have:=h.nw;omega,h.ki.mono a,h.gv⟩
theorem KI.Kt{k:Kv}(h:KI k n)(e bu pe:Int)(N:NL (lV k e bu pe).s):KI (lV k e bu pe) n:=by
 unfold lV at *;split at N
 .rename_i he;rw[aaK he];exact h.LH N.i N.p4
 .rename_i he;rw[aaL he];exact h
theorem KI.Zs{k:Kv}(h:KI k n)(e:Int)(N:NL (mN k e).s):KI (mN k e) n:=by
 unfold mN at *;split at N
 .rename_i he;rw[aaK he];exact h.LH N.i N.p4
 .rename_i he;rw[aaL he];exact h
theorem xR.QS{k:Kv}(h:xR (8 *i) (9+1000 *i) k gs)(e bu pe:Int)(N:NL (lV k e bu pe).s)(a:(lV k e bu pe).s.nw=k.s.nw)(g:kH (lV k e bu pe).s (la.map Gv.k)):xR (8 *(i+1)) (9+1000 *(i+1)) (lV k e bu pe) la:=
 ⟨N,by rw[a];have:=h.nw;omega,(h.ki.Kt e bu pe N).mono aQ,g⟩
theorem xR.Q6{k:Kv}(h:xR (8 *i) (9+1000 *i) k gs)(e:Int)(N:NL (mN k e).s)(a:(mN k e).s.nw=k.s.nw)(g:kH (mN k e).s (la.map Gv.k)):xR (8 *(i+1)) (9+1000 *(i+1)) (mN k e) la:=
 ⟨N,by rw[a];have:=h.nw;omega,(h.ki.Zs e N).mono aQ,g⟩
theorem xR.start(p:Nat×Nat):xR (8 *0) (9+1000 *0) (pY p) BM:=⟨TW 4,by show(qW 4).nw<=_;rw[U8];exact ab0 _,Ll p,kH.start p⟩
theorem jB.row{c:Int}{k:Kv}{r:Nat}(h:jB F w hb m g c k q gs)(a:w.grownBy w' (some r))(d:F r):jB F w' hb m g c k q gs:=
 ⟨dV.gr (Ob.bX _) h.ob a (λq hq=>by injection hq with hq;rw[<-hq];exact d) (λb hb=>aaJ (h.fl b hb) a.size) (λ_ _ hb=>hb)⟩
structure Wn(w0:aA)(vs us:List (Int×Int×Int))(w':aA)(W2 Q2:uL):Prop where
 b:aD w0 w0 w'
 w:bB kR 3 w' w0.heap.size 172 W2.A W2.c vs
 q:bB kR 3 w' w0.heap.size 126 Q2.A Q2.c us
 nw:W2.n=vs.length
 nq:Q2.n=us.length
def BB(s:Sd)(e:Nat):List Bool:=(List.range 4).map λi=>decide (i<e)&&iI s (i:Nat)
theorem Pr(s:Sd){e:Nat}(he:e<4):(BB s e).set e (iI s (e:Nat))=BB s (e+1):=by
 rcases(show e=0\/e=1\/e=2\/e=3 by omega) with rfl|rfl|rfl|rfl <;> simp[BB,acT]
theorem Ub(s:Sd):∀(i:Nat) (p:Pv),s.P[i]?=some p->(BB s 4).getD i false=true->p.rd=true:=λi p hp h=>by
 unfold BB at h;rw[aaU,ab7] at h;by_cases hi:i<4
 .rw[List.getElem?_range hi] at h;simp[hi,iI,hp] at h;exact h
 .rw[abZ bL] at h;simp at h
theorem Hp(cl:Int)(hcl:0<=cl/\cl<=255){l:List Ac}(cap:Nat)(w:aA)(h:Sl OH 12 w A l/\∀b,jU A l.length=some b->b<w.heap.size)(hA:∀a∈l,uU (λb=>b<w.heap.size) w a):
 aG prog 6 #[.int .u8 cl,(A,l.length,cap)] w λr w'=>r= .returned (.bool true)/\aD w w w':=by
 have HAw:=aP (Aj Ej);have HS:=bH h hA;have h8:Int.tmod cl 8=cl%8:=Int.tmod_eq_emod_of_nonneg hcl.1;have d0:0<=cl%8:=aQ;have d1:cl%8<8:=aQ;have HBg:aH (∀W,aG prog 8 #[.int .i64 (1+cl%8)] W λe w'=>∃f m g p0,e= .returned (.pointer (some ⟨f,0,none⟩))/\cE (λb=>b<W.heap.size) w' f m g (1+cl%8) (pY p0) jT/\aD W.heap.size W w'):=λW=>LM W _ aQ
 have HCl:=aP hcl;clear h hA hcl;generalize cl%8=d at *;go_enter func6,ntmps6
 go_upto_region 3 with(go_at_call 7;(refine aS (HAw.o _) ?_);rintro r C ⟨rfl,hb2⟩)
 go_upto_region 4 with(go_at_call 8;(refine aS (HBg.o _) ?_);rintro r w3 ⟨f,m,g,p0,rfl,hH,hb3⟩)
 have ab:aH (aD w w w3):=hb2.trans (hb3.mono hb2.size);have L:aH (Sl OH 12 w3 A l/\∀a∈l,uU (λb=>b<w3.heap.size) w3 a):=⟨HS.o.1.1.keep ab.o,λa ha=>((HS.o.2 a ha).kp (Kp.dD ab.o λb f=>f)).up λb f=>aaJ f ab.o.size⟩
 have HLi:=aP (XQ cap w3 L.o.1 L.o.2);have HHo:=aP hH;have HZ2:aH (w.heap.size<=C.heap.size):=hb2.size;clear hH hb2 hb3;go_upto_if 28 with(go_at_call 9;(refine aR HLi ?_);rintro r w4 ⟨lb,rfl,hlb,hb4⟩)
 have HLb:=aP hlb;have HB4:=aP hb4;clear hlb hb4;generalize hnb:(!lb)=nb at *;cases nb with
 |true=>
  go_wp2_with(go_at_call 7;(refine aS (HAw.o _) ?_);rintro r w5 ⟨rfl,hb5⟩)
  go_ret
  exact⟨rfl,ab.o.trans ((HB4.o.mono ab.o.size).trans (hb5.mono (aaR ab.o.size HB4.o.size)))⟩
 |false=>
  have hlb:lb=true:=by simpa using hnb
  subst hlb;clear hnb;have HSp:=aP (jB.start (HHo.o.Sz HB4.o));go_upto_region 7 with(fail)
  have eG:(BM.flatMap oU).toArray=(#[aU,aU,false,bA,aU,aU,aU,false,bA,aU,aU,aU,false,bA,aU,aU,aU,false,bA,aU]:Array Value):=rfl;rw[eG] at HSp;have HB5:aH (aD w w (w4.alloc (aI #[aU,aU,false,bA,aU,aU,aU,false,bA,aU,aU,aU,false,bA,aU,aU,aU,false,bA,aU] 115))):=ab.o.trans ((HB4.o.mono ab.o.size).trans ((aX w4 _).mono (aaR ab.o.size HB4.o.size)));generalize w4.alloc (aI #[aU,aU,false,bA,aU,aU,aU,false,bA,aU,aU,aU,false,bA,aU,aU,aU,false,bA,aU] 115)=w5 at *;generalize w4.heap.size=q at *;have HA5:aH (Sl OH 12 w5 A l/\(∀b,jU A l.length=some b->b<C.heap.size)/\∀a∈l,uU (λb=>b<C.heap.size) w5 a):=⟨HS.o.1.1.keep HB5.o,λb f=>aaJ (HS.o.1.2 b f) HZ2.o,λa ha=>((HS.o.2 a ha).kp (Kp.dD HB5.o λb f=>f)).up λb f=>aaJ f HZ2.o⟩
  have HLL:aH (l.length<=60/\∀a∈l,EN a):=HLb.o (by trivial);clear eG HLi HBg HS L HLb;go_wp2_with fail
  go_loopw [7] (λv7 wr=>∃(i:Nat) (gs:List Gv) (k:Kv),v7= .int .i64 i/\i<=l.length/\aH (jB (λb=>b<C.heap.size) wr f m g (1+d) k q gs/\xR (8 *i) (9+1000 *i) k gs/\Kp (λb=>b<C.heap.size) w5 wr)) (λv7 _=>l.length - (aL v7).toNat)
  case atStart=>exact⟨0,BM,pY p0,rfl,aaQ _,HSp.o.1,xR.start p0,Kp.refl _ _⟩
  case round=>
   obtain⟨i,gs,k,rfl,hi,K⟩:=hrel;by_cases hin:i<l.length
   .have hSl:=HA5.o.1.xC K.o.2.2 HA5.o.2.1;obtain⟨b,off,rfl,hc⟩:=hSl.cells hin;have hok:=(HA5.o.2.2 l[i] (aaM hin)).kp K.o.2.2;have hLt:=HLL.o.2 l[i] (aaM hin);generalize l[i]=a at *;obtain⟨kd,env,n,bu,pe,TA,Tc,ts,od,CA,Cc,cs,RA,Rc,B,WA,Wc,ws,XA,Xc,xs,QA,Qc,qs⟩:=a;have a0:wr.cell? ⟨b,off+i *12,none⟩=some (.int .i64 kd):=hc 0 _ rfl;have a1:wr.cell? ⟨b,off+i *12+1,none⟩=some (.int .i64 env):=hc 1 _ rfl;have a2:wr.cell? ⟨b,off+i *12+2,none⟩=some (.int .u8 n):=hc 2 _ rfl;have a3:wr.cell? ⟨b,off+i *12+3,none⟩=some (.int .i64 bu):=hc 3 _ rfl;have a4:wr.cell? ⟨b,off+i *12+4,none⟩=some (.int .i64 pe):=hc 4 _ rfl;have a5:wr.cell? ⟨b,off+i *12+5,none⟩=some (.slice TA ts.length Tc):=hc 5 _ rfl;have a6:wr.cell? ⟨b,off+i *12+6,none⟩=some (.int .u8 od):=hc 6 _ rfl;have a7:wr.cell? ⟨b,off+i *12+7,none⟩=some (.slice CA cs.length Cc):=hc 7 _ rfl;have a8:wr.cell? ⟨b,off+i *12+8,none⟩=some (.slice RA B.length Rc):=hc 8 _ rfl;have a9:wr.cell? ⟨b,off+i *12+9,none⟩=some (.slice WA ws.length Wc):=hc 9 _ rfl;have a10:wr.cell? ⟨b,off+i *12+10,none⟩=some (.slice XA xs.length Xc):=hc 10 _ rfl;have a11:wr.cell? ⟨b,off+i *12+11,none⟩=some (.slice QA qs.length Qc):=hc 11 _ rfl;have DW:=bH hok hLt;have j0:(0:Int)<=i:=aQ;have j1:(i:Int)<(l.length:Int):=aQ;have jb:(l.length:Int)<=60:=by have:=HLL.o.1;omega
    clear hc hSl hok hLt;go_upto_region 11 with(fail)
    have HB6:=aP (K.o.1.below (aX wr (aI #[kd,env, .int .u8 n,bu,pe,(TA,ts.length,Tc), .int .u8 od,(CA,cs.length,Cc),(RA,B.length,Rc),(WA,ws.length,Wc),(XA,xs.length,Xc),(QA,qs.length,Qc)] 44))).2;have u:=aP (bC.new wr 44 #[kd,env, .int .u8 n,bu,pe,(TA,ts.length,Tc), .int .u8 od,(CA,cs.length,Cc),(RA,B.length,Rc),(WA,ws.length,Wc),(XA,xs.length,Xc),(QA,qs.length,Qc)]);have HSb:=aP (K.o.1.box (aI #[kd,env, .int .u8 n,bu,pe,(TA,ts.length,Tc), .int .u8 od,(CA,cs.length,Cc),(RA,B.length,Rc),(WA,ws.length,Wc),(XA,xs.length,Xc),(QA,qs.length,Qc)] 44));have c0:=u.o.cell 0 kd rfl;clear a0 a1 a2 a3 a4 a5 a6 a7 a8 a9 a10 a11;generalize wr.alloc (aI #[kd,env, .int .u8 n,bu,pe,(TA,ts.length,Tc), .int .u8 od,(CA,cs.length,Cc),(RA,B.length,Rc),(WA,ws.length,Wc),(XA,xs.length,Xc),(QA,qs.length,Qc)] 44)=w6 at *;generalize wr.heap.size=qa at *;by_cases hk1:kd=1
    .subst hk1;have c1:=u.o.cell 1 env rfl;have c2:=u.o.cell 2 (.int .u8 n) rfl;have c3:=u.o.cell 3 bu rfl;have c4:=u.o.cell 4 pe rfl;have c5:=u.o.cell 5 (.slice TA ts.length Tc) rfl;have c6:=u.o.cell 6 (.int .u8 od) rfl;have c7:=u.o.cell 7 (.slice CA cs.length Cc) rfl;have c8:=u.o.cell 8 (.slice RA B.length Rc) rfl;have c9:=u.o.cell 9 (.slice WA ws.length Wc) rfl;have vD:=u.o.cell 10 (.slice XA xs.length Xc) rfl;have c11:=u.o.cell 11 (.slice QA qs.length Qc) rfl;obtain⟨G,hsub,hG,back⟩:=HSb.o.ho;have hAc:aG prog 12 #[.pointer (some ⟨f,0,none⟩), .agg #[.int .i64 1,env, .int .u8 n,bu,pe,(TA,ts.length,Tc), .int .u8 od,(CA,cs.length,Cc),(RA,B.length,Rc),(WA,ws.length,Wc),(XA,xs.length,Xc),(QA,qs.length,Qc)]] w6 (ES G f m g (1+d) (lV k env bu pe) jT (.int .i64 (CO k env bu pe)) w6):=Jm hG K.o.2.1.ki.sd ⟨1,env,n,bu,pe,TA,Tc,ts,od,CA,Cc,cs,RA,Rc,B,WA,Wc,ws,XA,Xc,xs,QA,Qc,qs⟩ rfl;obtain⟨ee,hee⟩:∃ee,ee=CO k env bu pe:=⟨_,rfl⟩
     rw[<-hee] at hAc;have L:=aP hAc;have ad:=aP hee;have N:=bH hsub back;have HIn:=aP (λW=>AZ env W);clear hAc hee hsub back hG;go_upto_region 12 with(fail)
     go_cut [60] (λs60 wx=>∃bv:Bool,s60= .bool bv/\aH (bv=decide (ee=0/\(0<=env/\env<4)))/\aH (jB (λb=>b<C.heap.size) wx f m g (1+d) (lV k env bu pe) q gs/\Kp (λb=>b<C.heap.size) w5 wx/\bC wx qa 44 #[.int .i64 1,env, .int .u8 n,bu,pe,(TA,ts.length,Tc), .int .u8 od,(CA,cs.length,Cc),(RA,B.length,Rc),(WA,ws.length,Wc),(XA,xs.length,Xc),(QA,qs.length,Qc)]))
     case first=>
      by_cases hE:ee=0
      .subst hE;go_wp2_with(first|(go_at_call 12;(refine aR L ?_);rintro r Z ⟨rfl,h7,k7⟩;(have O:=k7.aZ u.o (N.o.1 qa (.inr rfl)));(replace c1:=O.cell 1 env rfl))|(go_at_call 19;(refine aS (HIn.o _) ?_);rintro r w8 ⟨rfl,rfl⟩))
       go_meet
       obtain⟨b1,b2⟩:=N.o.2 (lV k env bu pe) Z (λ_=>False) (λ_ h=>h.elim) (h7.less λb f=>f.elim id False.elim) k7;have k9:Kp (λb=>b<C.heap.size) w5 Z:=K.o.2.2.trans (HB6.o.trans (b2.mono λb f=> .inl f));exact⟨decide (0<=env/\env<4),aT,by unfold aH;simp,b1.less λb f=> .inl (.inl f),k9,O⟩
      .have hEb:(ee==0)=false:=by simpa using hE
       have HE0:=aP hE;clear hE;go_wp2_with(first|(go_at_call 12;(refine aR L ?_);rintro r Z ⟨rfl,h7,k7⟩;(have O:=k7.aZ u.o (N.o.1 qa (.inr rfl)));(replace c1:=O.cell 1 env rfl))|(go_at_call 19;(refine aS (HIn.o _) ?_);rintro r w8 ⟨rfl,rfl⟩))
       go_meet
       obtain⟨b1,b2⟩:=N.o.2 (lV k env bu pe) Z (λ_=>False) (λ_ h=>h.elim) (h7.less λb f=>f.elim id False.elim) k7;have k9:Kp (λb=>b<C.heap.size) w5 Z:=K.o.2.2.trans (HB6.o.trans (b2.mono λb f=> .inl f));exact⟨false,rfl,(aa0 (λh=>HE0.o h.1)).symm,b1.less λb f=> .inl (.inl f),k9,O⟩
     case rest=>
     obtain⟨bv,rfl,ae,P⟩:=hcut;clear c0 c1 c2 c3 c4 c5 c6 c7 c8 c9 vD c11 L HIn N u;go_upto_if 60 with(fail)
     cases bv with
     |true=>
      have af:=acC ae.o.symm;obtain⟨hE,he0,he4⟩:=af;have t:=(K.o.2.1.gv.QS K.o.2.1.nl env bu pe)
      rw[aaK ⟨ad.o.symm.trans hE,he0,he4⟩] at t;have t:=aP t;obtain⟨e,rfl⟩:=aaO he0;have E:e<4:=aQ;have c0:=P.o.2.2.cell 0 (.int .i64 1) rfl;have c1:=P.o.2.2.cell 1 (.int .i64 (e:Int)) rfl;have c3:=P.o.2.2.cell 3 bu rfl;have c4:=P.o.2.2.cell 4 pe rfl;obtain⟨G2,hs2,v,U⟩:=P.o.1.gv;obtain⟨yy,hy⟩:∃yy,gs[e]?=some yy:=⟨_,aaG (by rw[v.l];exact E)⟩
      have g0:wc.cell? (q,e *5)=some (.int .i64 yy.bu):=v.c E (j:=0) aQ hy rfl;have g1:=v.c E (j:=1) aQ hy rfl;have g2:=v.c E (j:=2) aQ hy rfl;have g3:=v.c E (j:=3) aQ hy rfl;have g4:=v.c E (j:=4) aQ hy rfl;have z0:=v.fz (e *5);have z1:=v.fz (e *5+1);have z2:=v.fz (e *5+2);have z3:=v.fz (e *5+3);have z4:=v.fz (e *5+4);have h5:=v.QM E bu pe true;have HS5:=aP (U _ _ h5.1 h5.2);clear h5 hy v U hE ad ae;go_wp2_with fail
      exact⟨⟨i+1,gs.set e ⟨bu,pe,true,nU,0, []⟩,lV k e bu pe,rfl,aQ,HS5.o.1,K.o.2.1.QS _ _ _ t.o.1 t.o.2.1 (by rw[ab1];exact t.o.2.2),P.o.2.1.trans HS5.o.2⟩,by simp only[aL];omega⟩
     |false=>
      have af:=adJ ae.o.symm;have t:=(K.o.2.1.gv.QS K.o.2.1.nl env bu pe)
      rw[aaL (by rw[<-ad.o];exact af)] at t;have t:=aP t;clear af ad ae;go_wp2_with fail
      exact⟨⟨i+1,gs,lV k env bu pe,rfl,aQ,P.o.1,K.o.2.1.QS _ _ _ t.o.1 t.o.2.1 t.o.2.2,P.o.2.1⟩,by simp only[aL];omega⟩
    .by_cases hk2:kd=2
     .subst hk2;have c1:=u.o.cell 1 env rfl;have c2:=u.o.cell 2 (.int .u8 n) rfl;have c3:=u.o.cell 3 bu rfl;have c4:=u.o.cell 4 pe rfl;have c5:=u.o.cell 5 (.slice TA ts.length Tc) rfl;have c6:=u.o.cell 6 (.int .u8 od) rfl;have c7:=u.o.cell 7 (.slice CA cs.length Cc) rfl;have c8:=u.o.cell 8 (.slice RA B.length Rc) rfl;have c9:=u.o.cell 9 (.slice WA ws.length Wc) rfl;have vD:=u.o.cell 10 (.slice XA xs.length Xc) rfl;have c11:=u.o.cell 11 (.slice QA qs.length Qc) rfl;obtain⟨G,hsub,hG,back⟩:=HSb.o.ho;have hAc:aG prog 12 #[.pointer (some ⟨f,0,none⟩), .agg #[.int .i64 2,env, .int .u8 n,bu,pe,(TA,ts.length,Tc), .int .u8 od,(CA,cs.length,Cc),(RA,B.length,Rc),(WA,ws.length,Wc),(XA,xs.length,Xc),(QA,qs.length,Qc)]] w6 (ES G f m g (1+d) (mN k env) jT (.int .i64 (EW k env)) w6):=Jq hG K.o.2.1.ki.sd ⟨2,env,n,bu,pe,TA,Tc,ts,od,CA,Cc,cs,RA,Rc,B,WA,Wc,ws,XA,Xc,xs,QA,Qc,qs⟩ rfl;obtain⟨ee,hee⟩:∃ee,ee=EW k env:=⟨_,rfl⟩
      rw[<-hee] at hAc;have L:=aP hAc;have ad:=aP hee;have N:=bH hsub back;have HIn:=aP (λW=>AZ env W);clear hAc hee hsub back hG;go_upto_region 12 with(fail)
      go_cut [60] (λs60 wx=>∃bv:Bool,s60= .bool bv/\aH (bv=decide (ee=0/\(0<=env/\env<4)))/\aH (jB (λb=>b<C.heap.size) wx f m g (1+d) (mN k env) q gs/\Kp (λb=>b<C.heap.size) w5 wx/\bC wx qa 44 #[.int .i64 2,env, .int .u8 n,bu,pe,(TA,ts.length,Tc), .int .u8 od,(CA,cs.length,Cc),(RA,B.length,Rc),(WA,ws.length,Wc),(XA,xs.length,Xc),(QA,qs.length,Qc)]))
      case first=>
       by_cases hE:ee=0
       .subst hE;go_wp2_with(first|(go_at_call 12;(refine aR L ?_);rintro r Z ⟨rfl,h7,k7⟩;(have O:=k7.aZ u.o (N.o.1 qa (.inr rfl)));(replace c1:=O.cell 1 env rfl))|(go_at_call 19;(refine aS (HIn.o _) ?_);rintro r w8 ⟨rfl,rfl⟩))
        go_meet
        obtain⟨b1,b2⟩:=N.o.2 (mN k env) Z (λ_=>False) (λ_ h=>h.elim) (h7.less λb f=>f.elim id False.elim) k7;have k9:Kp (λb=>b<C.heap.size) w5 Z:=K.o.2.2.trans (HB6.o.trans (b2.mono λb f=> .inl f));exact⟨decide (0<=env/\env<4),aT,by unfold aH;simp,b1.less λb f=> .inl (.inl f),k9,O⟩
       .have hEb:(ee==0)=false:=by simpa using hE
        have HE0:=aP hE;clear hE;go_wp2_with(first|(go_at_call 12;(refine aR L ?_);rintro r Z ⟨rfl,h7,k7⟩;(have O:=k7.aZ u.o (N.o.1 qa (.inr rfl)));(replace c1:=O.cell 1 env rfl))|(go_at_call 19;(refine aS (HIn.o _) ?_);rintro r w8 ⟨rfl,rfl⟩))
        go_meet
        obtain⟨b1,b2⟩:=N.o.2 (mN k env) Z (λ_=>False) (λ_ h=>h.elim) (h7.less λb f=>f.elim id False.elim) k7;have k9:Kp (λb=>b<C.heap.size) w5 Z:=K.o.2.2.trans (HB6.o.trans (b2.mono λb f=> .inl f));exact⟨false,rfl,(aa0 (λh=>HE0.o h.1)).symm,b1.less λb f=> .inl (.inl f),k9,O⟩
      case rest=>
      obtain⟨bv,rfl,ae,P⟩:=hcut;clear c0 c1 c2 c3 c4 c5 c6 c7 c8 c9 vD c11 L HIn N u;go_upto_if 60 with(fail)
      cases bv with
      |true=>
       have af:=acC ae.o.symm;obtain⟨hE,he0,he4⟩:=af;have t:=(K.o.2.1.gv.Q6 K.o.2.1.nl env bu pe)
       rw[aaK ⟨ad.o.symm.trans hE,he0,he4⟩] at t;have t:=aP t;obtain⟨e,rfl⟩:=aaO he0;have E:e<4:=aQ;have c0:=P.o.2.2.cell 0 (.int .i64 2) rfl;have c1:=P.o.2.2.cell 1 (.int .i64 (e:Int)) rfl;have c3:=P.o.2.2.cell 3 bu rfl;have c4:=P.o.2.2.cell 4 pe rfl;obtain⟨G2,hs2,v,U⟩:=P.o.1.gv;obtain⟨yy,hy⟩:∃yy,gs[e]?=some yy:=⟨_,aaG (by rw[v.l];exact E)⟩
       have g0:wc.cell? (q,e *5)=some (.int .i64 yy.bu):=v.c E (j:=0) aQ hy rfl;have g1:=v.c E (j:=1) aQ hy rfl;have g2:=v.c E (j:=2) aQ hy rfl;have g3:=v.c E (j:=3) aQ hy rfl;have g4:=v.c E (j:=4) aQ hy rfl;have z0:=v.fz (e *5);have z1:=v.fz (e *5+1);have z2:=v.fz (e *5+2);have z3:=v.fz (e *5+3);have z4:=v.fz (e *5+4);have h5:=v.QM E bu pe false;have HS5:=aP (U _ _ h5.1 h5.2);clear h5 hy v U hE ad ae;go_wp2_with fail
       exact⟨⟨i+1,gs.set e ⟨bu,pe,false,nU,0, []⟩,mN k e,rfl,aQ,HS5.o.1,K.o.2.1.Q6 _ t.o.1 t.o.2.1 (by rw[ab1];exact t.o.2.2),P.o.2.1.trans HS5.o.2⟩,by simp only[aL];omega⟩
      |false=>
       have af:=adJ ae.o.symm;have t:=(K.o.2.1.gv.Q6 K.o.2.1.nl env bu pe)
       rw[aaL (by rw[<-ad.o];exact af)] at t;have t:=aP t;clear af ad ae;go_wp2_with fail
       exact⟨⟨i+1,gs,mN k env,rfl,aQ,P.o.1,K.o.2.1.Q6 _ t.o.1 t.o.2.1 t.o.2.2,P.o.2.1⟩,by simp only[aL];omega⟩
     .have HRem:aH (∃nd:Nat,Int.tmod n 8=nd/\nd<8):=by
       have h1:0<=n/\n<=255:=DW.o.1.n;refine⟨(n%8).toNat,?_,?_⟩
       .rw[Int.tmod_eq_emod_of_nonneg h1.1];omega
       .omega
      obtain⟨nd,hnd,hnd8⟩:=HRem.o;have n0:(0:Int)<=nd:=aQ;have n8:(nd:Int)<8:=aQ;have HK6:=HB6;have k1':(kd==1)=false:=by simpa using hk1
      have k2':(kd==2)=false:=by simpa using hk2
      have HK12:=bH hk1 hk2;clear hk1 hk2;go_upto_region 15 with(fail)
      clear c0;go_loopw [9] (λv9 wr=>∃(j:Nat) (H:List Gv) (k':Kv),v9= .int .i64 j/\j<=nd+1/\aH (jB (Fb (λb=>b<C.heap.size) qa) wr f m g (1+d) k' q H/\xR (8 *i+j) (9+1000 *i+110 *j) k' H/\Kp (Fb (λb=>b<C.heap.size) qa) w6 wr)) (λv9 _=>nd+1 - (aL v9).toNat)
      case atStart=>exact⟨0,gs,k,rfl,aQ,HSb.o,K.o.2.1,Kp.refl _ _⟩
      case round=>
       obtain⟨j,H,k',rfl,hj,aa⟩:=hrel;have HBx2:aH (bC wr qa 44 #[kd,env, .int .u8 n,bu,pe,(TA,ts.length,Tc), .int .u8 od,(CA,cs.length,Cc),(RA,B.length,Rc),(WA,ws.length,Wc),(XA,xs.length,Xc),(QA,qs.length,Qc)]):=aa.o.2.2.aZ u.o (.inr rfl);have c2:=HBx2.o.cell 2 (.int .u8 n) rfl;have i0:(0:Int)<=j:=aQ;have HOkr:aH (uU (λb=>b<C.heap.size) wr ⟨kd,env,n,bu,pe,TA,Tc,ts,od,CA,Cc,cs,RA,Rc,B,WA,Wc,ws,XA,Xc,xs,QA,Qc,qs⟩):=DW.o.1.kp (HB6.o.trans (aa.o.2.2.mono λb f=> .inl f));have i9:(j:Int)<9:=aQ;by_cases hjn:j<=nd
       .have hjn1:(j:Int)<=(nd:Int):=aQ;go_upto_region 18 with(fail)
        have I:aH (bC (wr.alloc (aI #[bA,bA,bA,bA] 42)) wr.heap.size 42 #[bA,bA,bA,bA]/\aD wr wr (wr.alloc (aI #[bA,bA,bA,bA] 42))):=⟨bC.new _ _ _,aX _ _⟩
        generalize wr.alloc (aI #[bA,bA,bA,bA] 42)=Z at *;generalize hqb:wr.heap.size=qb at *;have HQb:=aP hqb;clear hqb;go_upto_if 85 with(fail)
        go_cut [] (λwx=>∃(R W X Q:uL) (ls:List Int) (vs:List (Int×Int×Int)) (ys:List Wd) (us:List (Int×Int×Int)),aH (bC wx qb 42 #[(R.A,ls.length,R.c),(W.A,vs.length,W.c),(X.A,ys.length,X.c),(Q.A,us.length,Q.c)]/\aD qb wr wx)/\aH (xQ (λb=>b<C.heap.size) wr R.A ls W.A vs X.A ys/\Sl kR 3 wr Q.A us/\(∀b,jU Q.A us.length=some b->b<C.heap.size))/\aH ((ls.length<=20/\vs.length<=20/\ys.length<=10)/\us.length<=20/\∀z∈ys,z.xs.length<=60))
        case first=>
         by_cases hj0:(j:Int)=0
         .have hBa:bC Z qa 44 #[kd,env, .int .u8 n,bu,pe,(TA,ts.length,Tc), .int .u8 od,(CA,cs.length,Cc),(RA,B.length,Rc),(WA,ws.length,Wc),(XA,xs.length,Xc),(QA,qs.length,Qc)]:=HBx2.o.keep (by rw[HQb.o];exact I.o.2);have e8:=hBa.cell 8 (.slice RA B.length Rc) rfl;have e9:=hBa.cell 9 (.slice WA ws.length Wc) rfl;have e10:=hBa.cell 10 (.slice XA xs.length Xc) rfl;have e11:=hBa.cell 11 (.slice QA qs.length Qc) rfl;have t0:=I.o.1.cell 0 (.slice none 0 0) rfl;have t1:=I.o.1.cell 1 (.slice none 0 0) rfl;have t2:=I.o.1.cell 2 (.slice none 0 0) rfl;have t3:=I.o.1.cell 3 (.slice none 0 0) rfl;have y0:=I.o.1.frozen 0;have y1:=I.o.1.frozen 1;have y2:=I.o.1.frozen 2;have y3:=I.o.1.frozen 3;go_wp2_with fail
          go_meet
          exact⟨⟨RA,B.length,Rc⟩,⟨WA,ws.length,Wc⟩,⟨XA,xs.length,Xc⟩,⟨QA,qs.length,Qc⟩,B,ws,xs,qs,⟨(((I.o.1.bQ 0 _).bQ 1 _).bQ 2 _).bQ 3 _,I.o.2.grown (aY (aY (aY (aY (bE _ _) 0 _) 1 _) 2 _) 3 _) (Nat.le_of_lt I.o.1.lt) (λk hk=>by injection hk with hk;omega)⟩,⟨HOkr.o.i,HOkr.o.q,HOkr.o.qF⟩,⟨⟨DW.o.2.r,DW.o.2.w,DW.o.2.x⟩,DW.o.2.q,DW.o.2.xs⟩⟩
         .go_wp2_with fail
          go_meet
          exact⟨nU,nU,nU,nU, [], [], [], [],I.o,⟨⟨Sl.nil _ _,tN,Sl.nil _ _,tN,Sl.nil _ _,tN,λ_ h=>(by cases h)⟩,Sl.nil _ _,tN⟩,⟨aT,aT,aT⟩⟩
        case rest=>
        obtain⟨R,W,X,Q,ls,vs,ys,us,HWb,HRw,HLn⟩:=hcut;have ag:aH (jB (Nw (Fb (λb=>b<C.heap.size) qa) qb wc) wc f m g (1+d) k' q H/\Kp (Fb (λb=>b<C.heap.size) qa) wr wc/\qb<wc.heap.size):=by
         have hb1:=HWb.o.2;rw[<-HQb.o] at hb1;have h1:=aa.o.1.grow hb1;rw[HQb.o] at h1;exact⟨h1,(aa.o.1.below hb1).2,HWb.o.1.lt⟩
        clear I HBx2 c2;go_upto_region 21 with(fail)
        have HS1:aH (jB (Fb (Nw (Fb (λb=>b<C.heap.size) qa) qb wc) wc.heap.size) (wc.alloc (aI #[false,false,false,false] 116)) f m g (1+d) k' q H/\Kp (Nw (Fb (λb=>b<C.heap.size) qa) qb wc) wc (wc.alloc (aI #[false,false,false,false] 116))/\bC (wc.alloc (aI #[false,false,false,false] 116)) wc.heap.size 116 #[false,false,false,false]):=⟨ag.o.1.box _,(ag.o.1.below (aX wc _)).2,bC.new wc _ _⟩
        obtain⟨FF,hFF⟩:∃X,X=Fb (Nw (Fb (λb=>b<C.heap.size) qa) qb wc) wc.heap.size:=⟨_,rfl⟩
        have F:aH ((∀b,Fb (λb=>b<C.heap.size) qa b->FF b/\b<wc.heap.size)/\FF qb/\FF wc.heap.size/\∀b,FF b->Fb (λb=>b<C.heap.size) qa b\/qb<=b):=by
         rw[hFF];exact⟨λb f=>⟨.inl (.inl f),ag.o.1.fl b (.inl f)⟩, .inl (.inr ⟨aaH _,ag.o.2.2⟩), .inr rfl,λb f=>f.elim (λh=>h.elim .inl λh=> .inr h.1) λh=> .inr (by rw[h];exact Nat.le_of_lt ag.o.2.2)⟩
        rw[<-hFF] at HS1;have HWd:aH (qb<wc.heap.size/\bC (wc.alloc (aI #[false,false,false,false] 116)) qb 42 #[(R.A,ls.length,R.c),(W.A,vs.length,W.c),(X.A,ys.length,X.c),(Q.A,us.length,Q.c)]/\Kp (Fb (λb=>b<C.heap.size) qa) w6 (wc.alloc (aI #[false,false,false,false] 116))):=⟨ag.o.2.2,HWb.o.1.alloc _,aa.o.2.2.trans (ag.o.2.1.trans (HS1.o.2.1.mono λb f=> .inl f))⟩
        have HRx:aH (xQ (λb=>b<C.heap.size) (wc.alloc (aI #[false,false,false,false] 116)) R.A ls W.A vs X.A ys/\Sl kR 3 (wc.alloc (aI #[false,false,false,false] 116)) Q.A us/\(∀b,jU Q.A us.length=some b->b<C.heap.size)):=by
         have kk:Kp (λb=>b<C.heap.size) wr (wc.alloc (aI #[false,false,false,false] 116)):=(ag.o.2.1.mono λb f=> .inl f).trans (HS1.o.2.1.mono λb f=> .inl (.inl f));exact⟨HRw.o.1.kp kk,HRw.o.2.1.xC kk HRw.o.2.2,HRw.o.2.2⟩
        have Y:aH (xR (8 *i+j) (9+1000 *i+110 *j) k' H):=aa.o.2.1;clear aa ag HWb HRw hFF HQb;generalize wc.alloc (aI #[false,false,false,false] 116)=w8 at *;generalize wc.heap.size=qc at *;go_wp2_with fail
        go_loopw [12] (λv12 wr=>∃e:Nat,v12= .int .i64 e/\e<=4/\aH (bC wr qc 116 ((BB k'.s e).map Value.bool).toArray/\w8.grownBy wr (some qc))) (λv12 _=>4 - (aL v12).toNat)
        case atStart=>exact⟨0,rfl,aQ,HS1.o.2.2,bE _ _⟩
        case round=>
         obtain⟨e,rfl,he,HE⟩:=hrel;have HSe:aH (jB FF wr f m g (1+d) k' q H/\Kp (λb=>FF b/\b≠qc) w8 wr):=⟨HS1.o.1.row HE.o.2 F.o.2.2.1,Kp.grown HE.o.2 λb f=>⟨HS1.o.1.fl b f.1,λe=>f.2 (by injection e)⟩⟩
         have e0':(0:Int)<=e:=aQ;by_cases he4:e<4
         .have e4':(e:Int)<4:=aQ;obtain⟨G,hho⟩:=HSe.o.1.Yz;have c0:=hho.c0;unfold pA at c0;obtain⟨G1,gs1,hsd,m0,g6,_⟩:=hho.sd;have HIs:=aP (Ru hsd (by have:=Y.o.nl.p4;omega) (e:Int));have x0:=HE.o.1.cell e (.bool ((BB k'.s e).getD e false)) (by rw[aaY];simp[BB,he4]);have z0:=HE.o.1.frozen e;have HN:aH (bC (wr.setCell (qc,e) (.bool (iI k'.s (e:Int)))) qc 116 ((BB k'.s (e+1)).map Value.bool).toArray/\w8.grownBy (wr.setCell (qc,e) (.bool (iI k'.s (e:Int)))) (some qc)):=by
           have h1:=HE.o.1.bQ e (.bool (iI k'.s (e:Int)));rw[aaI,<-ab1,Pr k'.s he4] at h1;exact⟨h1,aY HE.o.2 e _⟩
          clear hho hsd;go_wp2_with(first|(go_at_call 10;(refine aS (zX c0) ?_);rintro x w3' ⟨rfl,rfl⟩)|(go_at_call 11;(refine aS (rI m0) ?_);rintro x w3' ⟨rfl,rfl⟩)|(go_at_call 30;(refine aR HIs ?_);rintro x w3' ⟨rfl,rfl⟩))
          exact⟨⟨e+1,rfl,aQ,HN.o⟩,by simp only[aL];omega⟩
         .obtain rfl:e=4:=aQ;have e4':¬((4:Nat):Int)<4:=aQ;have hR4:((BB k'.s 4).map Value.bool).toArray=(#[.bool (iI k'.s 0), .bool (iI k'.s 1), .bool (iI k'.s 2), .bool (iI k'.s 3)]:Array Value):=by
           simp[BB,acT]
          have HQ:aH (bC wr qb 42 #[(R.A,ls.length,R.c),(W.A,vs.length,W.c),(X.A,ys.length,X.c),(Q.A,us.length,Q.c)]/\bC wr qc 116 #[.bool (iI k'.s 0), .bool (iI k'.s 1), .bool (iI k'.s 2), .bool (iI k'.s 3)]/\xQ (λb=>b<C.heap.size) wr R.A ls W.A vs X.A ys/\(Sl kR 3 wr Q.A us/\(∀b,jU Q.A us.length=some b->b<C.heap.size))/\Kp (Fb (λb=>b<C.heap.size) qa) w6 wr/\jB FF wr f m g (1+d) k' q H):=by
           have hE:=HE.o.1;rw[hR4] at hE;have kk:Kp (Fb (λb=>b<C.heap.size) qa) w8 wr:=HSe.o.2.mono λb f=>⟨(F.o.1 b f).1,λe=>by have:=(F.o.1 b f).2;omega⟩
           have k2':Kp (λb=>b<C.heap.size) w8 wr:=kk.mono λb f=> .inl f
           exact⟨HSe.o.2.aZ HWd.o.2.1 ⟨F.o.2.1,λe=>by have:=HWd.o.1;omega⟩,hE,HRx.o.1.kp k2',⟨HRx.o.2.1.xC k2' HRx.o.2.2,HRx.o.2.2⟩,HWd.o.2.2.trans kk,HSe.o.1⟩
          clear HS1 HE HSe hR4 HWd HRx;have z0:=HQ.o.1.cell 0 (.slice R.A ls.length R.c) rfl;have z1:=HQ.o.1.cell 1 (.slice W.A vs.length W.c) rfl;have z2:=HQ.o.1.cell 2 (.slice X.A ys.length X.c) rfl;have z3:=HQ.o.1.cell 3 (.slice Q.A us.length Q.c) rfl;have HFl:aH (Ol FF wr):=HQ.o.2.2.2.2.2.fl;have HTo:aH (aG prog 17 #[.agg #[(R.A,ls.length,R.c),(W.A,vs.length,W.c),(X.A,ys.length,X.c),(Q.A,us.length,Q.c)]] wr λr w'=>∃W2 Q2:uL,r= .returned (.agg #[(R.A,ls.length,R.c),(W2.A,W2.n,W2.c),(X.A,ys.length,X.c),(Q2.A,Q2.n,Q2.c)])/\aH (Wn wr vs us w' W2 Q2)):=by
           refine(No _ _ wr HQ.o.2.2.1.wt HQ.o.2.2.2.1.1 (by have:=HLn.o.1.2.1;omega) (by have:=HLn.o.2.1;omega)).mono ?_;rintro r w' ⟨W2,Q2,rfl,o1,o2,n1,n2,bl⟩;exact⟨W2,Q2,rfl,bl,o1,o2,n1,n2⟩
          have HTc:aH (∀(V:aA) (W2 Q2:uL),aH (Wn wr vs us V W2 Q2)->aG prog 16 #[.pointer (some ⟨f,0,none⟩), .agg #[(R.A,ls.length,R.c),(W2.A,W2.n,W2.c),(X.A,ys.length,X.c),(Q2.A,Q2.n,Q2.c)]] V λr w'=>∃(o:Ou) (D:List (Int×Int)) (k2:Kv),r= .returned (.tuple #[.agg #[o.rn.env,o.rn.ch,(o.S.A,o.S.n,o.S.c),(o.R.A,o.R.n,o.R.c),(o.W.A,o.W.n,o.W.c),(o.A.A,o.A.n,o.A.c),o.tk,o.nu,(o.T.A,o.T.n,o.T.c),o.st, .int .i64 o.x,o.y, .int .u64 o.z],aU])/\aH (qI k' (1+d) vs ys o.rn D k2/\KI k2 (9+1000 *i+110 *(j+1))/\o.S.n=D.length)/\aH (Sl sU 2 w' o.S.A D/\jB (cB FF o.S.A) w' f m g (1+d) k2 q H/\Kp FF wr w')):=λV W2 Q2 P=>by
           have hW:aD wr wr V:=P.o.b;have hg:=HQ.o.2.2.2.2.2.grow hW;obtain⟨G,sG,hh,back⟩:=hg.ho;have kb:=(HQ.o.2.2.2.2.2.below hW).2;have hi:=HQ.o.2.2.1.kp (Kp.dD hW λb f=>HFl.o b (F.o.1 b (.inl f)).1);have oW:=P.o.w;have oQ:=P.o.q;have hi2:xQ G V R.A ls W2.A vs X.A ys:=⟨hi.r,λb f=>sG b (.inl (F.o.1 b (.inl (hi.rF b f))).1),oW.sl uW,MJ (λb f=>sG b (.inr (oW.lt b f))) _,hi.x,λb f=>sG b (.inl (F.o.1 b (.inl (hi.xF b f))).1),λz hz=>⟨(hi.y z hz).1,λb f=>sG b (.inl (F.o.1 b (.inl ((hi.y z hz).2.1 b f))).1),(hi.y z hz).2.2⟩⟩
           have h1:=J1 hh (n0:=9+1000 *i+110 *j) (M:=60) (nl:=0) Y.o.ki aQ aQ (by have:=Y.o.nw;omega) (cR:=R.c) (cW:=W2.c) (cX:=X.c) (cQ:=Q2.c) hi2 (oQ.sl uW) (MJ (λb f=>sG b (.inr (oQ.lt b f))) _) (by have:=HLn.o.1;omega) HLn.o.2.2 (λi _=>by rw[I8,BG];rfl) (λi x hx=>by rw[BG] at hx;cases hx) (by have:=HLn.o.2.1;omega);rw[P.o.nw,P.o.nq];refine h1.mono ?_;rintro r w' ⟨o,D,AS,k2,rs2,rfl,ht,ki2,hS,hA,oS,oA,hAb,h2,k2'⟩;obtain⟨ht1,rfl⟩:=ht.plain;obtain⟨b1,b2⟩:=back k2 w' (λb=>aZ o.S.A=some b\/aZ o.A.A=some b) (λb f=>f.elim (λh=>(oS.lt b h).1) (hAb b)) (h2.less λb f=>f.elim (λh=> .inl (.inl h)) λh=>h.elim (λh=> .inl (.inr h)) .inr) k2';exact⟨o,D,k2,rfl,⟨ht1,ki2.mono aQ,hS⟩,⟨oS.sl yP,b1.less λb f=>f.elim (λh=> .inl (.inl h)) λh=> .inr (.inl h),kb.trans (b2.mono λb f=> .inl f)⟩⟩
          go_upto_region 26 with(first|(go_at_call 17;(refine aR HTo ?_);rintro r w5' ⟨W2,Q2,rfl,HT5⟩)|(go_at_call 16;(refine aS (HTc.o _ _ _ HT5) ?_);rintro r Z ⟨o,D,k2,rfl,HD7,HM7⟩))
          have J:=aP (bC.new Z 79 #[o.rn.env,o.rn.ch,(o.S.A,o.S.n,o.S.c),(o.R.A,o.R.n,o.R.c),(o.W.A,o.W.n,o.W.c),(o.A.A,o.A.n,o.A.c),o.tk,o.nu,(o.T.A,o.T.n,o.T.c),o.st, .int .i64 o.x,o.y, .int .u64 o.z]);have H9:aH (jB (cB FF o.S.A) (Z.alloc (aI #[o.rn.env,o.rn.ch,(o.S.A,o.S.n,o.S.c),(o.R.A,o.R.n,o.R.c),(o.W.A,o.W.n,o.W.c),(o.A.A,o.A.n,o.A.c),o.tk,o.nu,(o.T.A,o.T.n,o.T.c),o.st, .int .i64 o.x,o.y, .int .u64 o.z] 79)) f m g (1+d) k2 q H/\Sl sU 2 (Z.alloc (aI #[o.rn.env,o.rn.ch,(o.S.A,o.S.n,o.S.c),(o.R.A,o.R.n,o.R.c),(o.W.A,o.W.n,o.W.c),(o.A.A,o.A.n,o.A.c),o.tk,o.nu,(o.T.A,o.T.n,o.T.c),o.st, .int .i64 o.x,o.y, .int .u64 o.z] 79)) o.S.A D/\Kp FF wr (Z.alloc (aI #[o.rn.env,o.rn.ch,(o.S.A,o.S.n,o.S.c),(o.R.A,o.R.n,o.R.c),(o.W.A,o.W.n,o.W.c),(o.A.A,o.A.n,o.A.c),o.tk,o.nu,(o.T.A,o.T.n,o.T.c),o.st, .int .i64 o.x,o.y, .int .u64 o.z] 79))):=by
           have h1:=HM7.o.2.1.below (aX Z (aI #[o.rn.env,o.rn.ch,(o.S.A,o.S.n,o.S.c),(o.R.A,o.R.n,o.R.c),(o.W.A,o.W.n,o.W.c),(o.A.A,o.A.n,o.A.c),o.tk,o.nu,(o.T.A,o.T.n,o.T.c),o.st, .int .i64 o.x,o.y, .int .u64 o.z] 79));exact⟨h1.1,HM7.o.1.keep (aX Z _),HM7.o.2.2.trans (h1.2.mono λb f=> .inl f)⟩
          clear HTo HTc HM7 HT5 z0 z1 z2 z3 HFl;generalize Z.alloc (aI #[o.rn.env,o.rn.ch,(o.S.A,o.S.n,o.S.c),(o.R.A,o.R.n,o.R.c),(o.W.A,o.W.n,o.W.c),(o.A.A,o.A.n,o.A.c),o.tk,o.nu,(o.T.A,o.T.n,o.T.c),o.st, .int .i64 o.x,o.y, .int .u64 o.z] 79)=w9 at *;generalize Z.heap.size=qd at *;have x0:=J.o.cell 0 o.rn.env rfl;have x1:=J.o.cell 1 (.bool o.rn.ch) rfl;have x2:=J.o.cell 2 (.slice o.S.A o.S.n o.S.c) rfl;have x3:=J.o.cell 3 (.slice o.R.A o.R.n o.R.c) rfl;have x4:=J.o.cell 4 (.slice o.W.A o.W.n o.W.c) rfl;have x5:=J.o.cell 5 (.slice o.A.A o.A.n o.A.c) rfl;have x6:=J.o.cell 6 o.tk rfl;have x7:=J.o.cell 7 o.nu rfl;have x8:=J.o.cell 8 (.slice o.T.A o.T.n o.T.c) rfl;have x9:=J.o.cell 9 o.st rfl;have x10:=J.o.cell 10 o.x rfl;have x11:=J.o.cell 11 o.y rfl;have x12:=J.o.cell 12 (.int .u64 o.z) rfl;have y2:=(H9.o.2.2.aZ HQ.o.1 F.o.2.1).cell 2 (.slice X.A ys.length X.c) rfl;have hbc:=H9.o.2.2.aZ HQ.o.2.1 F.o.2.2.1;have r0:=hbc.cell 0 (.bool (iI k'.s 0)) rfl;have r1:=hbc.cell 1 (.bool (iI k'.s 1)) rfl;have r2:=hbc.cell 2 (.bool (iI k'.s 2)) rfl;have r3:=hbc.cell 3 (.bool (iI k'.s 3)) rfl;have zN:aH (aG prog 31 #[.pointer q, .agg #[.bool (iI k'.s 0), .bool (iI k'.s 1), .bool (iI k'.s 2), .bool (iI k'.s 3)],(X.A,ys.length,X.c), .agg #[o.rn.env,o.rn.ch,(o.S.A,o.S.n,o.S.c),(o.R.A,o.R.n,o.R.c),(o.W.A,o.W.n,o.W.c),(o.A.A,o.A.n,o.A.c),o.tk,o.nu,(o.T.A,o.T.n,o.T.c),o.st, .int .i64 o.x,o.y, .int .u64 o.z]] w9 λr w'=>r= .returned (.bool true)/\aH (∃gs2,xR (8 *i+(j+1)) (9+1000 *i+110 *(j+1)) k2 gs2/\jB (Fb (λb=>b<C.heap.size) qa) w' f m g (1+d) k2 q gs2/\Kp (Fb (λb=>b<C.heap.size) qa) w6 w')):=by
           obtain⟨ht,hki,hSn⟩:=HD7.o;have hrd: [iI k'.s 0,iI k'.s 1,iI k'.s 2,iI k'.s 3]=BB k'.s 4:=by simp[BB,acT]
           obtain⟨n1,n2,n3,n4⟩:=ht.gv Y.o.nl (by have:=Y.o.nw;omega) Y.o.gv [iI k'.s 0,iI k'.s 1,iI k'.s 2,iI k'.s 3] (by rw[hrd];exact Ub k'.s);obtain⟨G,sG,hg,back⟩:=H9.o.1.gv;have kF:Kp (λb=>b<C.heap.size) wr w9:=H9.o.2.2.mono λb f=>(F.o.1 b (.inl f)).1
           have hF:∀b,b<C.heap.size->G b:=λb f=>sG b (.inl (F.o.1 b (.inl f)).1)
           have hi:=HQ.o.2.2.1.kp kF;have hl:∀x∈H,x.has=true->x.bY.length<=1000000:=λx hx hh=>by
            obtain⟨p,hp,rfl⟩:=aa2 hx;have h1:=(Y.o.gv.a p H[p].k (by rw[ab7,aaG hp];rfl) hh).l;have h2:(H[p].bY.length:Int)<=k'.s.nw:=h1;have:=Y.o.nw;omega
           have hc:=WY hg (iI k'.s 0) (iI k'.s 1) (iI k'.s 2) (iI k'.s 3) X.c ⟨hi.x,λb f=>hF b (hi.xF b f),λz hz=>⟨(hi.y z hz).1,λb f=>hF b ((hi.y z hz).2.1 b f),(hi.y z hz).2.2⟩⟩ ⟨by have:=HLn.o.1.2.2;omega,λz hz=>by have:=HLn.o.2.2 z hz;omega⟩ o ⟨H9.o.2.1,λb f=>sG b (.inr f),hSn⟩ (by have:=ht.To HLn.o.2.2;omega) (ht.Qn Y.o.ki) n4 hl;refine hc.mono ?_;rintro r w' ⟨rfl,gs2,he2,h2,kk⟩;obtain⟨b1,b2⟩:=back gs2 w' h2 kk;refine⟨rfl,gs2,⟨n1,by rw[n2];have:=Y.o.nw;omega,hki,by rw[he2];exact n3⟩,b1.less λb f=> .inl (F.o.1 b f).1,HQ.o.2.2.2.2.1.trans ((H9.o.2.2.mono λb f=>(F.o.1 b f).1).trans (b2.mono λb f=> .inl (F.o.1 b f).1))⟩
          clear hbc HQ Y H9;go_wp2_with(go_at_call 31;(refine aR zN ?_);rintro r w10 ⟨rfl,HN⟩)
          obtain⟨gs2,l2,s2,k10⟩:=HN.o;exact⟨⟨j+1,gs2,k2,rfl,aQ,s2,l2,k10⟩,by simp only[aL];omega⟩
       .have hjn1:¬(j:Int)<=(nd:Int):=aQ;have hje:j=nd+1:=aQ;have HJe:=aP hje;clear hje hjn;go_wp2_with fail
        exact⟨⟨i+1,H,k',rfl,aQ,aa.o.1.less λb f=> .inl f,aa.o.2.1.mono (by have:=HJe.o;omega) (by have:=HJe.o;omega),K.o.2.2.trans (HB6.o.trans (aa.o.2.2.mono λb f=> .inl f))⟩,by simp only[aL];omega⟩
   .have hil:i=l.length:=aQ;have HIl:=aP hil;have j1:¬(i:Int)<(l.length:Int):=aQ;clear hil;go_wp2_with(go_at_call 7;(refine aS (HAw.o _) ?_);rintro r w5' ⟨rfl,hb5'⟩)
    go_ret
    have hBr:aD w w wr:=HB5.o.trans (K.o.2.2.low λb f=>aaJ f HZ2.o);exact⟨rfl,hBr.trans (hb5'.mono hBr.size)⟩
end
end
section
open Go.ChangeShapes Go.WideShapes Go.ChangeAt Go.RowKit Go.Joins Go.Lib Go.Shelf Go.Deep dH Fr Up Nt
theorem W6{a b:Bool}(h:a=true)(k:b=true):(a&&b)=true:=by rw[h,k];rfl
theorem topSupply_contract(H:Type)(enc:TypeId×Value->H)(W:aA)(base:Nat)(args:Array Value)(m gs:List (DataW H))(before:List MemPlace)
 (a:∀(j:Nat) t v,f6.params[j]?=some t->args[j]?=some v->Value.okWide prog W .any base t v)
 (h:DataW.Whole enc prog f6.params.toList Rows.topSupplySpec.vars false W args.toList m gs before):
 aG prog 6 args W λe n=>∃v,e= .returned v/\Rows.topSupplySpec.post enc prog f6 false true false false W args v n:=by
 have i:=h;have x:=h.lt;obtain⟨p,q,d,y,rfl,z,B⟩:=h;have o:DataW.TrodAll enc prog W 0 (λ_=>true) true f6.params.toList args.toList m p:=d;rw[params6] at o a;obtain⟨v0,v1,d0,d1,p0,p1,rfl,rfl,rfl,C,h1⟩:=trodAll_two o;obtain⟨rfl,rfl⟩:=trodVars_none y;obtain⟨cl,rfl,rfl,rfl,f⟩:=open_int underlying5 (a 0 5 v0 rfl rfl) C;have r:=wf_u8 f;obtain⟨A,l,c,rfl,s,u,g,k⟩:=Z7 (enc:=OH) (uU (λb=>b<W.heap.size) W) underlying22 (show prog.cellsOf 44=12 by kernel_rfl) aQ (a 1 22 v1 rfl rfl) h1 Uc;clear d a;refine(Hp cl aQ c W ⟨g,g.fE Tx aQ⟩ k).mono λe n ⟨he,D⟩=>⟨_,he,?_⟩
 exact He (tb:=4) rfl rfl underlying4 (by rw[params6];decide+kernel) i rfl D
theorem JH(os:Os)(started:os.Started)(H:Type)(enc:TypeId×Value->H):
 ReturnsInHanded {} checked os 6 .any (Rows.topSupplySpec.pre6 enc prog f6 Rows.topSupplyRow.domain false) (Rows.topSupplySpec.post enc prog f6 false true false false):=by
 refine returnsInHanded_of_change (C:=checked) own started aV func6
  (ChangeSpec.witness6 (enc:=enc) (C:=checked) false ⟨#[],#[.int .u8 0,bA], []⟩ 8 aV aV aV aV) ?_
 intro W base args b gs before a c _ _;exact topSupply_contract H enc W base args b gs before a c
theorem JF:∀P,P=Tryz.pinned.checked.prog->joinedFacts P 6 f6 Rows.topSupplySpec Rows.topSupplyRow=true:=by
 intro P a;unfold joinedFacts;(iterate 31 (refine W6 ?_ (by
  try rw[a]
  as_aux_lemma=>kernel_rfl)))
 try rw[a]
 as_aux_lemma=>kernel_rfl
theorem topSupply_holds:Rows.TopSupplySaid:=
 OpenClaim.holds_of_wide 6 f6 rfl rfl rfl rfl rfl rfl rfl ⟨rfl,rfl,rfl,rfl,rfl⟩ rfl rfl rfl rfl rfl aV func6 (JF _ rfl)
  (acC aV) (by unfold Func.isWrapper;first|(rw[aaK (by decide+kernel)];kernel_rfl)|(rw[aaL (by decide+kernel)];exact⟨rfl,rfl⟩))
  (λos started H enc _=>JH os started H enc)
#print axioms topSupply_holds
end
end Go.Proofs.YtacgiflhgdaeaaaGreat
