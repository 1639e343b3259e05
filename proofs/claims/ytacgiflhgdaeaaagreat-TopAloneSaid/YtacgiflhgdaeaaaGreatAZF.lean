/- TopAlone answers true at every number of calls, environment and list of acts: a library in a house does what it would do alone, if it were given the same ticks, whatever happens in other environments. No condition. -/
import Derived.Test.YtacgiflhgdaeaaaGreatAZ27
import Derived.Test.YtacgiflhgdaeaaaGreatAZ29
set_option linter.unusedVariables false
set_option linter.unusedSimpArgs false
set_option maxRecDepth 100000
set_option maxHeartbeats 20000000
namespace Go.Proofs.YtacgiflhgdaeaaaGreat
open Go.Proofs.Tryz
open Go.RowKit renaming Below->aD,Hid->aH,intOf->aL
open Go renaming Calls->aG
open Go.Obj renaming cells->aI
section
open Go.RowKit Go.Lib Go.Shelf dF Fr Up Nt
variable{rs oa:List Rm}{n:Nat}{k k':Kv}{E:Int}{A:Option Addr}
section
theorem TE(h:n<4):Value.pointer (IM rs (n:Int))=pZ (bE rs n).l (bE rs n).g:=by
 unfold IM pZ;rw[Zz aQ];rfl
def Rv(k:Kv)(rs:List Rm)(a:Ac):Int:=if a.kd=1 then D4 k a.env a.bu a.pe else if a.kd=2 then IV k a.env else if a.kd=3 then uN rs a.env (a.ts.map Tm.t) (a.od%2) else if a.kd=4 then NW k rs a.env else if a.kd=5 then C1 k rs a.env a.cs else Q3 k rs a.env
theorem nP.e{a:Ac}(h:nP k rs a E k' oa):E=Rv k rs a:=by
 unfold Rv;cases h with
 |res h=>rw[Zz h]
 |Y5 h=>rw[aaA aQ,Zz h]
 |ZD h gl sv=>rw[aaA aQ,aaA aQ,Zz h]
 |Bv h=>rw[aaA aQ,aaA aQ,aaA aQ,Zz h]
 |Y9 h B d=>rw[aaA aQ,aaA aQ,aaA aQ,aaA aQ,Zz h]
 |go h=>rw[aaA h.1,aaA h.2.1,aaA h.2.2.1,aaA h.2.2.2.1,aaA h.2.2.2.2]
theorem U0(cl en:Int)(hcl:0<=cl/\cl<=255)(hen:0<=en/\en<=255){l:List Ac}(cap:Nat)(w:World)(h:Sl MQ 12 w A l/\∀b,mK A l.length=some b->b<w.heap.size)(hA:∀a∈l,pB (λb=>b<w.heap.size) w a):
 aG prog 5 #[.int .u8 cl, .int .u8 en,(A,l.length,cap)] w λr w'=>r= .returned (.bool true)/\aD w w w':=by
 have HAw:=aP (Z1 Ks);have HS:=bN h hA;have h8:Int.tmod cl 8=cl%8:=adM hcl.1;have d0:0<=cl%8:=aQ;have d1:cl%8<8:=aQ;have HBg:aH (∀W,aG prog 8 #[.int .i64 (1+cl%8)] W λe w'=>∃hb m g p0,e= .returned (.pointer (some ⟨hb,0,none⟩))/\bV (λb=>b<W.heap.size) w' hb m g (1+cl%8) (oK p0) sD/\aD W.heap.size W w'):=λW=>JW W _ aQ
 have h4:Int.tmod en 4=en%4:=adM hen.1;obtain⟨j,hmn⟩:=aaB (show 0<=en%4 by omega);have hm4:j<4:=aQ;rw[hmn] at h4;have en0:=hen.1;have en1:=hen.2;clear h hA hcl hen hmn;generalize cl%8=d at *;go_enter func5,ntmps5
 go_upto_region 3 with(go_at_call 7;(refine aS (HAw.o _) ?_);rintro r w2 ⟨rfl,hb2⟩)
 go_upto_region 4 with(go_at_call 8;(refine aS (HBg.o _) ?_);rintro r w3 ⟨hb,m,g,p0,rfl,hH,hb3⟩)
 have HB3:aH (aD w w w3):=hb2.trans (hb3.mono hb2.size);have H:aH (Sl MQ 12 w3 A l/\∀a∈l,pB (λb=>b<w3.heap.size) w3 a):=⟨HS.o.1.1.keep HB3.o,λa ha=>((HS.o.2 a ha).kp (Kp.cB HB3.o λb hb=>hb)).up λb hb=>Zy hb HB3.o.size⟩
 have HLi:=aP (WI cap w3 H.o.1 H.o.2);have HHo:=aP hH;have HZ2:aH (w.heap.size<=w2.heap.size):=hb2.size;clear hH hb2 hb3;go_upto_if 32 with(go_at_call 9;(refine aR HLi ?_);rintro r w4 ⟨lb,rfl,hlb,hb4⟩)
 have O:=aP hlb;have HB4:=aP hb4;clear hlb hb4;generalize hnb:(!lb)=nb at *;cases nb with
 |true=>
  go_wp2_with(go_at_call 7;(refine aS (HAw.o _) ?_);rintro r w5 ⟨rfl,hb5⟩)
  go_ret
  exact⟨rfl,HB3.o.trans ((HB4.o.mono HB3.o.size).trans (hb5.mono (aaC HB3.o.size HB4.o.size)))⟩
 |false=>
  have hlb:lb=true:=by simpa using hnb
  subst hlb;clear hnb;have HHo4:=aP (HHo.o.Qn HB4.o);have HB5:aH (aD w w w4):=HB3.o.trans (HB4.o.mono HB3.o.size);have HA5:aH (Sl MQ 12 w4 A l/\(∀b,mK A l.length=some b->b<w2.heap.size)/\∀a∈l,pB (λb=>b<w2.heap.size) w4 a):=⟨HS.o.1.1.keep HB5.o,λb hb=>Zy (HS.o.1.2 b hb) HZ2.o,λa ha=>((HS.o.2 a ha).kp (Kp.cB HB5.o λb hb=>hb)).up λb hb=>Zy hb HZ2.o⟩
  have HLL:aH (l.length<=60/\∀a∈l,qI a):=O.o (by trivial);have m1:(j:Int)<4:=aQ;have HM4:=aP hm4;clear HLi HBg HS H O HHo hm4;go_wp2_with fail
  go_loopw [9,10] (λv9 v10 wr=>∃(ov:Value) (i:Nat) (k:Kv) (rs:List Rm) (ro:Rm),ov=v9/\v10= .int .i64 i/\i<=l.length/\aH (ov=pZ ro.l ro.g)/\aH (iK (λb=>b<w2.heap.size) wr hb m g (1+d) k rs [jB ro]/\HQ i (22 *i) (9+110 *i) k rs/\(bE rs j).l=ro.l/\Kp (λb=>b<w2.heap.size) w4 wr)) (λ_ v10 _=>l.length - (aL v10).toNat)
  case atStart=>exact⟨.pointer none,0,oK p0,sD,pK,rfl,rfl,aaH _,rfl,(iK.of HHo4.o).Kb,HQ.start p0,by rw[T7],Kp.refl _ _⟩
  case round=>
   obtain⟨ov,i,k,rs,ro,rfl,rfl,hi,HOv,HR⟩:=hrel;by_cases hin:i<l.length
   .have hSl:=HA5.o.1.AG HR.o.2.2.2 HA5.o.2.1;obtain⟨b,off,rfl,hc⟩:=hSl.cells hin;have hok:=(HA5.o.2.2 l[i] (aaF hin)).kp HR.o.2.2.2;have hLt:=HLL.o.2 l[i] (aaF hin);generalize l[i]=a at *;obtain⟨kd,env,n,bu,pe,TA,Tc,ts,od,CA,Cc,cs,RA,Rc,u,WA,Wc,ws,XA,Xc,xs,QA,Qc,qs⟩:=a;have a0:wr.cell? ⟨b,off+i *12,none⟩=some (.int .i64 kd):=hc 0 _ rfl;have a1:wr.cell? ⟨b,off+i *12+1,none⟩=some (.int .i64 env):=hc 1 _ rfl;have a2:wr.cell? ⟨b,off+i *12+2,none⟩=some (.int .u8 n):=hc 2 _ rfl;have a3:wr.cell? ⟨b,off+i *12+3,none⟩=some (.int .i64 bu):=hc 3 _ rfl;have a4:wr.cell? ⟨b,off+i *12+4,none⟩=some (.int .i64 pe):=hc 4 _ rfl;have a5:wr.cell? ⟨b,off+i *12+5,none⟩=some (.slice TA ts.length Tc):=hc 5 _ rfl;have a6:wr.cell? ⟨b,off+i *12+6,none⟩=some (.int .u8 od):=hc 6 _ rfl;have a7:wr.cell? ⟨b,off+i *12+7,none⟩=some (.slice CA cs.length Cc):=hc 7 _ rfl;have a8:wr.cell? ⟨b,off+i *12+8,none⟩=some (.slice RA u.length Rc):=hc 8 _ rfl;have a9:wr.cell? ⟨b,off+i *12+9,none⟩=some (.slice WA ws.length Wc):=hc 9 _ rfl;have a10:wr.cell? ⟨b,off+i *12+10,none⟩=some (.slice XA xs.length Xc):=hc 10 _ rfl;have a11:wr.cell? ⟨b,off+i *12+11,none⟩=some (.slice QA qs.length Qc):=hc 11 _ rfl;have NR:=bN hok hLt;have j0:(0:Int)<=i:=aQ;have j1:(i:Int)<(l.length:Int):=aQ;have jb:(l.length:Int)<=60:=by have:=HLL.o.1;omega
    clear hc hSl hok hLt;go_upto_region 12 with(fail)
    have v:=aP (bF.new wr 44 #[kd,env, .int .u8 n,bu,pe,(TA,ts.length,Tc), .int .u8 od,(CA,cs.length,Cc),(RA,u.length,Rc),(WA,ws.length,Wc),(XA,xs.length,Xc),(QA,qs.length,Qc)]);have H6:aH (iK (Fb (λb=>b<w2.heap.size) wr.heap.size) (wr.alloc (aI #[kd,env, .int .u8 n,bu,pe,(TA,ts.length,Tc), .int .u8 od,(CA,cs.length,Cc),(RA,u.length,Rc),(WA,ws.length,Wc),(XA,xs.length,Xc),(QA,qs.length,Qc)] 44)) hb m g (1+d) k rs [jB ro]/\Kp (λb=>b<w2.heap.size) wr (wr.alloc (aI #[kd,env, .int .u8 n,bu,pe,(TA,ts.length,Tc), .int .u8 od,(CA,cs.length,Cc),(RA,u.length,Rc),(WA,ws.length,Wc),(XA,xs.length,Xc),(QA,qs.length,Qc)] 44))):=⟨HR.o.1.box _,(HR.o.1.below (aX wr _)).2⟩
    have K:aH (HQ i (22 *i) (9+110 *i) k rs/\(bE rs j).l=ro.l):=⟨HR.o.2.1,HR.o.2.2.1⟩
    have H:aH (pB (λb=>b<w2.heap.size) (wr.alloc (aI #[kd,env, .int .u8 n,bu,pe,(TA,ts.length,Tc), .int .u8 od,(CA,cs.length,Cc),(RA,u.length,Rc),(WA,ws.length,Wc),(XA,xs.length,Xc),(QA,qs.length,Qc)] 44)) ⟨kd,env,n,bu,pe,TA,Tc,ts,od,CA,Cc,cs,RA,Rc,u,WA,Wc,ws,XA,Xc,xs,QA,Qc,qs⟩/\qI ⟨kd,env,n,bu,pe,TA,Tc,ts,od,CA,Cc,cs,RA,Rc,u,WA,Wc,ws,XA,Xc,xs,QA,Qc,qs⟩):=⟨NR.o.1.kp H6.o.2,NR.o.2⟩
    have HK6:aH (Kp (λb=>b<w2.heap.size) w4 (wr.alloc (aI #[kd,env, .int .u8 n,bu,pe,(TA,ts.length,Tc), .int .u8 od,(CA,cs.length,Cc),(RA,u.length,Rc),(WA,ws.length,Wc),(XA,xs.length,Xc),(QA,qs.length,Qc)] 44))):=HR.o.2.2.2.trans H6.o.2;have HO6:=aP H6.o.1;clear a0 a1 a2 a3 a4 a5 a6 a7 a8 a9 a10 a11 HR H6 NR;generalize wr.alloc (aI #[kd,env, .int .u8 n,bu,pe,(TA,ts.length,Tc), .int .u8 od,(CA,cs.length,Cc),(RA,u.length,Rc),(WA,ws.length,Wc),(XA,xs.length,Xc),(QA,qs.length,Qc)] 44)=w6 at *;generalize wr.heap.size=qa at *;have c0:=v.o.cell 0 kd rfl;obtain⟨F6,hF6⟩:∃X,X=Fb (λb=>b<w2.heap.size) qa:=⟨_,rfl⟩
    have p:aH ((∀b,b<w2.heap.size->F6 b)/\F6 qa):=by rw[hF6];exact⟨λb hb=> .inl hb, .inr rfl⟩
    rw[<-hF6] at HO6;clear hF6;by_cases hkk:1<=kd/\kd<=6
    .have hk1:=hkk.1;have hk6:=hkk.2;have c1:=v.o.cell 1 env rfl;have c2:=v.o.cell 2 (.int .u8 n) rfl;have c3:=v.o.cell 3 bu rfl;have c4:=v.o.cell 4 pe rfl;have c5:=v.o.cell 5 (.slice TA ts.length Tc) rfl;have c6:=v.o.cell 6 (.int .u8 od) rfl;have c7:=v.o.cell 7 (.slice CA cs.length Cc) rfl;have c8:=v.o.cell 8 (.slice RA u.length Rc) rfl;have c9:=v.o.cell 9 (.slice WA ws.length Wc) rfl;have wV:=v.o.cell 10 (.slice XA xs.length Xc) rfl;have c11:=v.o.cell 11 (.slice QA qs.length Qc) rfl;obtain⟨E,hE⟩:∃E,E=Rv k rs ⟨kd,env,n,bu,pe,TA,Tc,ts,od,CA,Cc,cs,RA,Rc,u,WA,Wc,ws,XA,Xc,xs,QA,Qc,qs⟩:=⟨_,rfl⟩
     have HCa:aH (aG prog 12 #[.pointer (some ⟨hb,0,none⟩), .agg #[kd,env, .int .u8 n,bu,pe,(TA,ts.length,Tc), .int .u8 od,(CA,cs.length,Cc),(RA,u.length,Rc),(WA,ws.length,Wc),(XA,xs.length,Xc),(QA,qs.length,Qc)]] w6 λr w'=>r= .returned (.int .i64 E)/\∃(k':Kv) (f:List Rm),aH (nP k rs ⟨kd,env,n,bu,pe,TA,Tc,ts,od,CA,Cc,cs,RA,Rc,u,WA,Wc,ws,XA,Xc,xs,QA,Qc,qs⟩ E k' f/\HQ (i+1) (22 *(i+1)) (9+110 *(i+1)) k' f)/\aH (iK F6 w' hb m g (1+d) k' f [jB ro]/\Kp F6 w6 w')):=by
      obtain⟨G,sG,hh,back⟩:=HO6.o.ho;refine(Hv hh K.o.1.ki ⟨kd,env,n,bu,pe,TA,Tc,ts,od,CA,Cc,cs,RA,Rc,u,WA,Wc,ws,XA,Xc,xs,QA,Qc,qs⟩ (H.o.1.up λb hb=>HO6.o.fl b (p.o.1 b hb)) H.o.2).mono ?_;rintro r w' ⟨E2,k',f,rfl,ha,h2,kk⟩;have he:E2=E:=by rw[hE];exact ha.e
      subst he;obtain⟨b1,b2⟩:=back k' f w' (λ_=>False) (λb hb=>hb.elim) (h2.less λb hb=>hb.elim (λh=>h) False.elim) kk;have e2:=ha.hq K.o.1;exact⟨rfl,k',f,⟨ha,e2.ki.mono aQ,e2.kq,e2.n0,by have:=e2.nw;omega,e2.lb.up aQ (ab3 _),e2.l8⟩,b1.less λb hb=> .inl hb,b2⟩
     have HAl:aH (∀k' f,nP k rs ⟨kd,env,n,bu,pe,TA,Tc,ts,od,CA,Cc,cs,RA,Rc,u,WA,Wc,ws,XA,Xc,xs,QA,Qc,qs⟩ E k' f->((E≠0\/env≠(j:Int)\/(kd≠3/\kd≠4))->(bE f j).l=ro.l)/\(E=0->env=(j:Int)->kd=3->(mI (ts.map Tm.t)=true/\(od%2=0\/od%2=1))/\(bE f j).l=some (kD (ts.map Tm.t) (od%2)))/\(E=0->env=(j:Int)->kd=4->(bE f j).l=none)):=λk' f ha=>by
      have:=ha.alone K.o.1.ki.sd K.o.1.ki.p4 K.o.1.l8 HM4.o;rw[K.o.2] at this;exact this
     have HTh:aH (pB (λb=>b<w2.heap.size) w6 ⟨kd,env,n,bu,pe,TA,Tc,ts,od,CA,Cc,cs,RA,Rc,u,WA,Wc,ws,XA,Xc,xs,QA,Qc,qs⟩/\qI ⟨kd,env,n,bu,pe,TA,Tc,ts,od,CA,Cc,cs,RA,Rc,u,WA,Wc,ws,XA,Xc,xs,QA,Qc,qs⟩):=H;clear hkk hE H;by_cases hE:E=0
     .subst hE;by_cases af:env=(j:Int)
      .subst af;by_cases hk3:kd=3
       .subst hk3;have ho:Int.tmod od 2=od%2:=adM HTh.o.1.od.1;have o0:0<=od%2:=aQ;have o1:od%2<2:=aQ;go_upto_region 15 with(go_at_call 12;(refine aR HCa ?_);rintro r Q ⟨rfl,k',f,HE,B⟩;(have I:=B.o.2.aY v.o p.o.2);(have y0:=I.cell 0 (.int .i64 3) rfl);(have y1:=I.cell 1 (.int .i64 (j:Int)) rfl);(have y5:=I.cell 5 (.slice TA ts.length Tc) rfl);(have y6:=I.cell 6 (.int .u8 od) rfl);clear I)
        have HA7:aH (pB (λb=>b<w2.heap.size) Q ⟨3,(j:Int),n,bu,pe,TA,Tc,ts,od,CA,Cc,cs,RA,Rc,u,WA,Wc,ws,XA,Xc,xs,QA,Qc,qs⟩/\qI ⟨3,(j:Int),n,bu,pe,TA,Tc,ts,od,CA,Cc,cs,RA,Rc,u,WA,Wc,ws,XA,Xc,xs,QA,Qc,qs⟩):=⟨HTh.o.1.kp (B.o.2.mono p.o.1),HTh.o.2⟩
        have HNx:aH ((mI (ts.map Tm.t)=true/\(od%2=0\/od%2=1))/\(bE f j).l=some (kD (ts.map Tm.t) (od%2))):=(HAl.o _ _ HE.o.1).2.1 trivial trivial trivial;have HTa:aH (∀W,aD Q Q W->aG prog 25 #[(TA,ts.length,Tc)] W λr w'=>∃(A':Option Addr) (c':Nat) (L:List Tm),r= .returned (.slice A' ts.length c')/\aH (qK w' A' L/\L.map Tm.t=ts.map Tm.t/\aD Q Q w')):=λW hW=>by
         refine(JZ Tc W (HA7.o.1.t.keep hW) (λx hx=>(HA7.o.1.se x hx).1.keep hW) (aaC HA7.o.2.t cC) (λx hx=>by have:=HA7.o.2.se x hx;omega)).mono ?_;rintro r w' ⟨A',c',L,rfl,h1,h2,h3⟩;exact⟨A',c',L,rfl,h1,h2,hW.trans (h3.mono hW.size)⟩
        have HNe:aH (∀W5 W A' c' L,aH (qK W5 A' L/\L.map Tm.t=ts.map Tm.t/\aD Q Q W5)->aD W5.heap.size W5 W->aG prog 24 #[.slice A' ts.length c', .int .i64 (od%2)] W λr w'=>∃gl,r= .returned (.tuple #[.pointer (some ⟨gl,0,none⟩),aU])/\aH ((∃y,bR (λb=>b<Q.heap.size) w' gl (kD (ts.map Tm.t) (od%2)) y)/\aD Q Q w')):=λW5 W A' c' L HX hV=>by
         have hW:aD Q Q W:=HX.o.2.2.trans (hV.mono HX.o.2.2.size);have hl:L.length=ts.length:=by have:=congrArg List.length HX.o.2.1;simpa using this
         have hse:∀x∈L,x.t.se.length<=1000000:=λx hx'=>by
          have h2:x.t∈ts.map Tm.t:=by rw[<-HX.o.2.1];exact acL.2 ⟨x,hx',rfl⟩
          obtain⟨y,hy,e⟩:=acL.1 h2;have:=HA7.o.2.se y hy;rw[<-e];omega
         have hc:=QJ (HX.o.1.keep hV) (by rw[hl];exact aaC HA7.o.2.t cC) hse c' (od%2);rw[hl,HX.o.2.1] at hc;refine hc.mono ?_;intro r w' hr;rw[Zz HNx.o.1] at hr;obtain⟨gl,y,r1,r2,r3⟩:=hr;exact⟨gl,r1,⟨y,r2.ts,r2.o.VM λb hb=>Zy hb hW.size⟩,hW.trans (r3.mono hW.size)⟩
        clear HTh HAl v HA7;generalize od%2=o2 at *;have ow:IntKind.i64.wrap o2=o2:=by rw[IntKind.wrap_i64];omega
        go_region_held3 (λW=>W.cell? (qa,5)=some (.slice TA ts.length Tc)/\W.cell? (qa,6)=some (.int .u8 od)) (first|exact⟨y5,y6⟩|exact⟨‹_›,‹_›⟩|fail) ((first|(go_at_call 25;(with_reducible refine(HTa.o _ (Below.refl _ _).drew).mono ?_);rintro r w3 ⟨A',c',L,rfl,HT3⟩;(have x5:=bG HT3.o.2.2 y5);(have x6:=bG HT3.o.2.2 y6))|(go_at_call 24;(with_reducible refine(HNe.o _ _ _ _ _ HT3 (Below.refl _ _)).mono ?_);rintro r w8 ⟨gl,rfl,Z⟩;(have z5:=bG Z.o.2 y5);(have z6:=bG Z.o.2 y6);(have z0:=bG Z.o.2 y0))|(go_at_call 24;(with_reducible refine(HNe.o _ _ _ _ _ HT3 (Below.refl _ _).drew).mono ?_);rintro r w8 ⟨gl,rfl,Z⟩;(have z5:=bG Z.o.2 y5);(have z6:=bG Z.o.2 y6);(have z0:=bG Z.o.2 y0))))
        all_goals
         clear x5 x6 z5 z6 y5 y6 y1 HT3 HTa HNe;go_wp2_with fail
         obtain⟨y,hy⟩:=Z.o.1;refine⟨⟨_,i+1,k',f,{pK with l:=some (kD (ts.map Tm.t) o2),g:=gl},rfl,rfl,aQ,rfl,?_,HE.o.2,HNx.o.2,?_⟩,by simp only[aL];omega⟩
         .first|exact(B.o.1.take Z.o.2 hy).less p.o.1|exact((B.o.1.take Z.o.2 hy).below ((Below.refl _ _).drew)).1.less p.o.1
         .first|exact HK6.o.trans ((B.o.2.trans (B.o.1.below Z.o.2).2).mono p.o.1)|exact HK6.o.trans ((B.o.2.trans (B.o.1.below Z.o.2.drew).2).mono p.o.1)
       .by_cases hk4:kd=4
        .subst hk4;go_wp2_with(go_at_call 12;(refine aR HCa ?_);rintro r Q ⟨rfl,k',f,HE,B⟩;(have I:=B.o.2.aY v.o p.o.2);(have y0:=I.cell 0 (.int .i64 4) rfl);(have y1:=I.cell 1 (.int .i64 (j:Int)) rfl);clear I)
         exact⟨⟨_,i+1,k',f,pK,rfl,rfl,aQ,rfl,(B.o.1.drop.Kb).less p.o.1,HE.o.2,(HAl.o _ _ HE.o.1).2.2 trivial trivial trivial,HK6.o.trans (B.o.2.mono p.o.1)⟩,by simp only[aL];omega⟩
        .have e3:(kd==3)=false:=by simpa using hk3
         have e4:(kd==4)=false:=by simpa using hk4
         have pN:=bN hk3 hk4;go_wp2_with(go_at_call 12;(refine aR HCa ?_);rintro r Q ⟨rfl,k',f,HE,B⟩;(have I:=B.o.2.aY v.o p.o.2);(have y0:=I.cell 0 kd rfl);(have y1:=I.cell 1 (.int .i64 (j:Int)) rfl);clear I)
         exact⟨⟨_,i+1,k',f,ro,rfl,rfl,aQ,HOv,B.o.1.less p.o.1,HE.o.2,(HAl.o _ _ HE.o.1).1 (.inr (.inr pN.o)),HK6.o.trans (B.o.2.mono p.o.1)⟩,by simp only[aL];omega⟩
      .have e1:(env !=(j:Int))=true:=by simpa using af
       have pN:=aP af;go_wp2_with(go_at_call 12;(refine aR HCa ?_);rintro r Q ⟨rfl,k',f,HE,B⟩;(have I:=B.o.2.aY v.o p.o.2);(have y0:=I.cell 0 kd rfl);(have y1:=I.cell 1 env rfl);clear I)
       exact⟨⟨_,i+1,k',f,ro,rfl,rfl,aQ,HOv,B.o.1.less p.o.1,HE.o.2,(HAl.o _ _ HE.o.1).1 (.inr (.inl pN.o)),HK6.o.trans (B.o.2.mono p.o.1)⟩,by simp only[aL];omega⟩
     .have e1:(E !=0)=true:=by simpa using hE
      have pN:=aP hE;clear hE;go_wp2_with(go_at_call 12;(refine aR HCa ?_);rintro r Q ⟨rfl,k',f,HE,B⟩)
      exact⟨⟨_,i+1,k',f,ro,rfl,rfl,aQ,HOv,B.o.1.less p.o.1,HE.o.2,(HAl.o _ _ HE.o.1).1 (.inl pN.o),HK6.o.trans (B.o.2.mono p.o.1)⟩,by simp only[aL];omega⟩
    .go_cut [58] (λs58 wx=>s58= .bool false/\wx=w6)
     case first=>
      by_cases hk1:1<=kd
      .have hk6:¬kd<=6:=λh=>hkk ⟨hk1,h⟩
       go_wp2_with fail
       go_meet
       exact⟨rfl,rfl⟩
      .go_wp2_with fail
       go_meet
       exact⟨rfl,rfl⟩
     case rest=>
     obtain⟨rfl,rfl⟩:=hcut;clear hkk c0;have z8:=v.o.cell 8 (.slice RA u.length Rc) rfl;have z9:=v.o.cell 9 (.slice WA ws.length Wc) rfl;have z10:=v.o.cell 10 (.slice XA xs.length Xc) rfl;have ag:=v.o.cell 11 (.slice QA qs.length Qc) rfl;have HTo:aH (aG prog 17 #[.agg #[(RA,u.length,Rc),(WA,ws.length,Wc),(XA,xs.length,Xc),(QA,qs.length,Qc)]] wc λr w'=>∃W2 Q2:uY,r= .returned (.agg #[(RA,u.length,Rc),(W2.A,W2.n,W2.c),(XA,xs.length,Xc),(Q2.A,Q2.n,Q2.c)])/\aH (Wm wc ws qs w' W2 Q2)):=by
      refine(Mn Wc Qc wc H.o.1.i.wt H.o.1.q (aaC H.o.2.w cC) (aaC H.o.2.q cC)).mono ?_;rintro r w' ⟨W2,Q2,rfl,o1,o2,n1,n2,bl⟩;exact⟨W2,Q2,rfl,bl,o1,o2,n1,n2⟩
     have HTc:aH (∀(V:World) (W2 Q2:uY),aH (Wm wc ws qs V W2 Q2)->aG prog 16 #[.pointer (some ⟨hb,0,none⟩), .agg #[(RA,u.length,Rc),(W2.A,W2.n,W2.c),(XA,xs.length,Xc),(Q2.A,Q2.n,Q2.c)]] V λr w'=>∃(o:Ou) (k2:Kv) (f:List Rm),r= .returned (.tuple #[.agg #[o.rn.env,o.rn.ch,(o.S.A,o.S.n,o.S.c),(o.R.A,o.R.n,o.R.c),(o.W.A,o.W.n,o.W.c),(o.A.A,o.A.n,o.A.c),o.tk,o.nu,(o.T.A,o.T.n,o.T.c),o.st, .int .i64 o.x, .int .i64 o.y, .int .u64 o.z],aU])/\aH (o.A.n=qs.length)/\aH (HQ (i+1) (22 *(i+1)) (9+110 *(i+1)) k2 f/\((bE f j).l=ro.l.map λx=>gG (eT j x qs) (decide (o.rn.env=(j:Int))))/\(∀x,ro.l=some x->o.rn.env=(j:Int)->(o.tk,o.nu)=iV (eT j x qs) (gY (eT j x qs) true))/\Sl eI 1 w' o.A.A (lM rs qs))/\aH (iK (λb=>F6 b\/aY o.A.A=some b) w' hb m g (1+d) k2 f [jB ro]/\Kp F6 wc w')):=λV W2 Q2 HX=>by
      have hW:aD wc wc V:=HX.o.b;have hg:=HO6.o.grow hW;obtain⟨G,sG,hh,back⟩:=hg.ho;have kb:=(HO6.o.below hW).2;have hF:=p.o.1;have hi:=H.o.1.i.kp (Kp.cB hW λb hb=>HO6.o.fl b (hF b hb));have oW:=HX.o.w;have oQ:=HX.o.q;have hi2:BU G V RA u W2.A ws XA xs:=⟨hi.r,λb hb=>sG b (.inl (hF b (hi.rF b hb))),oW.sl uE,FL (λb hb=>sG b (.inr (oW.lt b hb))) _,hi.x,λb hb=>sG b (.inl (hF b (hi.xF b hb))),λz hz=>⟨(hi.y z hz).1,λb hb=>sG b (.inl (hF b ((hi.y z hz).2.1 b hb))),(hi.y z hz).2.2⟩⟩
      have q0:=K.o.1;have hli:=H.o.2;have h1:=NF hh (n0:=9+110 *i) (M:=60) (nl:=22 *i) q0.ki aQ aQ (by have:=q0.nw;omega) (cR:=Rc) (cW:=W2.c) (cX:=Xc) (cQ:=Q2.c) hi2 (oQ.sl uE) (FL (λb hb=>sG b (.inr (oQ.lt b hb))) _) (by have h1:=hli.r;have h2:=hli.x;have h3:=hli.w;simp only at h1 h2 h3;omega) hli.xs q0.lb (by have h1:=hli.q;simp only at h1;omega);rw[HX.o.nw,HX.o.nq];refine h1.mono ?_;rintro r w' ⟨o,D,AS,k2,f,rfl,ht,ki2,hS,hA,oS,oA,hAb,h2,k2'⟩;obtain⟨b1,b2⟩:=back k2 f w' (λb=>aY o.S.A=some b\/aY o.A.A=some b) (λb hb=>hb.elim (λh=>(oS.lt b h).1) (hAb b)) (h2.less λb hb=>hb.elim (λh=> .inl (.inl h)) λh=>h.elim (λh=> .inl (.inr h)) .inr) k2';obtain⟨al1,al2⟩:=ht.alone q0.l8 HM4.o;rw[K.o.2] at al1 al2;refine⟨o,k2,f,rfl,?_,⟨?_,al1,al2,?_⟩,b1.less λb hb=>hb.elim (λh=> .inl (.inl h)) λh=> .inr (.inr h),kb.trans (b2.mono λb hb=> .inl hb)⟩
      .unfold aH;rw[hA,ht.Vp];exact CP _ _
      .have h3:=ht.hq (t:=i) (nl:=22 *i) q0 ki2 (by have h1:=hli.q;simp only at h1;omega) aQ aQ h2.l8;exact⟨h3.ki.mono aQ,h3.kq,h3.n0,h3.nw,h3.lb.up aQ (ab3 _),h3.l8⟩
      .rw[<-ht.Vp];exact oA.sl gK
     go_upto_region 19 with(first|(go_at_call 17;(refine aR HTo ?_);rintro r w5' ⟨W2,Q2,rfl,HT5⟩)|(go_at_call 16;(refine aS (HTc.o _ _ _ HT5) ?_);rintro r Q ⟨o,k2,f,rfl,hon,HD7,HM7⟩))
     have HAq:aH (pB (λb=>b<w2.heap.size) Q ⟨kd,env,n,bu,pe,TA,Tc,ts,od,CA,Cc,cs,RA,Rc,u,WA,Wc,ws,XA,Xc,xs,QA,Qc,qs⟩/\qI ⟨kd,env,n,bu,pe,TA,Tc,ts,od,CA,Cc,cs,RA,Rc,u,WA,Wc,ws,XA,Xc,xs,QA,Qc,qs⟩):=⟨H.o.1.kp (HM7.o.2.mono p.o.1),H.o.2⟩
     have HB7:aH (bF Q qa 44 #[kd,env, .int .u8 n,bu,pe,(TA,ts.length,Tc), .int .u8 od,(CA,cs.length,Cc),(RA,u.length,Rc),(WA,ws.length,Wc),(XA,xs.length,Xc),(QA,qs.length,Qc)]):=HM7.o.2.aY v.o p.o.2;have HK7:aH (Kp (λb=>b<w2.heap.size) w4 Q):=HK6.o.trans (HM7.o.2.mono p.o.1);clear HTo HTc HT5 z8 z9 z10 ag H v HK6 HO6;have HBo:=aP (bF.new Q 79 #[o.rn.env,o.rn.ch,(o.S.A,o.S.n,o.S.c),(o.R.A,o.R.n,o.R.c),(o.W.A,o.W.n,o.W.c),(o.A.A,o.A.n,o.A.c),o.tk,o.nu,(o.T.A,o.T.n,o.T.c),o.st, .int .i64 o.x, .int .i64 o.y, .int .u64 o.z]);have H8:=aP (HM7.o.1.box (aI #[o.rn.env,o.rn.ch,(o.S.A,o.S.n,o.S.c),(o.R.A,o.R.n,o.R.c),(o.W.A,o.W.n,o.W.c),(o.A.A,o.A.n,o.A.c),o.tk,o.nu,(o.T.A,o.T.n,o.T.c),o.st, .int .i64 o.x, .int .i64 o.y, .int .u64 o.z] 79));have HB9:aH (bF (Q.alloc (aI #[o.rn.env,o.rn.ch,(o.S.A,o.S.n,o.S.c),(o.R.A,o.R.n,o.R.c),(o.W.A,o.W.n,o.W.c),(o.A.A,o.A.n,o.A.c),o.tk,o.nu,(o.T.A,o.T.n,o.T.c),o.st, .int .i64 o.x, .int .i64 o.y, .int .u64 o.z] 79)) qa 44 #[kd,env, .int .u8 n,bu,pe,(TA,ts.length,Tc), .int .u8 od,(CA,cs.length,Cc),(RA,u.length,Rc),(WA,ws.length,Wc),(XA,xs.length,Xc),(QA,qs.length,Qc)]):=HB7.o.alloc _;have HA9:aH (pB (λb=>b<w2.heap.size) (Q.alloc (aI #[o.rn.env,o.rn.ch,(o.S.A,o.S.n,o.S.c),(o.R.A,o.R.n,o.R.c),(o.W.A,o.W.n,o.W.c),(o.A.A,o.A.n,o.A.c),o.tk,o.nu,(o.T.A,o.T.n,o.T.c),o.st, .int .i64 o.x, .int .i64 o.y, .int .u64 o.z] 79)) ⟨kd,env,n,bu,pe,TA,Tc,ts,od,CA,Cc,cs,RA,Rc,u,WA,Wc,ws,XA,Xc,xs,QA,Qc,qs⟩/\qI ⟨kd,env,n,bu,pe,TA,Tc,ts,od,CA,Cc,cs,RA,Rc,u,WA,Wc,ws,XA,Xc,xs,QA,Qc,qs⟩):=⟨HAq.o.1.kp ((HM7.o.1.below (aX Q _)).2.mono λb hb=> .inl (p.o.1 b hb)),HAq.o.2⟩
     have HK9:aH (Kp (λb=>b<w2.heap.size) w4 (Q.alloc (aI #[o.rn.env,o.rn.ch,(o.S.A,o.S.n,o.S.c),(o.R.A,o.R.n,o.R.c),(o.W.A,o.W.n,o.W.c),(o.A.A,o.A.n,o.A.c),o.tk,o.nu,(o.T.A,o.T.n,o.T.c),o.st, .int .i64 o.x, .int .i64 o.y, .int .u64 o.z] 79))):=HK7.o.trans ((HM7.o.1.below (aX Q _)).2.mono λb hb=> .inl (p.o.1 b hb));have HS9:aH (Sl eI 1 (Q.alloc (aI #[o.rn.env,o.rn.ch,(o.S.A,o.S.n,o.S.c),(o.R.A,o.R.n,o.R.c),(o.W.A,o.W.n,o.W.c),(o.A.A,o.A.n,o.A.c),o.tk,o.nu,(o.T.A,o.T.n,o.T.c),o.st, .int .i64 o.x, .int .i64 o.y, .int .u64 o.z] 79)) o.A.A (lM rs qs)):=HD7.o.2.2.2.keep (aX Q _);generalize Q.alloc (aI #[o.rn.env,o.rn.ch,(o.S.A,o.S.n,o.S.c),(o.R.A,o.R.n,o.R.c),(o.W.A,o.W.n,o.W.c),(o.A.A,o.A.n,o.A.c),o.tk,o.nu,(o.T.A,o.T.n,o.T.c),o.st, .int .i64 o.x, .int .i64 o.y, .int .u64 o.z] 79)=w9 at *;generalize Q.heap.size=qd at *;obtain⟨F9,hF9⟩:∃X,X=Fb (λb=>F6 b\/aY o.A.A=some b) qd:=⟨_,rfl⟩
     have P:aH ((∀b,F6 b->F9 b)/\(∀b,aY o.A.A=some b->F9 b)/\F9 qd):=by rw[hF9];exact⟨λb hb=> .inl (.inl hb),λb hb=> .inl (.inr hb), .inr rfl⟩
     rw[<-hF9] at H8;have HD9:aH (HQ (i+1) (22 *(i+1)) (9+110 *(i+1)) k2 f/\((bE f j).l=ro.l.map λx=>gG (eT j x qs) (decide (o.rn.env=(j:Int))))/\(∀x,ro.l=some x->o.rn.env=(j:Int)->(o.tk,o.nu)=iV (eT j x qs) (gY (eT j x qs) true))):=⟨HD7.o.1,HD7.o.2.1,HD7.o.2.2.1⟩
     clear HM7 HB7 HK7 HAq HD7 hF9;have x5:=HBo.o.cell 5 (.slice o.A.A o.A.n o.A.c) rfl;rw[hon.o] at x5;have ag:=HB9.o.cell 11 (.slice QA qs.length Qc) rfl;have O:aH (∀W,aD w9 w9 W->aG prog 26 #[.pointer (some ⟨hb,0,none⟩),j] W λr w'=>r= .returned (pZ (bE f j).l (bE f j).g)/\aD W.heap.size W w'):=λW hW=>by
      obtain⟨G,hx⟩:=(H8.o.below hW).1.Sk;have:=PJ hx (j:Int);rw[TE HM4.o] at this;exact this
     cases aa:ro.l with
     |none=>
      have e0:ov= .pointer none:=by rw[HOv.o,aa];rfl
      have HRl:=aP aa;have hl2:(bE f j).l=none:=by rw[HD9.o.2.1,aa];rfl
      have HL2:=aP hl2;rw[hl2] at O;unfold pZ at O;simp only[abT] at O;clear aa hl2;subst e0;go_wp2_with(go_at_call 26;(refine aS (O.o _ (Below.refl _ _)) ?_);rintro r w10 ⟨rfl,Y⟩;(replace x5:=bG Y x5);(replace ag:=bG Y ag))
      have h10:=H8.o.below Y;exact⟨⟨_,i+1,k2,f,ro,rfl,rfl,aQ,HOv,h10.1.less λb hb=>P.o.1 b (p.o.1 b hb),HD9.o.1,by rw[HL2.o,HRl.o],HK9.o.trans (h10.2.mono λb hb=>P.o.1 b (p.o.1 b hb))⟩,by simp only[aL];omega⟩
     |some x=>
      have e0:ov= .pointer ro.g:=by rw[HOv.o,aa];rfl
      have HRl:=aP aa;have hl2:(bE f j).l=some (gG (eT j x qs) (decide (o.rn.env=(j:Int)))):=by rw[HD9.o.2.1,aa];rfl
      have HL2:=aP hl2;rw[hl2] at O;unfold pZ at O;simp only[aa4] at O;have jN:aH (o.rn.env=(j:Int)->(o.tk,o.nu)=iV (eT j x qs) (gY (eT j x qs) true)):=HD9.o.2.2 x aa;have HQx:aH (∀n,n<=qs.length->kT (eT j x (qs.take n)) (22 *i+n)/\(eT j x (qs.take n)).nw<=k.s.nw):=λn hn=>by
       have h1:=K.o.1.lb.asks (qs.take n) K.o.1.l8 j (eT j x (qs.take n)) (by rw[EJ HM4.o _ K.o.1.l8,K.o.2,aa];rfl);rw[abJ,Nat.min_eq_left hn] at h1;exact h1
      have HAm:aH (∀(n:Nat) (hn:n<qs.length),qs[n].1=(j:Int)->(lM rs qs)[n]?=some (jD (eT j x (qs.take n)) qs[n].2.1 qs[n].2.2).1):=λn hn he=>ZN K.o.1.l8 HM4.o (by rw[K.o.2,aa]) hn he
      obtain⟨go_,hgo⟩:∃X,X=ro.g:=⟨_,rfl⟩
      have HRg:aH (iK F9 w9 hb m g (1+d) k2 f [jB {pK with l:=some x,g:=go_}]):=by
       have e:jB ro=jB {pK with l:=some x,g:=go_}:=by
        unfold jB;have e1:GN ro=GN {pK with l:=some x,g:=go_}:=by
         funext F w
         unfold GN;simp only[aa,hgo]
        congr
       rw[<-e];exact H8.o
      rw[<-hgo] at e0;clear aa hl2 H8 hgo HOv;subst e0;go_upto_region 22 with(go_at_call 26;(refine aS (O.o _ (Below.refl _ _)) ?_);rintro r w10 ⟨rfl,Y⟩;(replace x5:=bG Y x5);(replace ag:=bG Y ag))
      have H10:aH (iK F9 w10 hb m g (1+d) k2 f [jB {pK with l:=some (eT j x (qs.take 0)),g:=go_}]/\Kp F9 w9 w10):=HRg.o.below Y;clear O HRg x5 ag Y;go_wp2_with fail
      go_loopw [14] (λv14 wr=>∃C:Nat,v14= .int .i64 C/\C<=qs.length/\aH (iK F9 wr hb m g (1+d) k2 f [jB {pK with l:=some (eT j x (qs.take C)),g:=go_}]/\Kp F9 w9 wr)) (λv14 _=>qs.length - (aL v14).toNat)
      case atStart=>exact⟨0,rfl,aaH _,H10.o⟩
      case round=>
       clear H10;obtain⟨C,rfl,hn,HN⟩:=hrel;have n0:(0:Int)<=C:=aQ;have HBq:aH (bF wr qa 44 #[kd,env, .int .u8 n,bu,pe,(TA,ts.length,Tc), .int .u8 od,(CA,cs.length,Cc),(RA,u.length,Rc),(WA,ws.length,Wc),(XA,xs.length,Xc),(QA,qs.length,Qc)]):=HN.o.2.aY HB9.o (P.o.1 _ p.o.2);have HBd:aH (bF wr qd 79 #[o.rn.env,o.rn.ch,(o.S.A,o.S.n,o.S.c),(o.R.A,o.R.n,o.R.c),(o.W.A,o.W.n,o.W.c),(o.A.A,o.A.n,o.A.c),o.tk,o.nu,(o.T.A,o.T.n,o.T.c),o.st, .int .i64 o.x, .int .i64 o.y, .int .u64 o.z]):=HN.o.2.aY HBo.o P.o.2.2;have ag:=HBq.o.cell 11 (.slice QA qs.length Qc) rfl;have jq:qs.length<=20:=by have:=HA9.o.2.q;simpa using this
       by_cases hnl:C<qs.length
       .have n1:(C:Int)<(qs.length:Int):=aQ;have hq:=(HA9.o.1.kp (HN.o.2.mono λb hb=>P.o.1 b (p.o.1 b hb))).q;obtain⟨b,off,rfl,hc⟩:=hq.cells hnl;have HAn:aH (qs[C].1=(j:Int)->(lM rs qs)[C]?=some (jD (eT j x (qs.take C)) qs[C].2.1 qs[C].2.2).1):=HAm.o C hnl;have HSn:aH (eT j x (qs.take (C+1))=if qs[C].1=(j:Int) then(jD (eT j x (qs.take C)) qs[C].2.1 qs[C].2.2).2 else eT j x (qs.take C)):=by
         unfold aH;rw[abE,Zv hnl,adT,Aw]
        generalize qs[C]=a at *;obtain⟨ae,at_,ad⟩:=a;have u0:wr.cell? ⟨b,off+C *3,none⟩=some (.int .i64 ae):=hc 0 _ rfl;have u1:wr.cell? ⟨b,off+C *3+1,none⟩=some (.int .i64 at_):=hc 1 _ rfl;have u2:wr.cell? ⟨b,off+C *3+2,none⟩=some (.int .i64 ad):=hc 2 _ rfl;clear hc hq;go_upto_region 26 with(fail)
        have HBn:=aP (bF.new wr 106 #[ae,at_,ad]);have H11:aH (iK (Fb F9 wr) (wr.alloc (aI #[ae,at_,ad] 106)) hb m g (1+d) k2 f [jB {pK with l:=some (eT j x (qs.take C)),g:=go_}]/\Kp F9 w9 (wr.alloc (aI #[ae,at_,ad] 106))):=⟨HN.o.1.box _,HN.o.2.trans (HN.o.1.below (aX wr _)).2⟩
        have HBe:aH (bF (wr.alloc (aI #[ae,at_,ad] 106)) qd 79 #[o.rn.env,o.rn.ch,(o.S.A,o.S.n,o.S.c),(o.R.A,o.R.n,o.R.c),(o.W.A,o.W.n,o.W.c),(o.A.A,o.A.n,o.A.c),o.tk,o.nu,(o.T.A,o.T.n,o.T.c),o.st, .int .i64 o.x, .int .i64 o.y, .int .u64 o.z]):=HBd.o.alloc _;have HSr:aH (Sl eI 1 (wr.alloc (aI #[ae,at_,ad] 106)) o.A.A (lM rs qs)):=(HS9.o.AG H11.o.2 (FL P.o.2.1 _))
        clear u0 u1 u2 ag HN HBq HBd;generalize wr.alloc (aI #[ae,at_,ad] 106)=w11 at *;generalize wr.heap.size=qn at *;have b0:=HBn.o.cell 0 ae rfl;have b1:=HBn.o.cell 1 at_ rfl;have b2:=HBn.o.cell 2 ad rfl;have d5:=HBe.o.cell 5 (.slice o.A.A o.A.n o.A.c) rfl;rw[hon.o] at d5;by_cases af:ae=(j:Int)
        .have hAt:=HAn.o af;have HS2:aH (eT j x (qs.take (C+1))=(jD (eT j x (qs.take C)) at_ ad).2):=by unfold aH;rw[HSn.o,Zz af]
         have hlen:C<(lM rs qs).length:=by rw[CP];exact hnl
         obtain⟨b4,off4,hO4,r0⟩:=HSr.o.ET (i:=C) hlen;rw[Zv hlen,aeB] at hAt;rw[hAt] at r0;rw[hO4] at d5;have HFr:aH (F9 b4):=P.o.2.1 b4 (by rw[hO4];rfl);have HAs:aH (aG prog 27 #[.pointer go_,at_,ad] w11.drew λr w'=>r= .returned (.int .i64 (jD (eT j x (qs.take C)) at_ ad).1)/\aH (iK (Fb F9 qn) w' hb m g (1+d) k2 f [jB {pK with l:=some (jD (eT j x (qs.take C)) at_ ad).2,g:=go_}]/\Kp (Fb F9 qn) w11 w')):=by
          obtain⟨h12,k12⟩:=H11.o.1.below ((Below.refl w11 w11).drew);obtain⟨G,y,hy,back⟩:=h12.Aj rfl;refine(QN hy (HQx.o C aQ).1 aQ at_ ad).mono ?_;rintro r w' ⟨r1,r2,r3⟩;obtain⟨s1,s2⟩:=back _ w' r2 r3;exact⟨r1,s1,k12.trans s2⟩
         generalize (jD (eT j x (qs.take C)) at_ ad).1=av at *;clear HAn HSn hAt hO4;subst af;go_region_held3 (λW=>W.cell? (qn,0)=some (.int .i64 (j:Int))/\W.cell? (qn,1)=some (.int .i64 at_)/\W.cell? (qn,2)=some (.int .i64 ad)/\W.cell? (qd,5)=some (.slice (some ⟨b4,off4,none⟩) qs.length o.A.c)/\W.cell? (b4,off4+C)=some (.int .i64 av)) (first|with_reducible exact⟨‹_›,‹_›,‹_›,‹_›,‹_›⟩|exact⟨b0,b1,b2,d5,r0⟩|fail) ((go_at_call 27;(refine aR HAs ?_);rintro r w12 ⟨rfl,N⟩;(have y0:=N.o.2.cell b0 (.inr rfl));(have y1:=N.o.2.cell b1 (.inr rfl));(have y2:=N.o.2.cell b2 (.inr rfl));(have y5:=N.o.2.cell d5 (.inl P.o.2.2));(have y6:=N.o.2.cell r0 (.inl HFr.o))))
         all_goals
          clear b0 b1 b2 d5 r0 y0 y1 y2 y5 y6;go_wp2_with fail
          refine⟨⟨C+1,rfl,aQ,?_⟩,by simp only[aL];omega⟩;rw[HS2.o];first|exact⟨N.o.1.less λb hb=> .inl hb,H11.o.2.trans (N.o.2.mono λb hb=> .inl hb)⟩|exact⟨((N.o.1.less λb hb=> .inl hb).below ((Below.refl _ _).drew)).1,(H11.o.2.trans (N.o.2.mono λb hb=> .inl hb)).trans ((N.o.1.less λb hb=> .inl hb).below ((Below.refl _ _).drew)).2⟩
        .have HS2:aH (eT j x (qs.take (C+1))=eT j x (qs.take C)):=by unfold aH;rw[HSn.o,aaA af]
         have e1:(ae==(j:Int))=false:=by simpa using af
         clear HAn HSn;(have aft_b0:=bZ.cell b0;refine dB aV aV ?_;(repeat (go_big_quiet_step (fail)));refine wpQuiet_nil ?_;clear aft_b0;intro w13 hw2_;have hb13:=bZ.below hw2_;clear hw2_)
         have HF2:aH (iK F9 w13 hb m g (1+d) k2 f [jB {pK with l:=some (eT j x (qs.take C)),g:=go_}]/\Kp F9 w9 w13):=⟨((H11.o.1.less λb hb=> .inl hb).below hb13).1,H11.o.2.trans ((H11.o.1.less λb hb=> .inl hb).below hb13).2⟩
         clear b0 b1 b2 d5 hb13 H11;go_wp2_with fail
         exact⟨⟨C+1,rfl,aQ,by rw[HS2.o];exact HF2.o⟩,by simp only[aL];omega⟩
       .obtain rfl:C=qs.length:=aQ;have n1:¬(qs.length:Int)<(qs.length:Int):=aQ;have x0:=HBd.o.cell 0 o.rn.env rfl;have x6:=HBd.o.cell 6 o.tk rfl;have x7:=HBd.o.cell 7 o.nu rfl;have hX:=HQx.o qs.length (Zw _);have hN:=HN.o;rw[ab9] at hX hN;have HXI:=aP hX;have HNN:=aP hN;obtain⟨ev,hev⟩:∃X,X=o.rn.env:=⟨_,rfl⟩
        rw[<-hev] at x0 jN HL2;obtain⟨gv,hgv⟩:∃X:Bool,X=decide (ev=(j:Int)):=⟨_,rfl⟩
        rw[<-hgv] at HL2;have hbev:(ev==(j:Int))=gv:=by rw[hgv];rfl
        have HTi:aH (aG prog 28 #[.pointer go_,gv] wr λr w'=>r= .returned (.tuple #[.int .i64 (iV (eT j x qs) (gY (eT j x qs) gv)).1, .int .i64 (iV (eT j x qs) (gY (eT j x qs) gv)).2,true])/\aH (iK F9 w' hb m g (1+d) k2 f [jB {pK with l:=some (gG (eT j x qs) gv),g:=go_}]/\Kp F9 wr w')):=by
         obtain⟨G,y,hy,back⟩:=HNN.o.1.Aj rfl;refine(M7 hy HXI.o.1 (by have:=HA9.o.2.q;simp only at this;omega) (by have:=HXI.o.2;have:=K.o.1.nw;omega) gv).mono ?_;rintro r w' ⟨r1,r2,r3⟩;obtain⟨s1,s2⟩:=back _ w' r2 r3;exact⟨r1,s1,s2⟩
        have HLJ:aH ((gG (eT j x qs) gv).jb.length<=1000000):=by
         have h1:=(HXI.o.1.tick (by have:=HXI.o.2;have:=K.o.1.nw;omega) (by have:=HA9.o.2.q;simp only at this;omega) gv).jl;have:=HA9.o.2.q;simp only at this;unfold aH;omega
        have HPl:aH (gv=true->o.tk=(iV (eT j x qs) (gY (eT j x qs) gv)).1/\o.nu=(iV (eT j x qs) (gY (eT j x qs) gv)).2):=λhg=>by
         have h1:=jN.o (by rw[hgv] at hg;exact abQ hg);rw[hg,<-h1];exact⟨rfl,rfl⟩
        generalize iV (eT j x qs) (gY (eT j x qs) gv)=pv at *;obtain⟨p1,p2⟩:=pv;generalize gG (eT j x qs) gv=X at *;clear hev hgv hX hN jN HXI HQx HAm HNN;go_upto_region 29 with(go_at_call 28;(refine aR HTi ?_);rintro r ah ⟨rfl,U⟩;(have y0:=U.o.2.cell x0 P.o.2.2);(have y6:=U.o.2.cell x6 P.o.2.2);(have y7:=U.o.2.cell x7 P.o.2.2))
        have O:aH (aG prog 26 #[.pointer (some ⟨hb,0,none⟩),j] ah λr w'=>r= .returned (.pointer (some ⟨(bE f j).g,0,none⟩))/\aH (aD ah ah w')):=by
         obtain⟨G,hx⟩:=U.o.1.Sk;have:=PJ hx (j:Int);rw[TE HM4.o] at this;unfold pZ at this;rw[HL2.o] at this;exact this
        have HAk:aH (∀W,aH (aD ah ah W)->aG prog 29 #[.pointer (some ⟨(bE f j).g,0,none⟩), .pointer go_] W λr w'=>r= .returned (.bool true)/\aH (aD W.heap.size W w')):=λW hW=>by
         obtain⟨h15,_⟩:=U.o.1.below hW.o;obtain⟨G,y,hy,_⟩:=h15.Aj rfl;obtain⟨G2,hx⟩:=h15.Sk;have hi8:j<f.length:=by rw[hx.l8];have:=HM4.o;omega
         obtain⟨G3,y3,hy3⟩:=hx.UD hi8 (by rw[kK hi8];exact HL2.o);rw[kK hi8] at hy3;exact V6 hy3 hy HLJ.o
        have HGl:aH ((bE f j).l=some X):=HL2;generalize (bE f j).g=g1 at *;clear x0 x6 x7 HTi HL2 HBd;cases gv with
        |false=>
         go_wp2_with(first|(go_at_call 26;(refine aR O ?_);rintro r w15 ⟨rfl,J⟩;(replace y0:=bG J.o y0))|(go_at_call 29;(refine aS (HAk.o _ J) ?_);rintro r w16 ⟨rfl,ab⟩;(replace y0:=bG ab.o y0)))
         have hB:aD ah ah w16:=J.o.trans (ab.o.mono J.o.size);have h16:=U.o.1.below hB;exact⟨⟨_,i+1,k2,f,{pK with l:=some X,g:=go_},rfl,rfl,aQ,rfl,h16.1.less λb hb=>P.o.1 b (p.o.1 b hb),HD9.o.1,HGl.o,HK9.o.trans (((HN.o.2.trans U.o.2).trans h16.2).mono λb hb=>P.o.1 b (p.o.1 b hb))⟩,by simp only[aL];omega⟩
        |true=>
         obtain⟨t1,t2⟩:=HPl.o rfl;rw[t1] at y6;rw[t2] at y7;clear HPl t1 t2;go_wp2_with(first|(go_at_call 26;(refine aR O ?_);rintro r w15 ⟨rfl,J⟩;(replace y0:=bG J.o y0);(replace y6:=bG J.o y6);(replace y7:=bG J.o y7))|(go_at_call 29;(refine aS (HAk.o _ J) ?_);rintro r w16 ⟨rfl,ab⟩;(replace y0:=bG ab.o y0);(replace y6:=bG ab.o y6);(replace y7:=bG ab.o y7)))
         have hB:aD ah ah w16:=J.o.trans (ab.o.mono J.o.size);have h16:=U.o.1.below hB;exact⟨⟨_,i+1,k2,f,{pK with l:=some X,g:=go_},rfl,rfl,aQ,rfl,h16.1.less λb hb=>P.o.1 b (p.o.1 b hb),HD9.o.1,HGl.o,HK9.o.trans (((HN.o.2.trans U.o.2).trans h16.2).mono λb hb=>P.o.1 b (p.o.1 b hb))⟩,by simp only[aL];omega⟩
   .have hil:i=l.length:=aQ;have j1:¬(i:Int)<(l.length:Int):=aQ;clear hil;go_wp2_with(go_at_call 7;(refine aS (HAw.o _) ?_);rintro r w5' ⟨rfl,hb5'⟩)
    go_ret
    have hBr:aD w w wr:=HB5.o.trans (HR.o.2.2.2.low λb hb=>Zy hb HZ2.o);exact⟨rfl,hBr.trans (hb5'.mono hBr.size)⟩
end
end
section
open Go.ChangeShapes Go.WideShapes Go.ChangeAt Go.RowKit Go.Joins Go.Lib Go.Shelf Go.Deep dF Fr Up Nt
theorem U7{a b:Bool}(h:a=true)(k:b=true):(a&&b)=true:=by rw[h,k];rfl
theorem topAlone_contract(H:Type)(enc:TypeId×Value->H)(W:World)(base:Nat)(args:Array Value)(n gs:List (DataW H))(before:List MemPlace)
 (a:∀(j:Nat) t v,f5.params[j]?=some t->args[j]?=some v->Value.okWide prog W .any base t v)
 (i:DataW.Whole enc prog f5.params.toList Rows.topAloneSpec.vars false W args.toList n gs before):
 aG prog 5 args W λe o=>∃v,e= .returned v/\Rows.topAloneSpec.post enc prog f5 false true false false W args v o:=by
 have k:=i;have z:=i.lt;obtain⟨p,q,d,B,rfl,C,D⟩:=i;have r:DataW.TrodAll enc prog W 0 (λ_=>true) true f5.params.toList args.toList n p:=d;rw[params5] at r a;obtain⟨v0,v1,v2,d0,d1,d2,p0,p1,p2,rfl,rfl,rfl,E,h1,F⟩:=trodAll_three r;obtain⟨rfl,rfl⟩:=trodVars_none B;obtain⟨cl,rfl,rfl,rfl,f⟩:=open_int underlying5 (a 0 5 v0 rfl rfl) E;have s:=wf_u8 f;obtain⟨en,rfl,rfl,rfl,g⟩:=open_int underlying5 (a 1 5 v1 rfl rfl) h1;have u:=wf_u8 g;obtain⟨A,l,c,rfl,x,y,h,m⟩:=YC (enc:=MQ) (pB (λb=>b<W.heap.size) W) underlying22 (show prog.cellsOf 44=12 by kernel_rfl) aQ (a 2 22 v2 rfl rfl) F Tf;clear d a;refine(U0 cl en aQ aQ c W ⟨h,h.fE Qo aQ⟩ m).mono λe o ⟨he,hb⟩=>⟨_,he,?_⟩
 exact Gm (tb:=4) rfl rfl underlying4 (by rw[params5];decide+kernel) k rfl hb
theorem JP(os:Os)(started:os.Started)(H:Type)(enc:TypeId×Value->H):
 ReturnsInHanded {} checked os 5 .any (Rows.topAloneSpec.pre6 enc prog f5 Rows.topAloneRow.domain false) (Rows.topAloneSpec.post enc prog f5 false true false false):=by
 refine returnsInHanded_of_change (C:=checked) own started aV func5
  (ChangeSpec.witness6 (enc:=enc) (C:=checked) false ⟨#[],#[.int .u8 0, .int .u8 0,bH], []⟩ 8 aV aV aV aV) ?_
 intro W base args b gs before a c _ _;exact topAlone_contract H enc W base args b gs before a c
theorem JI:∀P,P=Tryz.pinned.checked.prog->joinedFacts P 5 f5 Rows.topAloneSpec Rows.topAloneRow=true:=by
 intro P a;unfold joinedFacts;(iterate 31 (refine U7 ?_ (by
  try rw[a]
  as_aux_lemma=>kernel_rfl)))
 try rw[a]
 as_aux_lemma=>kernel_rfl
theorem topAlone_holds:Rows.TopAloneSaid:=
 OpenClaim.holds_of_wide 5 f5 rfl rfl rfl rfl rfl rfl rfl ⟨rfl,rfl,rfl,rfl,rfl⟩ rfl rfl rfl rfl rfl aV func5 (JI _ rfl)
  (abQ aV) (by unfold Func.isWrapper;first|(rw[Zz (by decide+kernel)];kernel_rfl)|(rw[aaA (by decide+kernel)];exact⟨rfl,rfl⟩))
  (λos started H enc _=>JP os started H enc)
#print axioms topAlone_holds
end
end Go.Proofs.YtacgiflhgdaeaaaGreat
