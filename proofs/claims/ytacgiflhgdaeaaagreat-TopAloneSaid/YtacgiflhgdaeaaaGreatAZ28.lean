/- Texts laid as one. -/
import Derived.Test.YtacgiflhgdaeaaaGreatAZ2
import Derived.Test.YtacgiflhgdaeaaaGreatAZ26
import Derived.Test.YtacgiflhgdaeaaaGreatAZ27
set_option linter.unusedVariables false
set_option linter.unusedSimpArgs false
set_option maxRecDepth 100000
set_option maxHeartbeats 20000000
namespace Go.Proofs.YtacgiflhgdaeaaaGreat
open Go.Proofs.Tryz
open Go renaming World->aA,Value->aC,Calls->aG
open Go.RowKit renaming Below->aD,Hid->aH,intOf->aL
open Go.Obj renaming cells->aI
section
open Go.RowKit
end
section
open Go.RowKit Go.Lib Go.Shelf dF Fr Up Nt
structure jN(c:Int)(k:Kv)(rs:List Rm)(ws:List (Int×Int×Int))(xs:List Wd)(qs:List (Int×Int×Int))(rn:Rn)(D:List (Int×Int))(AS:List Int)(tk nu:Int)(nT:Nat)(k':Kv)(rs':List Rm):Prop where
 Vp:AS=lM rs qs
 t:∃k2,sO {k with s:=jZ k.s (gD rs qs) 8} c ws xs rn D k2/\((∃i:Nat,rn.env=i/\i<4/\(bE (gD rs qs) i).ru=true/\lZ i k2 k'/\vM (iI (gD rs qs) rn.env 8) rs' i)\/((rn.env<0\/∃i:Nat,rn.env=i/\i<4/\(bE (gD rs qs) i).ru=false)/\k'=k2/\rs'=iI (gD rs qs) rn.env 8))
 j:(tk,nu)=lN (gD rs qs) rn.env 8
 n:nT=(kV (gD rs qs) rn.env 8).length
def Ja(F:Nat->Prop)(hb m g:Nat)(c:Int)(k:Kv)(rs:List Rm)(n0 M:Nat)(ws:List (Int×Int×Int))(xs:List Wd)(qs:List (Int×Int×Int))(w:aA)(e:Ending)(w':aA):Prop:=
 ∃(o:Ou) (D:List (Int×Int)) (AS:List Int) (k':Kv) (rs':List Rm),e= .returned (.tuple #[.agg (jW o).toArray,aU])/\jN c k rs ws xs qs o.rn D AS o.tk o.nu o.T.n k' rs'/\KI k' (n0+M+40)/\o.S.n=D.length/\o.A.n=AS.length/\
  bI u7 2 w' w.heap.size 227 o.S.A o.S.c D/\bI eI 1 w' 0 45 o.A.A o.A.c AS/\(∀b,aY o.A.A=some b->w.heap.size<=b)/\bV (cE (cE F o.S.A) o.A.A) w' hb m g c k' rs'/\Kp F w w'
variable{n0 nl cR cX cQ:Nat}{AR AW AX AQ:Option Addr}{ls:List Int}{ws qs:List (Int×Int×Int)}
section
variable{F:Nat->Prop}{w w0 w':aA}{hb m g:Nat}{c:Int}{k:Kv}{rs:List Rm}
theorem NF(h:bV F w hb m g c k rs){M:Nat}(hI:KI k n0)(hM:n0+M+40<999999/\M<=50000)(hc:1<=c/\c<=64)(hnw:k.s.nw<1048576){cW:Nat}{xs:List Wd}(O:BU F w AR ls AW ws AX xs)(hq:Sl mB 3 w AQ qs)(hqF:∀b,mK AQ qs.length=some b->F b)
 (hlr:ls.length<=1000/\ws.length<=1000/\xs.length<=1000) (hxM:∀z∈xs,z.xs.length<=M) (hL:nV rs nl k.s.nw) (hn:nl+qs.length<=2700):
 aG prog 16 #[.pointer hb, .agg #[(AR,ls.length,cR),(AW,ws.length,cW),(AX,xs.length,cX),(AQ,qs.length,cQ)]] w (Ja F hb m g c k rs n0 M ws xs qs w):=by
 have hb1:=aX w (aI #[(AR,ls.length,cR),(AW,ws.length,cW),(AX,xs.length,cX),(AQ,qs.length,cQ)] 87);have hb2:=hb1.alloc hb1.size (aI (jW (sL 0)).toArray 79);have hz2:((w.alloc (aI #[(AR,ls.length,cR),(AW,ws.length,cW),(AX,xs.length,cX),(AQ,qs.length,cQ)] 87)).alloc (aI (jW (sL 0)).toArray 79)).heap.size=w.heap.size+1+1:=aT;have ib:=(bF.new w 87 #[(AR,ls.length,cR),(AW,ws.length,cW),(AX,xs.length,cX),(AQ,qs.length,cQ)]).keep (aX _ (aI (jW (sL 0)).toArray 79));have rb:=bF.fI (w.alloc (aI #[(AR,ls.length,cR),(AW,ws.length,cW),(AX,xs.length,cX),(AQ,qs.length,cQ)] 87)) 79 (jW (sL 0)).toArray (g:=w.heap.size+1) aT;have HIn:=dA O hq hqF;have HKI:=dA hI hM.1 hxM;have HLb:=bN hL hn;have HB2:=aP hb2;have U:aH (bV (Gk F w) ((w.alloc (aI #[(AR,ls.length,cR),(AW,ws.length,cW),(AX,xs.length,cX),(AQ,qs.length,cQ)] 87)).alloc (aI (jW (sL 0)).toArray 79)) hb m g c k rs/\Kp F w ((w.alloc (aI #[(AR,ls.length,cR),(AW,ws.length,cW),(AX,xs.length,cX),(AQ,qs.length,cQ)] 87)).alloc (aI (jW (sL 0)).toArray 79))):=by
  refine⟨(dN.grow (bV.cD hb m g c k rs) h h.fl hb2).less λb hb=>?_,(h.below hb2).2⟩;rcases hb with hb|hb|hb
  .exact .inl hb
  .exact .inr ⟨aQ,aQ⟩
  .exact .inr ⟨aQ,aQ⟩
 have H8:=aP h.l8;have HNW:=aP hnw;have HMM:=aP hM.2;have HZ:aH (∀b,(F b\/b=w.heap.size\/b=w.heap.size+1)->b<w.heap.size+1+1):=λb hb=>by
  rcases hb with hb|rfl|rfl
  .have:=h.fl b hb;omega
  .omega
  .omega
 have HN1:aH (¬F w.heap.size/\¬F (w.heap.size+1)):=⟨λhb=>by have:=h.fl _ hb;omega,λhb=>by have:=h.fl _ hb;omega⟩
 have hin0:=ib.cell 3 (.slice AQ qs.length cQ) rfl;have HX2:=bN ib rb;simp only[jW,sL,GL] at U hb2 hz2 HB2 HX2 hin0;obtain⟨l1,l2,l3⟩:=hlr;obtain⟨c1,c2⟩:=hc;clear h hb1 hb2 ib rb O hq hqF hI hM hL hn hxM;go_enter func16,ntmps16
 go_upto_region 1 with(fail)
 generalize ((w.alloc (aI #[(AR,ls.length,cR),(AW,ws.length,cW),(AX,xs.length,cX),(AQ,qs.length,cQ)] 87)).alloc (aI #[aU,false,bH,bH,bH,bH,aU,aU,bH,aU,aU,aU,bC] 79))=w2 at *;have c0:=U.o.1.c0;unfold pA at c0;obtain⟨G0,gs,hs,d0,d6,_⟩:=U.o.1.sd;have HNw:=aP (vR hs);clear hs;go_wp2_with(go_at_call 11;(refine aS (mS d0) ?_);rintro x w3 ⟨rfl,rfl⟩)
 refine aR HNw ?_;rintro x w3 ⟨rfl,rfl⟩;clear HNw;have HT:=aP (dV.start U.o.1 (-1));simp only[jW,sL,GL] at HT;go_upto_region 7 with(fail)
 generalize w2.alloc (aI #[aU,false,bH,bH,bH,bH, .int .i64 (-1),aU,bH,aU,aU,aU,bC] 79)=w3 at *;have H3:aH (dV (Gk F w) w3 hb m g c k rs w2 (sL (-1)) [] []/\Kp (Gk F w) w2 w3):=HT.o;rw[hz2] at H3;have HK2:aH (Kp F w w2):=U.o.2;have hlw:w2.heap.size<=w3.heap.size:=H3.o.2.size;rw[hz2] at hlw;clear HT U hin0 c0 d0 d6 hz2 hnw HB2;generalize hq1:w.heap.size=q1 at *;have HQ1:=aP hq1;clear hq1;have HX3:aH (bF w3 q1 87 #[(AR,ls.length,cR),(AW,ws.length,cW),(AX,xs.length,cX),(AQ,qs.length,cQ)]/\bF w3 (q1+1) 79 #[aU,false,bH,bH,bH,bH,aU,aU,bH,aU,aU,aU,bC]):=⟨H3.o.2.aY HX2.o.1 (.inr (.inl rfl)),H3.o.2.aY HX2.o.2 (.inr (.inr rfl))⟩
 have HK3:aH (Kp F w w3):=HK2.o.trans (H3.o.2.mono λb hb=> .inl hb);have HIn3:aH (BU F w3 AR ls AW ws AX xs/\Sl mB 3 w3 AQ qs/\∀b,mK AQ qs.length=some b->F b):=⟨HIn.o.1.kp HK3.o,HIn.o.2.1.AG HK3.o HIn.o.2.2,HIn.o.2.2⟩
 have HKF:aH (∀W W',Kp (Gk F q1) W W'->Kp F W W'):=λW W' h=>h.mono λb hb=> .inl hb
 have i3:=HX3.o.1.cell 3 (.slice AQ qs.length cQ) rfl;clear HX2 HIn HK2;go_wp2_with fail
 go_loopw [48] (λv48 wr=>∃i:Nat,v48= .int .i64 i/\i<=qs.length/\aH (∃A cA,dV (Gk F q1) wr hb m g c k (gD rs (qs.take i)) (q1+1+1) ((sL (-1)).sA ⟨A,i,cA⟩) (lM rs (qs.take i)) []/\Kp (Gk F q1) w3 wr/\∀b,aY A=some b->q1<=b)) (λv48 _=>qs.length - (aL v48).toNat)
 case atStart=>exact⟨0,rfl,aaH _,none,0,H3.o.1,Kp.refl _ _,λb h=>by cases h⟩
 case round=>
  clear H3 i3;obtain⟨i,rfl,hi,HR⟩:=hrel;obtain⟨A,cA,hR,hkR,hnR⟩:=HR.o;have HR:=dA hR hkR hnR;by_cases O:i<qs.length
  .obtain⟨b,off,rfl,hc0,hc1,hc2⟩:=(HIn3.o.2.1.AG (HKF.o _ _ hkR) HIn3.o.2.2).FG O;have j0:(0:Int)<=i:=aQ;have j1:(i:Int)<(qs.length:Int):=aQ;have HT:aH (qs.take (i+1)=qs.take i++ [qs[i]]):=(aa3 O).symm;generalize qs[i]=x at *;obtain⟨xe,xo,xg⟩:=x;simp only at hc0 hc1 hc2;have c5:=hR.bk.cell 5 (.slice A i cA) rfl;clear hR hkR hnR;go_upto_region 10 with(fail)
   have c6:(wr.alloc (aI #[xe,xo,xg] 126)).cell? (q1+1+1,5)=some (.slice A i cA):=bG (aX wr _) c5;have a6:=aP (bF.new wr 126 #[xe,xo,xg]);have y0:=a6.o.cell 0 xe rfl;have y1:=a6.o.cell 1 xo rfl;have y2:=a6.o.cell 2 xg rfl;have HBx:aH (aD wr wr (wr.alloc (aI #[xe,xo,xg] 126))):=aX wr _;have HLi:aH (∀x,(bE (gD rs (qs.take i)) xe.toNat).l=some x->∃n,n<=2900/\kT x n):=λx hx=>by
    have:=HLb.o.1.asks (qs.take i) H8.o _ x hx;exact⟨_,by rw[abJ];have:=HLb.o.2;omega,this.1⟩
   clear hc0 hc1 hc2 c5 a6;generalize (wr.alloc (aI #[xe,xo,xg] 126))=wx at *;have HRs:aH (∀W,aD wx wx W->aG prog 42 #[.pointer hb, .agg #[xe,xo,xg]] W λr w'=>∃v:Int,r= .returned (.int .i64 v)/\aH (v=CO (gD rs (qs.take i)) xe xo xg/\dV (Gk F q1) w' hb m g c k (gD rs (qs.take (i+1))) (q1+1+1) ((sL (-1)).sA ⟨A,i,cA⟩) (lM rs (qs.take i)) []/\Kp (Gk F q1) w3 w')/\w'.cell? (q1+1+1,5)=some (.slice A i cA)/\∀o,(w'.alloc o).cell? (q1+1+1,5)=some (.slice A i cA)):=λW hW=>by
    have hbb:=HR.o.1.below (HBx.o.trans (hW.mono HBx.o.size));obtain⟨G,L,back⟩:=hbb.1.ho;refine(Iw L xe xo xg HLi.o).mono ?_;rintro r w' ⟨rfl,h2,C⟩;obtain⟨b1,b2⟩:=back _ _ w' h2 C;have this:=b1.bk.cell 5 (.slice A i cA) rfl;rw[HT.o,Ba];exact⟨_,rfl,⟨rfl,b1,HR.o.2.1.trans (hbb.2.trans b2)⟩,this,λo=>bG (aX w' o) this⟩
   have HDl:aH ((lM rs (qs.take i)).length=i):=(CP _ _).trans (by rw[abJ];omega);have hil:i<=1000000:=by have:=HLb.o.2;omega
   clear HLi HBx;go_region_law (first|(refine kS _ rfl (.tmp 53) (.tmp 57) rfl Fp gK (base:=0) (xs:=lM rs (qs.take i)) (HR6.o.2.1.C9.alloc _) (n:=i) HDl.o rfl (m:=1) rfl (ys:= [v]) rfl (Sl.fI gK w6 v _ rfl _ aT) dI aQ (aaH _) _ rfl (i+1) rfl ?_;intro A9 c9 w9 own9 hg9 at9;(obtain⟨b9,f9,HO9,HK9⟩:=(HR6.o.2.1.below (aX w6 (aI #[v] 45))).1.Ff own9 hg9 at9 (n:=i+1) (by rw[aaM,HDl.o];rfl));obtain⟨b9v,b9⟩:=b9)|(go_simp;(refine aS (HRs.o _ (Below.refl _ _).drew) ?_);rintro r w6 ⟨v,rfl,HR6,c36,c37⟩))
   all_goals (
    have HO:aH (dV (Gk F q1) (w9.setCell (q1+1+1,5) (.slice A9 (i+1) c9)) hb m g c k (gD rs (qs.take (i+1))) (q1+1+1) ((sL (-1)).sA ⟨A9,i+1,c9⟩) (lM rs (qs.take (i+1))) []/\Kp (Gk F q1) w3 (w9.setCell (q1+1+1,5) (.slice A9 (i+1) c9))/\∀b,aY A9=some b->q1<=b):=by
     refine⟨?_,HR6.o.2.2.trans ((HR6.o.2.1.below (aX w6 _)).2.trans HK9),λb hb=>?_⟩
     .have e:lM rs (qs.take (i+1))=lM rs (qs.take i)++ [v]:=by rw[HT.o,MS,HR6.o.1]
      rw[e];exact HO9
     .rcases at9 with e|e
      .exact HR.o.2.2 b (e.symm.trans hb)
      .rw[e] at hb;injection hb with hb;have:=HR6.o.2.2.size;simp at hb;omega
    clear HO9 HK9 b9 f9 hg9 at9 own9 HR6 HRs c36 c37 c6 y0 y1 y2;generalize (w9.setCell (q1+1+1,5) (.slice A9 (i+1) c9))=w10 at *;clear w9;go_wp2_with fail
    exact⟨⟨i+1,rfl,aQ,A9,c9,HO.o⟩,by simp only[aL];omega⟩)
  .have j1:¬(i:Int)<(qs.length:Int):=aQ;have hT:qs.take i=qs:=aaS aQ;rw[hT] at hR HR;obtain rfl:i=qs.length:=aQ;obtain⟨f,hrs1⟩:∃r,r=gD rs qs:=⟨_,rfl⟩
   have HRS:=aP hrs1;have HL1:aH (nV f (nl+qs.length) k.s.nw/\f.length=8):=by rw[hrs1];exact⟨HLb.o.1.asks qs H8.o,(IB _ _).trans H8.o⟩
   obtain⟨DA,hDA⟩:∃r,r=lM rs qs:=⟨_,rfl⟩
   have HDA:=aP hDA;rw[<-hrs1,<-hDA] at HR;have HLb2:aH (nl+qs.length<=2700):=HLb.o.2;clear hR hT hrs1 hDA O hi HLb;go_wp2_with fail
   go_loopw [61] (λv61 wr2=>∃j:Nat,v61= .int .i64 j/\j<=8/\aH (dV (Gk F q1) wr2 hb m g c {k with s:=jZ k.s f j} f (q1+1+1) ((sL (-1)).sA ⟨A,qs.length,cA⟩) DA []/\Kp (Gk F q1) w3 wr2)) (λv61 _=>8 - (aL v61).toNat)
   case atStart=>exact⟨0,rfl,aQ,HR.o.1,HR.o.2.1⟩
   case round=>
    obtain⟨j,rfl,hj,U⟩:=hrel;by_cases hj8:j<8
    .obtain⟨G,L,_⟩:=U.o.1.ho;have r0:=L.OI (n:=j) hj8;have jj0:(0:Int)<=j:=aQ;have jj1:(j:Int)<8:=aQ;cases hl:(bE f j).l with
     |none=>
      have HE:aH (jZ k.s f (j+1)=jZ k.s f j):=by unfold aH;show(match(bE f j).l with|none=>_|some x=>_)=_;rw[hl]
      rw[hl] at r0;simp only[pZ,abT] at r0;clear L;go_wp2_with fail
      exact⟨⟨j+1,rfl,aQ,by rw[HE.o];exact U.o⟩,by simp only[aL];omega⟩
     |some x=>
      have HE:aH (jZ k.s f (j+1)=jY (jZ k.s f j) j (mV x).isSome):=by unfold aH;show(match(bE f j).l with|none=>_|some x=>_)=_;rw[hl]
      have HLx:=HL1.o.1 j x hl;rw[hl] at r0;simp only[pZ,aa4] at r0;obtain⟨_,gs2,_,_,d6,_⟩:=L.sd;have HRd:aH (∀W,aD wr wr W->aG prog 44 #[.pointer (some ⟨(bE f j).g,0,none⟩)] W λr w'=>r= .returned (.bool (mV x).isSome)/\aD W.heap.size W w'):=λW hW=>by
       obtain⟨G3,y3,hlb,_⟩:=(L.below hW).1.Jt hj8 hl;exact WU hlb HLx.1.RD (by have:=HLb2.o;omega)
      have HSR:aH (∀W,aD wr wr W->aG prog 43 #[.pointer gs2,j, .bool (mV x).isSome] W λr w'=>∃v:Int,r= .returned (.int .i64 v)/\aH (dV (Gk F q1) w' hb m g c {k with s:=jZ k.s f (j+1)} f (q1+1+1) ((sL (-1)).sA ⟨A,qs.length,cA⟩) DA []/\Kp (Gk F q1) w3 w')/\w'.cell? (g,6)=some (.pointer gs2)):=λW hW=>by
       have hbb:=U.o.1.below hW;obtain⟨G3,h3,back3⟩:=hbb.1.ho;obtain⟨G4,gs4,hs4,_,e6,back4⟩:=h3.sd;have e:=(bG hW d6).symm.trans e6;injection e with e;injection e with e;injection e with e;injection e with e;subst e;refine(wP hs4 (by have:=(xY HKI.o.1.sd HKI.o.1.p4 f j).2.1;show(jZ k.s f j).P.length<=8;omega) j _).mono ?_;rintro r w' ⟨rfl,hs5,k5⟩;obtain⟨⟨b1,b2⟩,_,b6⟩:=back4 _ w' hs5 k5;obtain⟨u1,u2⟩:=back3 _ _ w' b1 b2;exact⟨_,rfl,⟨by rw[HE.o];exact u1,U.o.2.trans (hbb.2.trans u2)⟩,b6⟩
      clear L hl HLx HE;generalize (bE f j).g=gl at *;generalize (mV x).isSome=bv at *;go_upto_region 17 with(fail)
      clear r0;go_region_held3 (λW=>W.cell? (g,6)=some (.pointer gs2)) (first|exact d6|assumption) ((first|(go_at_call 44;(refine aS (HRd.o _ (Below.refl _ _).drew) ?_);rintro r w4 ⟨rfl,hb4⟩;(have B4:aD wr wr w4:=(Below.refl wr wr).drew.trans hb4);(have d64:w4.cell? (g,6)=some (.pointer gs2):=bG hb4 d6))|(go_at_call 43;(refine aS (HSR.o _ B4) ?_);rintro r w5 ⟨v,rfl,N,d65⟩)))
      go_wp2_with fail
      exact⟨⟨j+1,rfl,aQ,N.o⟩,by simp only[aL];omega⟩
    .obtain rfl:j=8:=aQ;have E:aH (dV (Gk F q1) wr hb m g c {k with s:=jZ k.s f 8} f (q1+1+1) ((sL (-1)).sA ⟨A,qs.length,cA⟩) DA []/\Kp (Gk F q1) w3 wr/\∀b,aY A=some b->q1<=b):=⟨U.o.1,U.o.2,HR.o.2.2⟩
     clear HR U;go_wp2_with fail
     have HKN:aH (KI {k with s:=jZ k.s f 8} n0/\({k with s:=jZ k.s f 8}:Kv).s.nw<1048576):=by
      obtain⟨z1,z2,z3⟩:=xY HKI.o.1.sd HKI.o.1.p4 f 8;exact⟨HKI.o.1.DW z1 z2,by show(jZ k.s f 8).nw<_;rw[z3];exact HNW.o⟩
     obtain⟨kN,hkN⟩:∃r,r=({k with s:=jZ k.s f 8}:Kv):=⟨_,rfl⟩
     have HkN:=aP hkN;rw[<-hkN] at E HKN;clear hkN;obtain⟨o1,ho1⟩:∃r,r=(sL (-1)).sA ⟨A,qs.length,cA⟩:=⟨_,rfl⟩
     have HO1:=aP ho1;rw[<-ho1] at E;clear ho1;have p:=E.o.2.1.aY HX3.o.1 (.inr (.inl rfl));have p0:=p.cell 0 (.slice AR ls.length cR) rfl;have p1:=p.cell 1 (.slice AW ws.length cW) rfl;have p2:=p.cell 2 (.slice AX xs.length cX) rfl;obtain⟨G,L,_⟩:=E.o.1.ho;have e0:=L.c0;unfold pA at e0;have HFL:aH (Ol (Gk F q1) wr):=E.o.1.ob.fl;have hgA:hb≠wr.heap.size:=by have:=L.bk.lt;omega
     have hqA:q1≠wr.heap.size:=by have:=p.lt;omega
     have hqs:q1+1+1<=wr.heap.size:=aaC hlw E.o.2.1.size;have HTc:aH (∀W,aD wr wr W->aG prog 45 #[.pointer m, .agg #[(AR,ls.length,cR),(AW,ws.length,cW),(AX,xs.length,cX)]] W λr w'=>∃(rn:Rn) (S t u:uY) (D:List (Int×Int)) (C:Kv),r= .returned (.tuple #[.agg #[rn.env,rn.ch,(S.A,S.n,S.c),(t.A,t.n,t.c),(u.A,u.n,u.c)],aU])/\aH (S.n=D.length/\sO kN c ws xs rn D C/\KI C (n0+M))/\aH (bI u7 2 w' W.heap.size 227 S.A S.c D/\dV (cE (Nw (Gk F q1) wr.heap.size W) S.A) w' hb m g c C f (q1+1+1) o1 DA []/\Kp (Nw (Gk F q1) wr.heap.size W) W w')/\w'.cell? (hb,0)=some (.pointer m)/\w'.cell? (q1,0)=some (.slice AR ls.length cR)/\w'.cell? (q1,1)=some (.slice AW ws.length cW)/\w'.cell? (q1,2)=some (.slice AX xs.length cX)):=λW hW=>by
      have hg:=E.o.1.grow hW;obtain⟨G3,sG,h3,back3⟩:=hg.st;have QC:Kp F w3 W:=HKF.o _ _ (E.o.2.1.trans (E.o.1.below hW).2);have hi:=(HIn3.o.1.kp QC).up (λb hb=>sG b (.inl (.inl hb)));refine(Nn h3 HKN.o.1 (by have:=HKI.o.2.1;omega) HKN.o.2 hi ⟨l1,l2,l3⟩ HKI.o.2.2).mono ?_;rintro r w' ⟨rn,SA,A2,A3,nA,cA2,n2,c2',n3,c3,D,C,rfl,hnA,ht,hki,own,hst,kp⟩;obtain⟨b1,b2⟩:=back3 C SA w' (λb hb=>(own.lt b hb).1) hst kp;obtain⟨G4,h4,_⟩:=b1.ho;have hc0:=h4.c0;have hF1:Nw (Gk F q1) wr.heap.size W q1:= .inl (.inr (.inl rfl));exact⟨rn,⟨SA,nA,cA2⟩,⟨A2,n2,c2'⟩,⟨A3,n3,c3⟩,D,C,rfl,⟨hnA,ht,hki⟩,⟨own,b1,b2⟩,hc0,b2.cell (bG hW p0) hF1,b2.cell (bG hW p1) hF1,b2.cell (bG hW p2) hF1⟩
     have hqs':q1<=wr.heap.size:=aQ;have HBA:aH (∀o,aD wr wr (wr.alloc o).drew):=λo=>(aX wr o).drew
     clear L p;go_cut [12,13] (λs12 s13 wx=>∃(Q:Nat) (rn:Rn) (S t u:uY) (D:List (Int×Int)) (C:Kv),s12= .pointer Q/\s13= .int .i64 0/\aH (S.n=D.length/\sO kN c ws xs rn D C/\KI C (n0+M))/\aH (bF wx Q 73 #[rn.env,rn.ch,(S.A,S.n,S.c),(t.A,t.n,t.c),(u.A,u.n,u.c)])/\aH (bI u7 2 wx q1 227 S.A S.c D/\dV (Fb (cE (Gk F q1) S.A) Q) wx hb m g c C f (q1+1+1) o1 DA []/\Kp (Gk F q1) wr wx/\wr.heap.size<=Q))
     case first=>
      go_region_held3 (λW=>W.cell? (hb,0)=some (.pointer m)/\W.cell? (q1,0)=some (.slice AR ls.length cR)/\W.cell? (q1,1)=some (.slice AW ws.length cW)/\W.cell? (q1,2)=some (.slice AX xs.length cX)) (first|with_reducible exact⟨‹_›,‹_›,‹_›,‹_›⟩|exact⟨by simp only[dJ hgA,dJ hgB];with_reducible assumption,by simp only[dJ hqA,dJ hqB];with_reducible assumption,by simp only[dJ hqA,dJ hqB];with_reducible assumption,by simp only[dJ hqA,dJ hqB];with_reducible assumption⟩|exact⟨bG (aX wr _).drew e0,bG (aX wr _).drew p0,bG (aX wr _).drew p1,bG (aX wr _).drew p2⟩|exact⟨bG (aX _ _) e0,bG (aX _ _) p0,bG (aX _ _) p1,bG (aX _ _) p2⟩|exact⟨bG (aX _ _) ‹_›,bG (aX _ _) ‹_›,bG (aX _ _) ‹_›,bG (aX _ _) ‹_›⟩|exact⟨e0,p0,p1,p2⟩|fail) ((go_at_call 45;first|((refine aS (HTc.o _ (Below.refl _ _).drew) ?_);rintro r w6 ⟨rn,S,t,u,D,C,rfl,HD6,I,g0,z0,z1,z2⟩;(have hgB:hb≠w6.heap.size:=by have:=World.block_lt_of_cell? w6 _ g0;simp only at this;omega);(have hqB:q1≠w6.heap.size:=by have:=World.block_lt_of_cell? w6 _ z0;simp only at this;omega))|((refine aS (HTc.o _ (HBA.o _)) ?_);rintro r w6 ⟨rn,S,t,u,D,C,rfl,HD6,I,g0,z0,z1,z2⟩;(have zb:bF w6 wr.heap.size 73 #[aU,false,bH,bH,bH]:=I.o.2.2.aY (bF.new wr 73 #[aU,false,bH,bH,bH]) (.inr ⟨Zw _,(show wr.heap.size<(wr.alloc (aI #[aU,false,bH,bH,bH] 73)).heap.size by simp)⟩));(have ZB:=aP zb);(have y0:=zb.cell 0 _ rfl);(have y1:=zb.cell 1 _ rfl);(have y2:=zb.cell 2 _ rfl);(have y3:=zb.cell 3 _ rfl);(have y4:=zb.cell 4 _ rfl);(have f0:=zb.frozen 0);(have f1:=zb.frozen 1);(have f2:=zb.frozen 2);(have f3:=zb.frozen 3);(have f4:=zb.frozen 4);(have hgB:=hgA);(have hqB:=hqA);clear zb)|fail))
      all_goals
       go_wp2_with fail
       go_meet
       first
        |(have:=ZB;exact⟨_,rn,S,t,u,D,C,rfl,rfl,HD6,((((ZB.o.bX 0 _).bX 1 _).bX 2 _).bX 3 _).bX 4 _,Uk I.o.1 (aZ (aZ (aZ (aZ (aZ (bK _ _) 0 _) 1 _) 2 _) 3 _) 4 _) hqs',(Qv HFL.o I.o.2.1 I.o.2.2 (aZ (aZ (aZ (aZ (aZ (bK _ _) 0 _) 1 _) 2 _) 3 _) 4 _)).1,(Qv HFL.o I.o.2.1 I.o.2.2 (aZ (aZ (aZ (aZ (aZ (bK _ _) 0 _) 1 _) 2 _) 3 _) 4 _)).2,Zw _⟩)
        |exact⟨_,rn,S,t,u,D,C,rfl,rfl,HD6,bF.new w6 _ _,((I.o.1.from_ hqs').alloc _),(Qh I.o.2.1 I.o.2.2 _).1,(Qh I.o.2.1 I.o.2.2 _).2,I.o.2.2.size⟩
     case rest=>
     obtain⟨Q,rn,S,t,u,D,C,rfl,rfl,HD6,Y,HX⟩:=hcut;clear e0 p0 p1 p2 hgA hqA HTc HBA;have y:=HX.o.2.1;have x0:=Y.o.cell 0 rn.env rfl;have x1:=Y.o.cell 1 (.bool rn.ch) rfl;have x2:=Y.o.cell 2 (.slice S.A S.n S.c) rfl;have x3:=Y.o.cell 3 (.slice t.A t.n t.c) rfl;have x4:=Y.o.cell 4 (.slice u.A u.n u.c) rfl;have y0:=y.bk.cell 0 o1.rn.env rfl;have y1:=y.bk.cell 1 (.bool o1.rn.ch) rfl;have y2:=y.bk.cell 2 (.slice o1.S.A o1.S.n o1.S.c) rfl;have y3:=y.bk.cell 3 (.slice o1.R.A o1.R.n o1.R.c) rfl;have y4:=y.bk.cell 4 (.slice o1.W.A o1.W.n o1.W.c) rfl;have f0:=y.bk.frozen 0;have f1:=y.bk.frozen 1;have f2:=y.bk.frozen 2;have f3:=y.bk.frozen 3;have f4:=y.bk.frozen 4;clear y;go_upto_region 23 with(fail)
     have hgg:wc.grownBy (((((wc.setCell (q1+1+1,0) rn.env).setCell (q1+1+1,1) (.bool rn.ch)).setCell (q1+1+1,2) (.slice S.A S.n S.c)).setCell (q1+1+1,3) (.slice t.A t.n t.c)).setCell (q1+1+1,4) (.slice u.A u.n u.c)) (some (q1+1+1)):=aZ (aZ (aZ (aZ (aZ (bK _ _) 0 _) 1 _) 2 _) 3 _) 4 _;have H7:=aP (HX.o.2.1.put (o1.sS rn S t u) rfl rfl (((((HX.o.2.1.bk.bX 0 rn.env).bX 1 (.bool rn.ch)).bX 2 (.slice S.A S.n S.c)).bX 3 (.slice t.A t.n t.c)).bX 4 (.slice u.A u.n u.c)) hgg);have HS7:aH (bI u7 2 (((((wc.setCell (q1+1+1,0) rn.env).setCell (q1+1+1,1) (.bool rn.ch)).setCell (q1+1+1,2) (.slice S.A S.n S.c)).setCell (q1+1+1,3) (.slice t.A t.n t.c)).setCell (q1+1+1,4) (.slice u.A u.n u.c)) q1 227 S.A S.c D):=HX.o.1.kp H7.o.2 (λb hb=> .inl (.inr hb));have HB7:aH (bF (((((wc.setCell (q1+1+1,0) rn.env).setCell (q1+1+1,1) (.bool rn.ch)).setCell (q1+1+1,2) (.slice S.A S.n S.c)).setCell (q1+1+1,3) (.slice t.A t.n t.c)).setCell (q1+1+1,4) (.slice u.A u.n u.c)) Q 73 #[rn.env,rn.ch,(S.A,S.n,S.c),(t.A,t.n,t.c),(u.A,u.n,u.c)]):=H7.o.2.aY Y.o (.inr rfl);obtain⟨Z,hF5⟩:∃X,X=Fb (cE (Gk F q1) S.A) Q:=⟨_,rfl⟩
     have J:aH ((∀b,Gk F q1 b->Z b)/\(∀b,aY S.A=some b->Z b)/\Z Q):=by rw[hF5];exact⟨λb hb=> .inl (.inl hb),λb hb=> .inl (.inr hb), .inr rfl⟩
     rw[<-hF5] at H7;have HK7:aH (Kp (Gk F q1) w3 (((((wc.setCell (q1+1+1,0) rn.env).setCell (q1+1+1,1) (.bool rn.ch)).setCell (q1+1+1,2) (.slice S.A S.n S.c)).setCell (q1+1+1,3) (.slice t.A t.n t.c)).setCell (q1+1+1,4) (.slice u.A u.n u.c))/\q1+1+1<Q):=⟨(E.o.2.1.trans HX.o.2.2.1).trans (H7.o.2.mono J.o.1),by have:=HX.o.2.2.2;have:=E.o.1.bk.lt;omega⟩
     have HNA:aH (∀b,aY A=some b->q1<=b):=E.o.2.2;clear HX Y hF5 x0 x1 x2 x3 x4 y0 y1 y2 y3 y4 f0 f1 f2 f3 f4 hgg E HFL;generalize ((((wc.setCell (q1+1+1,0) rn.env).setCell (q1+1+1,1) (.bool rn.ch)).setCell (q1+1+1,2) (.slice S.A S.n S.c)).setCell (q1+1+1,3) (.slice t.A t.n t.c)).setCell (q1+1+1,4) (.slice u.A u.n u.c)=w7 at *;have HLT:aH (nl+qs.length<=2700/\k.s.nw<1048576):=⟨HLb2.o,HNW.o⟩
     go_wp2_with fail
     go_loopw [98] (λv98 wr=>∃j:Nat,v98= .int .i64 j/\j<=8/\aH (∃T cT,dV Z wr hb m g c C (iI f rn.env j) (q1+1+1) (((o1.sS rn S t u).sJ (lN f rn.env j).1 (lN f rn.env j).2).sT ⟨T,(kV f rn.env j).length,cT⟩) DA (kV f rn.env j)/\Kp Z w7 wr/\(kV f rn.env j).length<=4000000000 *j)) (λv98 _=>8 - (aL v98).toNat)
     case atStart=>exact⟨0,rfl,aQ,none,0,by have e:=HO1.o;subst e;exact H7.o.1,Kp.refl _ _,by simp[kV]⟩
     case round=>
      clear H7;obtain⟨j,rfl,hj,U⟩:=hrel;obtain⟨T,cT,h2,k27,hTl⟩:=U.o;have HTl:=aP hTl;have U:=bN h2 k27;by_cases hj8:j<8
      .obtain⟨G,L,_⟩:=h2.ho;have r0:=L.OI (n:=j) hj8;have jj0:(0:Int)<=j:=aQ;have jj1:(j:Int)<8:=aQ;have hle:(bE (iI f rn.env j) j).l=(bE f j).l:=by rw[(yA (rs:=f) (e:=rn.env) j j (by rw[HL1.o.2];omega)).1,aaA aQ]
       rw[hle] at r0;cases hl:(bE f j).l with
       |none=>
        have HE:aH (iI f rn.env (j+1)=iI f rn.env j/\kV f rn.env (j+1)=kV f rn.env j/\lN f rn.env (j+1)=lN f rn.env j):=by
         rw[hl] at hle;refine⟨?_,?_,?_⟩
         .show CY (iI f rn.env j) rn.env j=_;unfold CY;rw[hle]
         .show kV f rn.env j++Bz (iI f rn.env j) rn.env j=_;unfold Bz;rw[hle];simp
         .show M1 (iI f rn.env j) rn.env j (lN f rn.env j)=_;unfold M1;rw[hle]
        rw[hl] at r0;simp only[pZ,abT] at r0;clear L h2 k27 hle hTl;go_wp2_with fail
        exact⟨⟨j+1,rfl,aQ,T,cT,by rw[HE.o.1,HE.o.2.1,HE.o.2.2];exact⟨U.o.1,U.o.2,by have:=HTl.o;omega⟩⟩,by simp only[aL];omega⟩
       |some x=>
        rw[hl] at hle;have HLx:=HL1.o.1 j x hl;have HX:aH (kT x (nl+qs.length)/\x.nw<1048576/\x.lg.length<=4000000000):=⟨HLx.1,by have:=HLx.2;have:=HLT.o.2;omega,by have:=HLx.1.lg;have:=HLT.o.1;omega⟩
        have x0:=(k27.aY HB7.o J.o.2.2).cell 0 rn.env rfl;rw[hl] at r0;simp only[pZ,aa4] at r0;have HT1:aH (∀gv,gv=decide (rn.env=(j:Int))->iI f rn.env (j+1)=rW (rS (rW (iI f rn.env j) j x) j (gG x gv)) j (gG x gv)/\kV f rn.env (j+1)=kV f rn.env j++(vP (rS (rW (iI f rn.env j) j x) j (gG x gv)) j (gG x gv)).map (λv=>((j:Int),v))/\lN f rn.env (j+1)=if gv=true then iV x (gY x gv) else lN f rn.env j):=λgv hgv=>by
         subst hgv;refine⟨?_,?_,?_⟩
         .show CY (iI f rn.env j) rn.env j=_;unfold CY;rw[hle];rfl
         .show kV f rn.env j++Bz (iI f rn.env j) rn.env j=_;unfold Bz;rw[hle];rfl
         .show M1 (iI f rn.env j) rn.env j (lN f rn.env j)=_;unfold M1;rw[hle];simp only[acB]
        have HRl:aH ((iI f rn.env j).length=8):=(I1 _ _ _).trans HL1.o.2;clear L hl h2 k27 HLx hTl;go_upto_region 28 with(fail)
        go_cut [16] (λs16 wx=>s16= .bool (decide (rn.env=(j:Int)))/\wx=wr)
        case first=>
         by_cases hgv:rn.env=(j:Int)
         .rw[hgv] at x0;go_wp2_with fail
          go_meet
          exact⟨by simp[hgv],rfl⟩
         .go_wp2_with fail
          go_meet
          exact⟨by simp[hgv],rfl⟩
        case rest=>
        obtain⟨rfl,rfl⟩:=hcut;obtain⟨gv,hgv⟩:∃gv,gv=decide (rn.env=(j:Int)):=⟨_,rfl⟩
        have HGV:=aP (HT1.o gv hgv);rw[<-hgv];clear HT1 hgv x0 r0;generalize iI f rn.env j=R at *;generalize kV f rn.env j=TT at *;generalize lN f rn.env j=JJ at *;have HNs:=aP (U.o.1.news hj8 hle HX.o.2.2);go_wp2_with fail
        refine aR HNs ?_;rintro r w4 ⟨B4,d4,rfl,_,h4,k4⟩;have H4:aH (dV Z w4 hb m g c C (rW R j x) (q1+1+1) (((o1.sS rn S t u).sJ JJ.1 JJ.2).sT ⟨T,TT.length,cT⟩) DA TT/\Kp Z w7 w4):=⟨h4.less λb hb=> .inl hb,U.o.2.trans k4⟩
        have hl4:(bE (rW R j x) j).l=some x:=by rw[(JM (j:=j) (x:=x) (by rw[HRl.o];exact hj8)).1,hle]
        have r4:=H4.o.1.r0 hj8 hl4;have jN:=aP (H4.o.1.Tv hj8 hl4 HX.o.1 (by have:=HLT.o.1;omega) HX.o.2.1 gv);have HR4:aH ((rW R j x).length=8):=by unfold aH rW P5;rw[aaL];exact HRl.o
        clear h4 k4 HNs U;go_wp2_with fail
        refine aR jN ?_;rintro r w5 ⟨rfl,h5,k5⟩;have N:aH (dV Z w5 hb m g c C (rS (rW R j x) j (gG x gv)) (q1+1+1) (((o1.sS rn S t u).sJ JJ.1 JJ.2).sT ⟨T,TT.length,cT⟩) DA TT/\Kp Z w7 w5):=⟨h5,H4.o.2.trans k5⟩
        clear h5 k5 jN H4 r4;generalize iV x (gY x gv)=pp at *;obtain⟨pp1,pp2⟩:=pp;simp only;have hl5:(bE (rS (rW R j x) j (gG x gv)) j).l=some (gG x gv):=by unfold rS;rw[iM (by rw[HR4.o];exact hj8)]
        have HX5:aH ((gG x gv).lg.length<=4000000000):=by have:=(HX.o.1.tick HX.o.2.1 (by have:=HLT.o.1;omega) gv).lg;have:=HLT.o.1;unfold aH;omega
        clear HX HRl HR4 hl4 hle;generalize rS (rW R j x) j (gG x gv)=R5 at *;generalize gG x gv=x5 at *;go_upto_if 128 with(fail)
        go_cut [] (λwx=>aH (dV Z wx hb m g c C R5 (q1+1+1) (((o1.sS rn S t u).sJ (if gv=true then(pp1,pp2) else JJ).1 (if gv=true then(pp1,pp2) else JJ).2).sT ⟨T,TT.length,cT⟩) DA TT/\Kp Z w7 wx))
        case first=>
         cases gv
         .go_wp2_with fail
          go_meet
          exact N.o
         .have y6:=N.o.1.bk.cell 6 JJ.1 rfl;have y7:=N.o.1.bk.cell 7 JJ.2 rfl;have f6:=N.o.1.bk.frozen 6;have f7:=N.o.1.bk.frozen 7;go_wp2_with fail
          go_meet
          have h6:=N.o.1.put (((o1.sS rn S t u).sJ pp1 pp2).sT ⟨T,TT.length,cT⟩) rfl rfl ((N.o.1.bk.bX 6 pp1).bX 7 pp2) (aZ (aZ (bK _ _) 6 _) 7 _);exact⟨h6.1,N.o.2.trans h6.2⟩
        case rest=>
        clear N;have HNs:=aP (hcut.o.1.news hj8 hl5 HX5.o);have HC:=aP hcut.o.2;clear hcut;generalize (if gv=true then(pp1,pp2) else JJ)=J2 at *;go_wp2_with fail
        refine aR HNs ?_;rintro r w6 ⟨B,d,rfl,own6,h6,k6⟩;have H6:=bN h6 (HC.o.trans k6);have HO6:=aP own6;have HVl:aH ((vP R5 j x5).length<=4000000000):=aaC (Ic _ _ _) HX5.o;clear h6 k6 own6 HNs HC hl5 HX5;generalize vP R5 j x5=V at *;generalize rW R5 j x5=R6 at *;go_wp2_with fail
        go_loopw [136] (λv136 wr=>∃i:Nat,v136= .int .i64 i/\i<=V.length/\aH (∃T' cT',dV (cE Z B) wr hb m g c C R6 (q1+1+1) (((o1.sS rn S t u).sJ J2.1 J2.2).sT ⟨T',TT.length+i,cT'⟩) DA (TT++(V.take i).map (λv=>((j:Int),v)))/\Kp Z w7 wr/\Kp (cE Z B) w6 wr)) (λv136 _=>V.length - (aL v136).toNat)
        case atStart=>exact⟨0,rfl,aaH _,T,cT,by rw[ad1,List.map_nil,ac7];exact H6.o.1,H6.o.2,Kp.refl _ _⟩
        case round=>
         obtain⟨i,rfl,hi,HV⟩:=hrel;obtain⟨T',cT',hv,kv7,kv6⟩:=HV.o;have HV:=dA hv kv7 kv6;by_cases O:i<V.length
         .obtain⟨qB,hqB⟩:=vX HO6.o aQ;have HT:aH (V.take (i+1)=V.take i++ [V[i]]):=(aa3 O).symm;have ho:=HO6.o.kp kv6 (λb hb=> .inr hb);subst hqB;generalize hVi:V[i]=ev at *;have e0:=bM wQ ho O (j:=0) (v:= .int .i64 ev.kd) (by rw[hVi];rfl);have e1:=bM wQ ho O (j:=1) (v:= .int .i64 ev.tk) (by rw[hVi];rfl);have e2:=bM wQ ho O (j:=2) (v:= .int .i64 ev.jb) (by rw[hVi];rfl);have e3:=bM wQ ho O (j:=3) (v:= .int .i64 ev.at_) (by rw[hVi];rfl);rw[aaU] at e0;have c8:=hv.bk.cell 8 (.slice T' (TT.length+i) cT') rfl;have ii0:(0:Int)<=i:=aQ;have ii1:(i:Int)<(V.length:Int):=aQ;clear ho hVi hv kv7 kv6;go_upto_region 36 with(fail)
          have a6:=aP (bF.new wr 165 #[ev.kd,ev.tk,ev.jb,ev.at_]);have y0:=a6.o.cell 0 ev.kd rfl;have y1:=a6.o.cell 1 ev.tk rfl;have y2:=a6.o.cell 2 ev.jb rfl;have y3:=a6.o.cell 3 ev.at_ rfl;have d8:=bG (aX wr (aI #[ev.kd,ev.tk,ev.jb,ev.at_] 165)) c8;have HRx:=aP (HV.o.1.below (aX wr (aI #[ev.kd,ev.tk,ev.jb,ev.at_] 165)));have HDl:aH ((TT++(V.take i).map (λv=>((j:Int),v))).length=TT.length+i):=by unfold aH;rw[aaM,abB,abJ];omega
          have hbd:TT.length+i<=40000000000:=by have:=HTl.o;have:=HVl.o;omega
          clear e0 e1 e2 e3 c8 a6;generalize wr.alloc (aI #[ev.kd,ev.tk,ev.jb,ev.at_] 165)=wx at *;go_wp2_with(refine bP _ rfl (.tmp 141) (.tmp 145) rfl Xo ZV (base:=0) (xs:=TT++(V.take i).map (λv=>((j:Int),v))) (HRx.o.1.yD.alloc _) (n:=TT.length+i) HDl.o rfl (m:=1) rfl (ys:= [((j:Int),ev)]) rfl (Sl.fI ZV wx ((j:Int),ev) _ rfl _ aT) dI aQ (aaH _) _ rfl (TT.length+i+1) rfl ?_;intro A9 c9 w9 own9 hg9 at9;(obtain⟨b9,f9,HO9,HK9⟩:=(HRx.o.1.below (aX wx (aI #[j,ev.kd,ev.tk,ev.jb,ev.at_] 167))).1.Dj own9 hg9 at9 (n:=TT.length+i+1) (by rw[aaM,HDl.o];rfl));obtain⟨b9v,b9⟩:=b9)
          have HKx:=HRx.o.2.trans ((HRx.o.1.below (aX wx (aI #[j,ev.kd,ev.tk,ev.jb,ev.at_] 167))).2.trans HK9);exact⟨⟨i+1,rfl,aQ,A9,c9,by rw[HT.o,adU,<-abN];exact HO9,HV.o.2.1.trans (HKx.mono λb hb=> .inl hb),HV.o.2.2.trans HKx⟩,by simp only[aL];omega⟩
         .obtain rfl:i=V.length:=aQ;have hT:V.take V.length=V:=ab9;rw[hT] at hv;have HE:aH (∃T cT,dV Z wr hb m g c C (iI f rn.env (j+1)) (q1+1+1) (((o1.sS rn S t u).sJ (lN f rn.env (j+1)).1 (lN f rn.env (j+1)).2).sT ⟨T,(kV f rn.env (j+1)).length,cT⟩) DA (kV f rn.env (j+1))/\Kp Z w7 wr/\(kV f rn.env (j+1)).length<=4000000000 *(j+1)):=by
           rw[HGV.o.1,HGV.o.2.1,HGV.o.2.2,aaM,abB];exact⟨T',cT',hv.less λb hb=> .inl hb,kv7,by have:=HTl.o;have:=HVl.o;omega⟩
          have ii1:¬(V.length:Int)<(V.length:Int):=aQ;clear hv kv7 kv6 hT HV HGV;go_wp2_with fail
          obtain⟨T9,cT9,z1,z2,z3⟩:=HE.o;exact⟨⟨_,_,_,_,_,_,_,_,⟨j+1,rfl,aQ,⟨T9,cT9,z1⟩,z2,z3⟩,rfl,rfl,rfl,rfl,rfl,rfl,rfl,rfl⟩,by simp only[aL];omega⟩
      .obtain rfl:j=8:=aQ;have H8T:aH (dV Z wr hb m g c C (iI f rn.env 8) (q1+1+1) (((o1.sS rn S t u).sJ (lN f rn.env 8).1 (lN f rn.env 8).2).sT ⟨T,(kV f rn.env 8).length,cT⟩) DA (kV f rn.env 8)/\Kp Z w7 wr):=⟨h2,k27⟩
       clear h2 k27 U hTl HTl;go_wp2_with fail
       have b12:=H8T.o.2.aY HB7.o J.o.2.2;have x0:=b12.cell 0 rn.env rfl;have x2:=b12.cell 2 (.slice S.A S.n S.c) rfl;obtain⟨G,L,_⟩:=H8T.o.1.ho;have c1':=L.c1;have HEN:=HD6.o.2.1.Fu HKN.o.1;have HRU:aH (∀n:Nat,n<8->wr.cell? ⟨hb,2+n *15+14,none⟩=some (.bool (bE f n).ru)):=λn hn=>by
        have:=L.VI (n:=n) hn;rw[(yA (rs:=f) (e:=rn.env) n 8 (by rw[HL1.o.2];omega)).2] at this;exact this
       clear L b12;go_cut [164] (λs wx=>∃bv:Bool,s= .bool bv/\aH ((bv=true/\∃i:Nat,rn.env=i/\i<4/\(bE f i).ru=true)\/(bv=false/\(rn.env<0\/∃i:Nat,rn.env=i/\i<4/\(bE f i).ru=false)))/\aD wr wr wx)
       case first=>
        rcases HEN with a1|⟨i,a1,hi4⟩
        .rw[a1] at x0;go_quiet (fail)
         go_wp2_with fail
         go_meet
         exact⟨false,rfl, .inr ⟨rfl, .inl aQ⟩,below_drewN _ _⟩
        .have r14:=HRU.o i aQ;have i0:(0:Int)<=i:=aQ;have i8:(i:Int)<8:=aQ;rw[a1] at x0;cases hru:(bE f i).ru
         .rw[hru] at r14;have HH:=dA a1 hi4 hru;clear a1 hru;go_quiet (fail)
          go_wp2_with fail
          go_meet
          exact⟨false,rfl, .inr ⟨rfl, .inr ⟨i,HH.o⟩⟩,below_drewN _ _⟩
         .rw[hru] at r14;have HH:=dA a1 hi4 hru;clear a1 hru;go_quiet (fail)
          go_wp2_with fail
          go_meet
          exact⟨true,rfl, .inl ⟨rfl,i,HH.o⟩,below_drewN _ _⟩
       case rest=>
       obtain⟨bv,rfl,HBV,hbw⟩:=hcut;have H9:aH (dV Z wc hb m g c C (iI f rn.env 8) (q1+1+1) (((o1.sS rn S t u).sJ (lN f rn.env 8).1 (lN f rn.env 8).2).sT ⟨T,(kV f rn.env 8).length,cT⟩) DA (kV f rn.env 8)/\Kp Z w7 wc):=⟨(H8T.o.1.below hbw).1,H8T.o.2.trans (H8T.o.1.below hbw).2⟩
       replace x0:=bG hbw x0;replace x2:=bG hbw x2;replace c1':=bG hbw c1';have HKE:aH (KI C (n0+M)):=HD6.o.2.2;have hDl:S.n<=50000:=by rw[HD6.o.1];exact aaC (HD6.o.2.1.Xt HKI.o.2.2) HMM.o
       clear hbw H8T HRU;obtain⟨e8,he8⟩:∃e,e=((o1.sS rn S t u).sJ (lN f rn.env 8).1 (lN f rn.env 8).2).sT ⟨T,(kV f rn.env 8).length,cT⟩:=⟨_,rfl⟩
       have HE8:=aP he8;rw[<-he8] at H9;clear he8;go_upto_if 164 with(fail)
       go_cut [] (λwx=>aH (∃(st x y z:Int) (k4:Kv) (K:List Rm),dV Z wx hb m g c k4 K (q1+1+1) (e8.sB st x y z) DA (kV f rn.env 8)/\Kp Z w7 wx/\KI k4 (n0+M+40)/\((∃i:Nat,rn.env=i/\i<4/\(bE f i).ru=true/\lZ i C k4/\vM (iI f rn.env 8) K i)\/((rn.env<0\/∃i:Nat,rn.env=i/\i<4/\(bE f i).ru=false)/\k4=C/\K=iI f rn.env 8))))
       case first=>
        rcases HBV.o with⟨rfl,i,a1,hi4,hru⟩|⟨rfl,hno⟩
        .have HH:=dA a1 hi4 hru;rw[a1] at x0;obtain⟨G,L,back⟩:=H9.o.1.ho;have HBu:=aP (VJ (L.below (Below.refl wc wc).drew).1 HKE.o (by have:=HKI.o.2.1;omega) hi4 (c - (S.n:Int)) aQ);have HBk:=aP (λk' rs' w' h k=>back k' rs' w' h k);have HKd:aH (Kp G wc wc.drew):=(L.below (Below.refl wc wc).drew).2;have hwr:IntKind.i64.wrap (c - (S.n:Int))=c - (S.n:Int):=by rw[IntKind.wrap_i64];omega
         have i0:(0:Int)<=i:=aQ;have i8:(i:Int)<8:=aQ;have hne1:hb≠q1+1+1:=yW L.bk H9.o.1.bk cC;have hne2:Q≠q1+1+1:=by have:=HK7.o.2;omega
         have HCh:aH (∀(W:aA) (k4:Kv) (K:List Rm),dV Z W hb m g c k4 K (q1+1+1) e8 DA (kV f rn.env 8)->W.cell? (hb,1)=some (.int .i64 c)):=λW k4 K hW=>by
          obtain⟨G,h,_⟩:=hW.ho;exact h.c1
         clear L back a1 hru hi4;go_upto_region 40 with(fail)
         go_region_held3 (λW=>W.cell? (hb,1)=some (.int .i64 c)/\W.cell? (Q,0)=some (.int .i64 i)/\W.cell? (Q,2)=some (.slice S.A S.n S.c)) (first|exact⟨c1',x0,x2⟩|exact⟨e1',z0,z2⟩|exact⟨by simp only[dJ hne1];exact e1',by simp only[dJ hne2];exact z0,by simp only[dJ hne2];exact z2⟩|fail) ((go_at_call 47;(refine aR HBu ?_);rintro r w5 ⟨st,x,y,z,k4,K,rfl,hbu,hki,hcp,h5,k5⟩;(have N:=aP (HBk.o k4 K w5 h5 (HKd.o.trans k5)));(have HP5:=dA hbu hki hcp);(have y9:=N.o.1.bk.cell 9 e8.st rfl);(have y10:=N.o.1.bk.cell 10 e8.x rfl);(have y11:=N.o.1.bk.cell 11 e8.y rfl);(have y12:=N.o.1.bk.cell 12 (.int .u64 e8.z) rfl);(have f9:=N.o.1.bk.frozen 9);(have f10:=N.o.1.bk.frozen 10);(have f11:=N.o.1.bk.frozen 11);(have f12:=N.o.1.bk.frozen 12);(have e1':=HCh.o w5 k4 K N.o.1);(have z0:=N.o.2.cell x0 J.o.2.2);(have z2:=N.o.2.cell x2 J.o.2.2);clear h5 k5 hbu hki hcp))
         go_wp2_with fail
         go_meet
         have hp:=N.o.1.put (e8.sB st x y z) rfl rfl ((((N.o.1.bk.bX 9 st).bX 10 (.int .i64 x)).bX 11 y).bX 12 (.int .u64 z)) (aZ (aZ (aZ (aZ (bK _ _) 9 _) 10 _) 11 _) 12 _);exact⟨st,x,y,z,k4,K,hp.1,(H9.o.2.trans N.o.2).trans hp.2,HP5.o.2.1, .inl ⟨i,HH.o.1,HH.o.2.1,HH.o.2.2,HP5.o.1,HP5.o.2.2⟩⟩
        .have pN:=aP hno;clear hno;go_wp2_with fail
         go_meet
         refine⟨e8.st,e8.x,e8.y,e8.z,C,_,H9.o.1,H9.o.2,HKE.o.mono aQ, .inr ⟨pN.o,rfl,rfl⟩⟩
       case rest=>
       obtain⟨st,x,y,z,k4,K,hF,kF,kiF,hcs⟩:=hcut.o;have HF:=dA hF kF (And.intro kiF hcs);have hAA:aH (e8.A=⟨A,qs.length,cA⟩/\e8.rn=rn/\e8.S=S/\(e8.tk,e8.nu)=lN f rn.env 8/\e8.T.n=(kV f rn.env 8).length):=by rw[HE8.o,HO1.o];exact⟨rfl,rfl,rfl,rfl,rfl⟩
       obtain⟨o9,ho9⟩:∃o,o=e8.sB st x y z:=⟨_,rfl⟩
       have H9o:aH (o9.A=⟨A,qs.length,cA⟩/\o9.rn=rn/\o9.S=S/\(o9.tk,o9.nu)=lN f rn.env 8/\o9.T.n=(kV f rn.env 8).length):=by rw[ho9];exact hAA.o
       rw[<-ho9] at HF hF;have HRg:=aP hF.bk.range;have HOi:=aP (Le o9);have zb:=kF.aY (HK7.o.1.aY HX3.o.2 (.inr (.inr rfl))) (J.o.1 _ (.inr (.inr rfl)));have HTh:=aP (zb.there (n:=(jW o9).toArray.size) (aeO rfl));have HZb:=aP (zb.laid (M:=jW o9) rfl);have HZr:=aP HZb.o.range;have HZ0:=aP zb;have HGz:=aP (fJ (q1+1) (jW o9) 0 wc wc (bK wc (q1+1)));have HOn:=aP (Rr o9);clear hF kF kiF hcs hcut ho9 zb H9 HBV x0 x2 c1' hAA HE8;go_wp2_with(first|(refine wpList_load_mid rfl 79 _ rfl (q1+1+1) 0 rfl (jW o9) _ HRg.o underlying79 rfl HOi.o ?_)|(refine wpList_store_mid rfl 79 _ _ rfl (q1+1) 0 (jW o9).toArray rfl rfl HTh.o (by simpa using HOi.o) HOn.o ?_))
       have k1:Kp F w wc:=HK3.o.trans ((HKF.o _ _ HK7.o.1).trans (HF.o.2.1.mono λb hb=>J.o.1 b (.inl hb)));have oS:=HS7.o.kp HF.o.2.1 J.o.2.1;have oA:=HF.o.1.C9;have nS:=BV oS HZ0.o cC;have nA:=BV oA HZ0.o cC;have e1:=H9o.o.1;have hAe:o9.A.A=A:=by rw[e1]
       have hSe:=H9o.o.2.2.1;have k2':Kp F wc (wc.setCells (q1+1) 0 (jW o9)):=Kp.grown HGz.o λb hb=>⟨HF.o.1.ob.fl b (J.o.1 b (.inl hb)),λe=>HN1.o.2 (by injection e with e;exact e ▸ hb)⟩
       have oS':=oS.kept HGz.o (.inr nS);have oA':=oA.kept HGz.o (.inr nA);have L:=dN.gr (bV.cD hb m g c k4 K) (H:=cE (cE F o9.S.A) o9.A.A) HF.o.1.o HGz.o (λq hq=>by injection hq with hq;exact .inl (hq ▸ J.o.1 _ (.inr (.inr rfl)))) (λb hb=>by
        refine Zy ?_ HGz.o.size;rcases hb with(hb|hb)|hb
        .exact HF.o.1.ob.fl b (J.o.1 b (.inl hb))
        .rw[hSe] at hb;exact(oS.lt b hb).2
        .exact(oA.lt b hb).2) (λb _ hb=>by
        rcases hb with(hb|hb)|hb
        .exact .inl (J.o.1 b (.inl hb))
        .rw[hSe] at hb;exact .inl (J.o.2.1 b hb)
        .exact .inr hb)
       refine bodyPost_ret (results_cell_tmp rfl _ _ (q1+1) (jW o9) _ rfl HZr.o underlying79 rfl HOi.o) rfl ⟨o9,D,DA,k4,K,rfl,⟨HDA.o,?_,?_,?_⟩,HF.o.2.2.1,?_,HF.o.1.a,?_,oA',?_,L,k1.trans k2'⟩
       .refine⟨C,?_,?_⟩
        .rw[H9o.o.2.1,<-HRS.o,<-HkN.o];exact HD6.o.2.1
        .rw[H9o.o.2.1,<-HRS.o];exact HF.o.2.2.2
       .rw[H9o.o.2.2.2.1,H9o.o.2.1,HRS.o]
       .rw[H9o.o.2.2.2.2,H9o.o.2.1,HRS.o]
       .rw[hSe];exact HD6.o.1
       .rw[hSe,HQ1.o];exact oS'
       .rw[hAe,HQ1.o];exact HNA.o
end
variable{s:Sd}{k k':Kv}
section
def SN:Tk:=⟨1,20,20, [],0⟩
def GR:Lb:=kD [SN] 0
def UD:Lb:=(jD GR 0 1).2
theorem Se:mI [SN]=true:=cC
def BC(x:Lb)(gl:Nat)(sv:aC):List Rm:=sD.set 2 (I2 x gl sv 0)
theorem Dq(gl:Nat)(sv:aC):DJ sD 2 [SN] 0 gl sv=BC GR gl sv:=aV
theorem ZZ:uN sD 2 [SN] 0=0:=cC
theorem LZ(gl:Nat)(sv:aC):gD (BC GR gl sv) [(2,0,1)]=BC UD gl sv:=aV
theorem Va(gl:Nat)(sv:aC):lN (BC UD gl sv) 2 8=(0,1):=aV
theorem Uy(gl:Nat)(sv:aC):(kV (BC UD gl sv) 2 8).length=1:=aV
def Rz(s:Sd):Prop:=∃a b d,s.P= [⟨none,a⟩,⟨none,b⟩,⟨some (vU 2 9),true⟩,⟨none,d⟩]/\s.nw=0
theorem Rz.EE{s:Sd}(h:Rz s)(e:Int):Rz (jY s e true):=by
 obtain⟨a,b,d,h1,c⟩:=h;unfold jY;split
 .rename_i hi;have hi:=abQ hi;rw[h1] at hi;simp only[aa9,abM] at hi;obtain⟨n,rfl⟩:=aaB hi.1;have:n=0\/n=1\/n=2\/n=3:=aQ;have key:∀i,(s.P.modify i λp=>{p with rd:=true})=([⟨none,a⟩,⟨none,b⟩,⟨some (vU 2 9),true⟩,⟨none,d⟩]:List Pv).modify i λp=>{p with rd:=true}:=λi=>by rw[h1]
  rcases this with rfl|rfl|rfl|rfl
  .exact⟨true,b,d,(key 0).trans rfl,c⟩
  .exact⟨a,true,d,(key 1).trans rfl,c⟩
  .exact⟨a,b,d,(key 2).trans rfl,c⟩
  .exact⟨a,b,true,(key 3).trans rfl,c⟩
 .exact⟨a,b,d,h1,c⟩
theorem Rz.tick(h:Rz s):(gH s).1.env=2/\(gH s).1.ch=true:=by
 obtain⟨a,b,d,h1,c⟩:=h;have e:(dY s).P= [⟨none,a⟩,⟨none,b⟩,⟨some (kH (vU 2 9) 0 true),true⟩,⟨none,d⟩]:=by
  show s.P.map (rQ s.nw)=_;rw[h1,c];rfl
 have f:iO (dY s).P s.P.length=some (2,9):=by
  rw[e,h1];rfl
 unfold gH;rw[f];exact⟨rfl,rfl⟩
theorem Rz.nF(l:List Int):∀{k:Kv},Rz k.s->Rz (dQ k l).s:=by
 induction l with
 |nil=>intro k h;exact h
 |cons e l a=>
  intro k h;refine a ?_;unfold dL;split
  .exact h.EE e
  .exact h
theorem Rz.before(h:Rz k.s)(hb:k.b= [])(r:kQ k k'):Rz k'.s:=by
 obtain⟨l1,c,T,d,a,ho,rfl⟩:=r;rw[hb] at a;have:T= []:=by
  have:=a.length_eq;simpa[lO] using this
 subst this;cases ho;exact Rz.nF c (Rz.nF l1 h)
def NQ:Sd:=qN (tI 4) 2 2 9
theorem Ug:yS (tI 4) 2 2 9=0:=cC
theorem Qb(gl:Nat)(sv:aC):Rz (jZ NQ (BC UD gl sv) 8):=⟨true,true,true,aV,aV⟩
end
theorem Mw:gQ (zW 4):=by
 refine⟨cC,λp hp v a=>?_,⟨λx v h=>(by cases h),λp hp=>(by cases hp),cC,cC⟩,cC,cC,cC,cC,λi p hp=>?_,λi hi=>rfl⟩
 .have:p=⟨none,false⟩:=abK (n:=4) hp;rw[this] at a;cases a
 .have:p=⟨none,false⟩:=abK (n:=4) (abV hp);rw[this];rfl
theorem uH:∀n,gQ (tI n)/\(tI n).P.length=4
 |0=>⟨Mw,rfl⟩
 |n+1=>vI (uH n).1 (uH n).2 _ _
theorem Kg(p:Nat×Nat):KI (oK p) 9:=by
 exact⟨(uH 4).1,(uH 4).2,(show 0<=(vQ 2).n/\(vQ 2).n<=((9:Nat):Int) by decide),aaH _,List.Pairwise.nil,λx a=>(by cases a),List.Pairwise.nil,rfl,aaH _⟩
theorem Yn(p0):KI {oK p0 with s:=NQ} 9:=(Kg p0).DW (FD (uH 4).1 (uH 4).2 2 2 9).1 (FD (uH 4).1 (uH 4).2 2 2 9).2
theorem Xq(gl sv):nV (BC GR gl sv) 0 0:=λi x a=>by
 by_cases hi:i=2
 .subst hi;have:(bE (BC GR gl sv) 2).l=some GR:=rfl;rw[this] at a;injection a with a;subst a;exact⟨SZ 0 Se,ab3 _⟩
 .exfalso
  unfold BC at a;rw[rI (acT hi)] at a;unfold bE at a;rw[aaI] at a;unfold sD at a;rw[adE] at a;split at a <;> cases a
def Vk:Prop:=∀(F:Nat->Prop) (w:aA) (hb m g q:Nat) p0 gl sv,bV F w hb m g 3 {oK p0 with s:=NQ} (BC GR gl sv)->Sl mB 3 w q [(2,0,1)]->(∀b,mK q 1=some b->F b)->
 aG prog 16 #[.pointer hb, .agg #[bH,bH,bH, .slice q 1 1]] w (Ja F hb m g 3 {oK p0 with s:=NQ} (BC GR gl sv) 9 0 [] [] [(2,0,1)] w)
theorem Z1(I:Vk)(w:aA):aG prog 7 #[] w λr w'=>r= .returned (.bool true)/\aD w w w':=by
 have J:=aP (JW w 3 aQ);go_enter func7,ntmps7
 go_wp2_with fail
 refine aR J ?_;rintro r Z ⟨hb,m,g,p0,rfl,K,f⟩;have q:=RS K (uH 4).1 2 2 9;have F:D4 (oK p0) 2 2 9=0:=Ug;have L:LN (oK p0) 2 2 9={oK p0 with s:=NQ}:=rfl;rw[F,L] at q;have q:=aP q;have d:=aP f;have jA:=f.size;clear K f J F L;go_wp2_with fail
 refine aR q ?_;rintro r k ⟨rfl,M,l⟩;have h:aH (aD w w k):=⟨l.os.trans d.o.os,l.tape.trans d.o.tape,l.output.trans d.o.output,aaC jA l.size,λi hi=>(l.block i hi).trans (d.o.block i hi)⟩
 have N:=aP M;clear M l q d jA;go_wp2_with fail
 have t:=aX k (aI #[.int .i64 1, .int .i64 20, .int .i64 20,bH,aU] 125);have O:qK (k.alloc (aI #[.int .i64 1, .int .i64 20, .int .i64 20,bH,aU] 125)) (some ⟨k.heap.size,0,none⟩) [⟨SN,none,0⟩]:=⟨Sl.new lK k ⟨SN,none,0⟩ _ rfl _,λx u=>by rw[aaK.1 u];exact Sl.nil _ _,λx u=>by rw[aaK.1 u];exact Zw _⟩
 have e:=OG (N.o.below t).1 2 1 O cC (λx u=>by rw[aaK.1 u];exact aaH _) 0;simp only[List.map_cons,List.map_nil,Dq,ZZ,aa9,abM,aa8] at e;have e:=aP e;have a:aH (aD w w (k.alloc (aI #[.int .i64 1, .int .i64 20, .int .i64 20,bH,aU] 125))):=h.o.alloc h.o.size _;clear t O N h;refine aR e ?_;rintro r w5 ⟨gl,sv,rfl,P,n⟩;have j:aH (aD w w w5):=⟨n.os.trans a.o.os,n.tape.trans a.o.tape,n.output.trans a.o.output,aaC a.o.size n.size,λi hi=>(n.block i hi).trans (a.o.block i hi)⟩
 have G:=aP P;clear P n e a;go_wp2_with fail
 have Q:=(bV.cD hb m g 3 {oK p0 with s:=NQ} (BC GR gl sv)).box G.o G.o.fl (aI #[.int .i64 2,aU, .int .i64 1] 126);have jN:=I _ _ _ _ _ _ _ _ _ Q (Sl.new uE w5 (2,0,1) _ rfl _) (FL (λb hb=> .inr (by injection hb with hb;exact hb.symm)) 1);simp only[aa9,abM,aa8] at jN;have jN:=aP jN;have c:aH (aD w w (w5.alloc (aI #[.int .i64 2,aU, .int .i64 1] 126))):=j.o.alloc j.o.size _;clear Q G j I;refine aR jN ?_;rintro r U ⟨o,D,AS,k',V,rfl,X,H, -, -, -, -, -, -,p⟩;obtain⟨F,⟨k2,⟨Y,v,B, -⟩, -⟩,hj,hn⟩:=X;have T:Rz Y.s:=Rz.before (by show Rz (jZ NQ (gD (BC GR gl sv) [(2,0,1)]) 8);rw[LZ];exact Qb gl sv) rfl v;obtain⟨C,z2⟩:=T.tick;rw[<-B] at C z2;rw[LZ,C,Va] at hj;rw[LZ,C,Uy] at hn;obtain⟨⟨env,ch⟩,S,R,W,A,tk,nu,⟨TA,Tn,Tc⟩,st,x,y,z⟩:=o;simp only at C z2 hj hn;obtain⟨rfl,rfl⟩:=aeK hj;subst C z2 hn;have E:aH (aD w w U):=⟨p.os.trans c.o.os,p.tape.trans c.o.tape,p.output.trans c.o.output,aaC c.o.size p.size,λi hi=>(p.block i (.inl hi)).trans (c.o.block i hi)⟩
 clear p v B T H hj F jN c;simp only[jW];go_wp2_with fail
 go_ret
 exact⟨rfl,E.o.alloc E.o.size _⟩
end
end Go.Proofs.YtacgiflhgdaeaaaGreat
