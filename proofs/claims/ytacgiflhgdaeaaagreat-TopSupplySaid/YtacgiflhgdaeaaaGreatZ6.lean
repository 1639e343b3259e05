/- Texts laid as one. -/
import Derived.MapKept
import Derived.Maps.OwnSet
import Derived.Maps.OwnOps
import Derived.Test.YtacgiflhgdaeaaaGreatZ1
import Derived.Test.YtacgiflhgdaeaaaGreatZ5
set_option linter.unusedVariables false
set_option linter.unusedSimpArgs false
set_option maxRecDepth 100000
set_option maxHeartbeats 20000000
namespace Go.Proofs.YtacgiflhgdaeaaaGreat
open Go.Proofs.Tryz
open Go renaming World->aA,Value->aC,Addr->aJ,TypeId->aN,Program->aO,Calls->aG
open Go.RowKit renaming Hid->aH
open Go.Obj renaming cells->aI
section
open Go.RowKit Go.Lib Go.Shelf
variable{A6 A B:Option aJ}{n q g d:Nat}{F:Nat->Prop}{w w':aA}
section
section
variable{F:Nat->Prop}{w w5:aA}{g c d:Nat}{s:Sv}{A B:Option aJ}
theorem gM.Qq(h:gM F w g s A c B d)(v:Int):gM F (w.setCell (g,2) v) g {s with nw:=v} A c B d/\Kp F w (w.setCell (g,2) v):=
 h.cells (s':={s with nw:=v}) rfl rfl (aY (bE w g) 2 _) (by have:=h.b.bQ 2 v;simpa[zF] using this)
theorem gM.V7(h:gM F w g s A c B d)(v:Int):gM F (w.setCell (g,3) v) g {s with av:=v} A c B d/\Kp F w (w.setCell (g,3) v):=
 h.cells (s':={s with av:=v}) rfl rfl (aY (bE w g) 3 _) (by have:=h.b.bQ 3 v;simpa[zF] using this)
theorem gM.Yg(h:gM F w g s A c B d):gM F (w.setCell (g,4) (.slice none 0 0)) g {s with ch:= []} none 0 B d/\Kp F w (w.setCell (g,4) (.slice none 0 0)):=by
 have a:=aY (bE w g) 4 (.slice none 0 0);have k:=h.fl.self h.fg a;exact⟨⟨by have:=h.b.bQ 4 (.slice none 0 0);simpa[zF] using this,bB.nil _ _ _,h.oB.kept a (tL h.oB),h.fl.kp k,h.fg,(λq hq=>by cases hq),h.fB⟩,k⟩
theorem gM.Vm{c6:Nat}{x:Ck}(h:gM F w g s A c B d)(p:n=s.ch.length)(a:bB zK 3 w5 (g+1) 329 A6 c6 (s.ch++ [x]))(k:w.grownBy w5 (aZ A))(l:aZ A6=aZ A\/aZ A6=some w.heap.size):
 gM F (w5.setCell (g,4) (.slice A6 (n+1) c6)) g {s with ch:=s.ch++ [x]} A6 c6 B d/\Kp F w (w5.setCell (g,4) (.slice A6 (n+1) c6)):=by
 have m:Kp F w w5:=Kp.grown k λb j=>⟨h.fl b j,λe=>h.fA b e.symm j⟩
 have r:=h.b.grown k (λe=>by have:=(h.oA.lt g e.symm).1;omega);have i:bB uD 2 w5 (g+1) 327 B d s.rf:=h.oB.kept k (by
  cases j:aZ B with
  |none=>exact .inl rfl
  |some q=>right;intro e;exact h.apart q e.symm j)
 have f:=aY (bE w5 g) 4 (.slice A6 (n+1) c6);have o:=(h.fl.kp m).self h.fg f;refine⟨⟨?_,a.kept f (tL a),i.kept f (tL i),(h.fl.kp m).kp o,h.fg,λq hq hF=>?_,h.fB⟩,m.trans o⟩
 .have:=r.bQ 4 (.slice A6 (n+1) c6);subst p;simpa[zF] using this
 .rcases l with e|e
  .exact h.fA q (e ▸ hq) hF
  .rw[e] at hq;injection hq with hq;have:=h.fl q hF;omega
theorem gM.Yf{rs:List Rl}(h:gM F w g s A c q d)(o:n=rs.length)(a:bB uD 2 w5 (g+1) 327 q d rs)(j:w.grownBy w5 (some q)):
 gM F (w5.setCell (g,5) (.slice q n d)) g {s with rf:=rs} A c q d/\Kp F w (w5.setCell (g,5) (.slice q n d)):=by
 subst o;have k:Kp F w w5:=h.fl.self (h.fB q rfl) j;have l:g≠q:=λe=>by have u:=(h.oB.lt q rfl).1;omega
 have p:=h.b.grown j (λe=>l (by injection e));have i:bB zK 3 w5 (g+1) 329 A c s.ch:=h.oA.kept j (by
  cases t:aZ A with
  |none=>exact .inl rfl
  |some r=>right;intro e;exact h.apart r t e.symm)
 have f:=aY (bE w5 g) 5 (.slice q rs.length d);have m:=(h.fl.kp k).self h.fg f;exact⟨⟨by have:=p.bQ 5 (.slice q rs.length d);simpa[zF] using this,i.kept f (tL i),a.kept f (tL a),(h.fl.kp k).kp m,h.fg,h.fA,h.fB⟩,k.trans m⟩
end
def MN(w:aA)(g:Nat):Nat:=match w.cell? (g,5) with|some (.slice _ n _)=>n|_=>0
theorem gM.MN{c:Nat}{s:Sv}(h:gM F w g s A c B d):MN w g=s.rf.length:=by
 unfold Go.Proofs.YtacgiflhgdaeaaaGreat.MN;rw[h.b.cell 5 (.slice B s.rf.length d) rfl]
structure Zh(w:aA)(g q d:Nat)(x:Rl)(n:Nat)(av:Int):Prop where
 c5:w.cell? (g,5)=some (.slice q (n+1) d)
 c3:w.cell? (g,3)=some (.int .i64 av)
 d0:w.cell? (q,0)=some (.int .i64 x.at_)
 d1:w.cell? (q,1)=some (.int .i64 x.am)
theorem gM.Su{c:Nat}{s:Sv}{x:Rl}{xs:List Rl}(h:gM F w g s A c q d)(hs:s.rf=x::xs):Zh w g q d x xs.length s.av:=by
 have a:=h.oB;rw[hs] at a;refine⟨?_,h.b.cell 3 _ rfl,?_,?_⟩
 .have:=h.b.cell 5 (.slice q s.rf.length d) rfl;rw[hs] at this;exact this
 .simpa using bG pV a (i:=0) aT (j:=0) (v:= .int .i64 x.at_) rfl
 .simpa using bG pV a (i:=0) aT (j:=1) (v:= .int .i64 x.am) rfl
def W9(y:Ck)(v:aC)(w:aA):Prop:=∃G,v= .slice (some ⟨G,0,none⟩) 1 1/\Sl zK 3 w (some ⟨G,0,none⟩) [y]
theorem W9.keep{y:Ck}{v:aC}(h:W9 y v w)(a:bV w w'):W9 y v w':=by obtain⟨G,h1,b⟩:=h;exact⟨G,h1,b.keep a⟩
structure Xd(now:Int)(s:Sv)(av:Int)(rf:List Rl):Prop where
 eq:jL now av rf=jL now s.av s.rf
 Zo:0<=av
 Qk:∀r∈rf,0<=r.am
 sum:av+lA rf=s.av+lA s.rf
 len:rf.length<=s.rf.length
theorem An{s:Sv}(h:tA F w g s)(now:Int)(rd:Bool)(hb:qE s)(hn:s.nw<=now)(hn2:now<=1048576)(h0:0<=s.nw)(hl:s.rf.length+s.ch.length<=2000000):
 aG prog 112 #[.pointer g,now,rd] w (Ra F g (.bool true) (dE s now rd) w):=by
 obtain⟨A,c,B,d,h⟩:=h;have c2:=h.b.cell 2 s.nw rfl;have f2:=h.b.frozen 2;obtain⟨m1,k1⟩:=h.Qq now;have hnn:¬now<s.nw:=aQ;have hA:=yK hb.rf;have hL:=GI hb.ch;have Z:=hb.all;have hbu:=hb.bu;have h00:=hb.av;have HB:=aP hb;have H1:aH (∃A c B d,gM F (w.setCell (g,2) now) g {s with nw:=now,av:=s.av,rf:=s.rf} A c B d):=⟨A,c,B,d,m1⟩
 have K1:=aP k1;clear h m1 k1 hb;go_enter func112,ntmps112
 go_upto_region 4 with(fail)
 generalize w.setCell (g,2) now=w1 at *;clear c2 f2;go_loopw [23] (λ_ wr=>∃(av:Int) (rf:List Rl),aH (Xd now s av rf)/\aH (∃A c B d,gM F wr g {s with nw:=now,av:=av,rf:=rf} A c B d)/\aH (Kp F w wr)) (λ_ wr=>MN wr g)
 case atStart=>exact⟨s.av,s.rf,⟨rfl,h00,HB.o.rf,rfl,aaH _⟩,H1,K1⟩
 case round=>
  clear H1 K1;obtain⟨av,rf,HP,⟨A,c,B,d,m⟩,K⟩:=hrel;have HLw:=aP m.MN;by_cases E:∃r rs,rf=r::rs/\r.at_<=now
  .obtain⟨r,rs,rfl,hr⟩:=E;obtain⟨q,rfl⟩:∃q,B=some ⟨q,0,none⟩:=by
    rcases m.oB.shape with⟨_,L,_⟩|L
    .cases L
    .exact L
   obtain⟨a0,a1,a2,a3⟩:=m.Su rfl;simp only at a1;have hp:=HP.o;have hrm:=hp.Qk r aT;have hsm:=hp.sum;rw[rN] at hsm;have Kt:=yK (λx hx=>hp.Qk x (by simp[hx]):∀x∈rs,0<=x.am);have hpa:=hp.Zo;have hln:=hp.len;simp only[abM] at hln;have HP2:aH (Xd now s (av+r.am) rs):=⟨by rw[<-hp.eq,jL,aaK hr],aQ,λx hx=>hp.Qk x (by simp[hx]),aQ,aQ⟩
   have D:=bH m K.o;have hln2:rs.length+1<=2000000:=aQ;have hw1:av+r.am<=1048576:=aQ;obtain⟨n,hn⟩:∃n,n=rs.length:=⟨_,rfl⟩
   rw[<-hn] at a0 hln2;have HN:=aP hn;have n0:(0:Int)<(n:Int)+1:=aQ;clear m K hn hp hsm hln hL hA Z h00 HP Kt;go_upto_region 5 with(fail)
   have Q:=bF a0;have R:=bF a1;have S:=bF a3;refine bS (bV _) (λ_=>bV) [] (λ_ _ _=>True) [14] [] 118 (cM _) (λ_ _ _ h M=>bZ h M) (λ_ d hd _ v w w' _ h M=>by cases hd) aV aV bK ?_;repeat refine fQ ?_
   refine eL ?_;intro γ w5 a hT;clear Q R S;simp only[dG,Act.put,aaI,aaP,aaN];refine eT ?_;have m5:=D.o.1.keep a;have k5:=D.o.2.trans (D.o.1.fl.below a);refine dU w5 rfl 3 _ _ rfl g 3 (.int .i64 (av+r.am)) rfl rfl aV rfl (m5.b.one (by simp[zF])) ?_;refine cP ?_;try simp only[Act.put]
   obtain⟨m6,k6⟩:=m5.V7 (av+r.am);generalize w5.setCell (g,3) (.int .i64 (av+r.am))=w6 at *;have hD:aG prog 154 #[.slice (some ⟨q,0,none⟩) (n+1) d,aU, .int .i64 1] w6 λe w'=>e= .returned (.slice (some ⟨q,0,none⟩) n d)/\bB uD 2 w' (g+1) 327 (some ⟨q,0,none⟩) d rs/\w6.grownBy w' (some q):=by
    have:=Wu.lP q d 0 rs.length (g+1) (r::rs) w6 m6.oB bL (by have:=HN.o;simp;omega);rw[HN.o];simpa using this
   have h6:=m6.Su rfl;rw[<-HN.o] at h6;have HD:=aP hD;have H6:=bH m6 (k5.trans k6);clear a0 a1 a2 a3 m5 k5 m6 k6 hD hT a;obtain⟨a0,a1,a2,a3⟩:=h6;go_wp2_with fail
   refine aR HD ?_;rintro e w7 ⟨rfl,own7,hg7⟩;obtain⟨m8,k8⟩:=H6.o.1.Yf HN.o own7 hg7;have b7:=H6.o.1.b.grown hg7 (λe=>by have h9:=(H6.o.1.oB.lt q rfl).1;injection e with e;omega);have f7:=b7.frozen 5;have c7:=b7.cell 5 _ rfl;have HLe:=aP m8.MN;have HM8:=bH m8 (H6.o.2.trans k8);clear a0 a1 a2 a3 m8 k8 own7 hg7 b7;go_wp2_with fail
   go_roundw
   case rel=>exact⟨av+r.am,rs,HP2.o,⟨_,_,_,_,HM8.o.1⟩,HM8.o.2⟩
   case measure=>rw[HLe.o,HLw.o];simp
  .have hp:=HP.o;have hE:jL now av rf=(av,rf):=by
    cases rf with
    |nil=>rfl
    |cons r rs=>unfold jL;rw[aaL];intro h;exact E ⟨r,rs,rfl,h⟩
   obtain⟨p,N⟩:∃p,p=iN now s:=⟨_,rfl⟩
   have hs':({s with nw:=now,av:=av,rf:=rf}:Sv)=p:=by rw[N];unfold iN;rw[<-hp.eq,hE]
   have T:p.rf=rf/\p.av=av:=by rw[<-hs'];exact⟨rfl,rfl⟩
   rw[hs'] at m;have O:=HB.o.pop now;rw[<-N] at O;have hpe:p.pe=s.pe/\p.ch=s.ch:=by rw[N];exact⟨rfl,rfl⟩
   have hpb:=O.bu;have hpa:=O.av;have HV:aH (dE s now rd=if rd then(if 0<p.av then {p with ch:=p.ch++ [⟨p.av,0,now+p.pe⟩],av:=0} else p) else {p.ch.foldl dS p with ch:= []}):=by unfold aH;rw[N];rfl
   have D:=cZ m K.o O;have hlr:rf.length+p.ch.length<=2000000:=by have:=hp.len;rw[hpe.2];omega
   have c5:=m.b.cell 5 (.slice B p.rf.length d) rfl;have HPR:=aP T;have HLR:aH (p.rf.length+p.ch.length<=2000000):=by unfold aH;rw[T.1];exact hlr
   rw[T.1] at c5;have HNP:=aP E;clear hp hE hs' T K hn Z hA hL h00 O E HP N hpe;rcases rf with _|⟨r,rs⟩;clear m;simp only[ab5] at c5;go_upto_region 7 with(fail)
   rotate_left
   obtain⟨q,rfl⟩:∃q,B=some ⟨q,0,none⟩:=by
    rcases m.oB.shape with⟨_,L,_⟩|L
    .rw[HPR.o.1] at L;cases L
    .exact L
   have a2:=(m.Su HPR.o.1).d0;have hr:¬r.at_<=now:=λh=>HNP.o ⟨r,rs,rfl,h⟩
   simp only[abM] at c5 hlr;have n0:(0:Int)<(rs.length:Int)+1:=aQ;clear m;generalize rs.length=n at *;go_upto_region 7 with(fail)
   all_goals
    clear c5 HPR HNP;have c3:=D.o.1.b.cell 3 p.av rfl;have c4:=D.o.1.b.cell 4 (.slice A p.ch.length c) rfl;have c1:=D.o.1.b.cell 1 p.pe rfl;cases rd
    .have I:aH (dE s now false={p.ch.foldl dS p with ch:= []}):=by have:=HV.o;rw[aaL aT] at this;exact this
     have hlc:p.ch.length<=2000000:=aQ;have hlr2:p.rf.length+p.ch.length<=2000000:=HLR.o;obtain⟨H,f⟩:∃H,H=p.ch.length:=⟨_,rfl⟩
     rw[<-f] at c4 hlc hlr2;have P:=aP f;have HF0:aH (EE p p 0):=EE.zero D.o.2.2;have HM0:aH (∃B d,gM F wr g p A c B d):=⟨_,_,D.o.1⟩
     have HK0:=aP D.o.2.1;clear f HV c3 c1;go_wp2_with fail
     go_loopw [69] (λv69 wz=>∃(k:Nat) (st:Sv),v69= .int .i64 k/\k<=H/\aH (EE p st k)/\aH (∃B d,gM F wz g st A c B d)/\aH (Kp F w wz)) (λv69 _=>H - (intOf v69).toNat)
     case atStart=>exact⟨0,p,rfl,aaQ _,HF0,HM0,HK0⟩
     case round=>
      clear HF0 HM0 HK0;obtain⟨k,st,rfl,hk,i,⟨B2,d2,m⟩,HK⟩:=hrel;by_cases hkn:k<H
      .have J:k<p.ch.length:=by rw[<-P.o];exact hkn
       have hst:=aP (i.o.step D.o.2.2 J);have hxs:p.ch[k]∈p.ch.drop k:=by rw[acG J];exact List.mem_cons_self
       have hbe:=i.o.AF;have hfl:=i.o.len;have hfs:=i.o.sum;have hfa:=i.o.av;have hx:=D.o.2.2.ch _ (aaM J);have hns:=yK i.o.rf;have hnl:=GI (l:=p.ch.drop (k+1)) (λz M=>D.o.2.2.ch z (afM M));have hdk:p.ch.drop k=p.ch[k]::p.ch.drop (k+1):=acG J;rw[hdk,kP] at hfs;have u:k<st.ch.length:=by rw[i.o.ch];exact J
       have hge:st.ch[k]=p.ch[k]:=by simp only[i.o.ch]
       obtain⟨q,rfl⟩:∃q,A=some ⟨q,0,none⟩:=by
        rcases m.oA.shape with⟨_,L,_⟩|L
        .rw[L] at u;simp at u
        .exact L
       have e0:=bG kI m.oA u (j:=0) (v:= .int .i64 st.ch[k].lf) rfl;have e1:=bG kI m.oA u (j:=1) (v:= .int .i64 st.ch[k].us) rfl;have e2:=bG kI m.oA u (j:=2) (v:= .int .i64 st.ch[k].de) rfl;rw[hge] at e0 e1 e2;rw[aa3] at e0;have hbx:∀r∈st.rf,r.at_<=p.ch[k].de:=λr hr=>hbe r hr _ hxs
       have HS:=cZ hst.o hbx HK.o;have hlr3:st.rf.length<=2000000:=aQ;obtain⟨y,hy⟩:∃y,y=p.ch[k]:=⟨_,rfl⟩
       rw[<-hy] at HS e0 e1 e2 hx hfs;have HM2:=aP m;have k0:(0:Int)<=k:=aQ;have k1:(k:Int)<(H:Int):=aQ;have hw1:st.av+y.lf<=1048576:=aQ;have hw2:0<=st.av+y.lf:=aQ;have yb:=bC.new wr 329 #[y.lf,y.us,y.de];clear hst hbx hbe hfl hfs hns hnl hdk hge u hxs hy J HK i m;go_upto_region 11 with(fail)
       have hyg:wr.heap.size≠g:=by have:=HM2.o.b.lt;omega
       have m3:=HM2.o.keep (aX wr (aI #[y.lf,y.us,y.de] 329));have kk:=HS.o.2.2.trans (HM2.o.fl.below (aX wr (aI #[y.lf,y.us,y.de] 329)));generalize wr.alloc (aI #[y.lf,y.us,y.de] 329)=w3 at *;generalize wr.heap.size=yq at *;have x0:=yb.cell 0 y.lf rfl;have c3:=m3.b.cell 3 st.av rfl;have H3:=cZ m3 kk yb;clear m3 kk yb e0 e1 e2;have U:=bF x0;have C:=bF c3;refine bS (bV _) (λ_=>bV) [] (λ_ _ _=>True) [9] [] 118 (cM _) (λ_ _ _ h M=>bZ h M) (λ_ d hd _ v w w' _ h M=>by cases hd) aV aV bK ?_;repeat refine fQ ?_
       refine eL ?_;intro γ w5 a hT;clear U C;simp only[dG,Act.put,aaI,aaP,aaN];refine eT ?_;have m5:=H3.o.1.keep a;have k5:=H3.o.2.1.trans (H3.o.1.fl.below a);refine dU w5 rfl 3 _ _ rfl g 3 (.int .i64 (st.av+y.lf)) rfl rfl aV rfl (m5.b.one (by simp[zF])) ?_;refine cP ?_;try simp only[Act.put]
       obtain⟨m6,k6⟩:=m5.V7 (st.av+y.lf);have V:=(H3.o.2.2.keep a).mG (p:=⟨g,3,none⟩) hyg (.int .i64 (st.av+y.lf));generalize w5.setCell (g,3) (.int .i64 (st.av+y.lf))=w6 at *;have zN:=aP (Ds m6 y HS.o.2.1 (by simp only;omega));have HK6:=aP (k5.trans k6);clear m5 k5 m6 k6 hT a c3 x0;have x0:=V.cell 0 y.lf rfl;have x1:=V.cell 1 y.us rfl;have x2:=V.cell 2 y.de rfl;clear V;go_wp2_with fail
       refine aR zN ?_;rintro e w7 ⟨rfl,⟨B3,d3,m7⟩,k7⟩;have HF7:=bH m7 (HK6.o.trans k7);clear m7 k7 x0 x1 x2;go_wp2_with fail
       go_roundw
       case rel=>exact⟨k+1,dS st y,by go_num,aQ,HS.o.1,⟨_,_,HF7.o.1⟩,HF7.o.2⟩
       case measure=>simp[intOf];omega
      .obtain rfl:k=H:=aQ;have k1:¬(k:Int)<(k:Int):=aQ;have hE:st=p.ch.foldl dS p:=by rw[i.o.eq,aa7 (by rw[<-P.o];exact aaH _)]
       have f4:=m.b.frozen 4;have c4:=m.b.cell 4 (.slice A st.ch.length c) rfl;obtain⟨m8,k8⟩:=m.Yg;have HF:=cZ m8 (HK.o.trans k8) hE;clear m m8 k8 hE i HK;go_wp2_with fail
       go_ret
       exact⟨rfl,by rw[I.o,<-HF.o.2.2];exact⟨_,_,_,_,HF.o.1⟩,HF.o.2.1⟩
    .by_cases hav:0<p.av
     .have I:aH (dE s now true={p with ch:=p.ch++ [⟨p.av,0,now+p.pe⟩],av:=0}):=by have:=HV.o;rw[aaK rfl,aaK hav] at this;exact this
      obtain⟨y,hy⟩:∃y:Ck,y=⟨p.av,0,now+p.pe⟩:=⟨_,rfl⟩
      have HY:aH (∀(W:aA) t,Sl zK 3 (W.alloc (.cells #[p.av,aU, .int .i64 (now+p.pe)] t)) (some ⟨W.heap.size,0,none⟩) [y]):=λW t=>Sl.new kI W y _ (by rw[hy];rfl) t
      rw[<-hy] at I;clear hy HV;obtain⟨H,f⟩:∃H,H=p.ch.length:=⟨_,rfl⟩
      rw[<-f] at c4 hlr;have P:=aP f;clear f;go_upto_region 16 with(fail)
      have X:=bF c1;have C:=bF c3;have Y:=bF c4;refine bS (bV _) (λ_=>bV) [111] (λ_ v w=>W9 y v w) [18,21] [[18,17,16,8], [18,17,16,15,14]] 118 (cM _) (λ_ _ _ h M=>bZ h M) (λ_ d hd _ v w w' _ h M=>h.keep M) aV aV bK ?_;repeat (first|(refine fQ ?_)|(refine JT 111 [] bK bK bK bK (λγ w hC hT=>?_) ?_;(simp only[dG];go_simp;exact DD (aX w _) ⟨_,rfl,HY.o w _⟩);(try refine dB ?_)))
      refine eL ?_;intro γ w5 a hT;clear X C Y;simp only[dG,Act.put,aaI,aaP,aaN];refine eT ?_;obtain⟨G,hv,hsl⟩:=hT 111 aT;rw[hv];have m5:=D.o.1.keep a;have k5:=D.o.2.1.trans (D.o.1.fl.below a);clear hT hv HY c1 c3 c4;refine bN w5 rfl (.tmp 98) (.tmp 111) rfl Xx kI m5.oA (n:=H) P.o.symm rfl (m:=1) rfl (ys:= [y]) rfl hsl dT aQ (by have:=m5.b.lt;omega) _ rfl (H+1) rfl ?_;intro A6 c6 w6 own6 hg6 at6;have b6:=m5.b.grown hg6 (λe=>by have:=(m5.oA.lt g e.symm).1;omega);refine dU w6 rfl 300 _ _ rfl g 4 (.slice A6 (H+1) c6) rfl rfl aV rfl (b6.one (by simp[zF])) ?_;refine cP ?_;try simp only[Act.put]
      obtain⟨m7,k7⟩:=m5.Vm P.o own6 hg6 at6;generalize w6.setCell (g,4) (.slice A6 (H+1) c6)=w7 at *;have f3:=m7.b.frozen 3;have c3:=m7.b.cell 3 p.av rfl;obtain⟨m8,k8⟩:=m7.V7 0;have HF:=bH m8 ((k5.trans k7).trans k8);clear m5 k5 m7 k7 m8 k8 own6 hg6 at6 b6 hsl a;go_wp2_with fail
      go_ret
      exact⟨rfl,by rw[I.o];exact⟨_,_,_,_,HF.o.1⟩,HF.o.2⟩
     .have I:aH (dE s now true=p):=by have:=HV.o;rw[aaK rfl,aaL hav] at this;exact this
      have hav2:¬0<p.av:=hav;clear HV;go_wp2_with fail
      go_ret
      exact⟨rfl,by rw[I.o];exact⟨_,_,_,_,D.o.1⟩,D.o.2.1⟩
end
variable{G H:Nat->Prop}
section
theorem tA.move{s:Sv}(h:tA F w g s)(k:Kp G w w')(a:∀r,r<w.heap.size->¬F r->G r)(fl:Ol H w')(hH:∀r,r<w.heap.size->¬F r->¬H r):tA H w' g s:=by
 obtain⟨A,c,B,d,h⟩:=h;exact⟨A,c,B,d,k.aZ h.b (a g h.b.lt h.fg),h.oA.kp k (λq hq=>a q (h.oA.lt q hq).2 (h.fA q hq)),h.oB.kp k (λq hq=>a q (h.oB.lt q hq).2 (h.fB q hq)),fl,hH g h.b.lt h.fg,λq hq=>hH q (h.oA.lt q hq).2 (h.fA q hq),λq hq=>hH q (h.oB.lt q hq).2 (h.fB q hq)⟩
def mY(bu pe:Int):Bool:=decide (1<=bu/\bu<=pe/\pe<=1048576)
theorem CS(bu pe:Int)(w:aA):aG prog 129 #[.agg #[bu,pe]] w λe w'=>e= .returned (.bool (mY bu pe))/\Below w w w':=by
 have b:=aP (aX w (aI #[bu,pe] 112));by_cases h1:1<=bu
 .by_cases c:bu<=pe
  .by_cases d:pe<=1048576
   .have a:aH (mY bu pe=true):=abD ⟨h1,c,d⟩;go_enter func129,ntmps129
    go_wp2_with fail
    go_ret
    exact⟨by first|(rw[a.o];rfl)|rw[a.o],b.o⟩
   .have a:aH (mY bu pe=false):=aa0 (λh=>d h.2.2);go_enter func129,ntmps129
    go_wp2_with fail
    go_ret
    exact⟨by first|(rw[a.o];rfl)|rw[a.o],b.o⟩
  .have a:aH (mY bu pe=false):=aa0 (λh=>c h.2.1);go_enter func129,ntmps129
   go_wp2_with fail
   go_ret
   exact⟨by first|(rw[a.o];rfl)|rw[a.o],b.o⟩
 .have a:aH (mY bu pe=false):=aa0 (λh=>h1 h.1);go_enter func129,ntmps129
  go_wp2_with fail
  go_ret
  exact⟨by first|(rw[a.o];rfl)|rw[a.o],b.o⟩
end
end
section
open Go.RowKit
section
variable{w w':aA}{b:Nat}
theorem C4{es:Array MapEntry}{c:Nat}{o:Obj}(d:w.heap[b]?=some (.map es c)):w.grownBy {w with heap:=w.heap.setIfInBounds b o} (some b):=
 ⟨rfl,rfl,rfl,aT,λi _ a=>(MapKept.heap_set d).2 i (λe=>a (by rw[e]))⟩
end
variable{es:List MapEntry}{j g:Nat}{en:MapEntry}{P:aO}{Q:Exit->Act->aA->Prop}{w:aA}
section
structure DY{α:Type}(ev:α->aC)(es:List MapEntry)(f:Int->Option α):Prop where
 ky:∀x∈es,MapKept.IsKey (.int .i64) x.key
 ap:es.Pairwise (λx y=>x.key≠y.key)
 tq:∀x v,f x=some v->∃e∈es,e.key= .int .i64 x/\e.val=ev v
 Mc:∀e∈es,∀x,e.key= .int .i64 x->∃v,f x=some v/\e.val=ev v
def gV{α:Type}(ev:α->aC)(w:aA)(b:Nat)(f:Int->Option α):Prop:=∃es clock,w.heap[b]?=some (.map es clock)/\DY ev es.toList f
def fZ{α:Type}(f:Int->Option α)(x:Int)(v:Option α):Int->Option α:=λy=>if y=x then v else f y
section
variable{α:Type}{ev:α->aC}{w w':aA}{b:Nat}{f:Int->Option α}
theorem FG(x:Int):MapKept.IsKey (.int .i64) (.int .i64 x):=by simp[MapKept.IsKey]
theorem DY.LW(h:DY ev es f){x:Int}(a:∀e∈es,e.key≠ .int .i64 x):f x=none:=by
 cases c:f x with
 |none=>rfl
 |some v=>
  obtain⟨e,he,h1,_⟩:=h.tq x v c;exact absurd h1 (a e he)
theorem DY.push(h:DY ev es f){x:Int}(g:∀e∈es,e.key≠ .int .i64 x)(v:α)(c:Nat):DY ev (es++ [{key:= .int .i64 x,val:=ev v,born:=c}]) (fZ f x (some v)):=by
 refine⟨λy d=>?_,?_,λy u d=>?_,λe he y d=>?_⟩
 .rcases aa8.1 d with d|d
  .exact h.ky y d
  .rw[aaZ.1 d];exact FG x
 .rw[abH];exact⟨h.ap,ac8 _ _,λa i c hc=>by rw[aaZ.1 hc];exact g a i⟩
 .unfold fZ at d;split at d
  .rename_i e;subst e;injection d with d;subst d;exact⟨{key:= .int .i64 y,val:=ev v,born:=c},aT,rfl,rfl⟩
  .obtain⟨e,he,h1⟩:=h.tq y u d;exact⟨e,by simp[he],h1⟩
 .rcases aa8.1 he with he|he
  .obtain⟨u,h1,j⟩:=h.Mc e he y d;refine⟨u,?_,j⟩;unfold fZ;rw[aaL (λk=>g e he (by rw[d,k]))];exact h1
  .rw[aaZ.1 he] at d⊢;simp only[Value.int.injEq,afT] at d;exact⟨v,by unfold fZ;rw[aaK d.symm],rfl⟩
theorem DY.set(h:DY ev es f){x:Int}(l:es[j]?=some en)(hk:en.key= .int .i64 x)(v:α):DY ev (es.set j {en with val:=ev v}) (fZ f x (some v)):=by
 have c:j<es.length:=by
  rcases ac0 j es.length with q|q
  .exact q
  .rw[abZ q] at l;cases l
 have d:es[j]=en:=by rw[aaG c] at l;injection l
 have g:(es.set j {en with val:=ev v}).map (·.key)=es.map (·.key):=by
  rw[ab1];apply abX
  .simp
  .intro i h1 m;rw[abF];split
   .rename_i e;subst e;simp[d]
   .rfl
 have other:∀i (hi:i<es.length),es[i].key= .int .i64 x->i=j:=by
  intro i hi e;rcases Nat.lt_trichotomy i j with q|q|q
  .exact absurd (by rw[e,d,hk]) (ab6.1 h.ap i j hi c q)
  .exact q
  .exact absurd (by rw[e,d,hk]) (ab6.1 h.ap j i c hi q)
 refine⟨λy a=>?_,?_,λy u a=>?_,λe he y a=>?_⟩
 .rcases abW a with a|a
  .exact h.ky y a
  .rw[a];exact h.ky en (d ▸ aaM c)
 .rw[<-List.pairwise_map (f:=λx:MapEntry=>x.key) (R:=(· ≠ ·)),g,List.pairwise_map];exact h.ap
 .unfold fZ at a;split at a
  .rename_i e;subst e;injection a with a;subst a;exact⟨_,List.mem_set c _,hk,rfl⟩
  .rename_i n;obtain⟨e,he,h1,m⟩:=h.tq y u a;obtain⟨i,hi,rfl⟩:=aa2 he;refine⟨es[i],?_,h1,m⟩;rw[aeP];refine⟨i,by simpa using hi,?_⟩;rw[List.getElem_set_ne];intro o;subst o;rw[d,hk] at h1;simp at h1;exact n h1.symm
 .obtain⟨i,hi,rfl⟩:=aa2 he;rw[aaV] at hi;by_cases k:j=i
  .subst k;rw[adH] at a⊢;simp only at a⊢;rw[hk] at a;simp at a;exact⟨v,by unfold fZ;rw[aaK a.symm],rfl⟩
  .rw[List.getElem_set_ne k] at a⊢;obtain⟨u,h1,m⟩:=h.Mc es[i] (aaM hi) y a;refine⟨u,?_,m⟩;unfold fZ;rw[aaL (λo=>k (other i hi (by rw[a,o])).symm)];exact h1
theorem DY.del(h:DY ev es f){x:Int}(g:es[j]?=some en)(hk:en.key= .int .i64 x):DY ev (es.eraseIdx j) (fZ f x none):=by
 have c:j<es.length:=by
  rcases ac0 j es.length with q|q
  .exact q
  .rw[abZ q] at g;cases g
 have d:es[j]=en:=by rw[aaG c] at g;injection g
 have other:∀i (hi:i<es.length),es[i].key= .int .i64 x->i=j:=by
  intro i hi e;rcases Nat.lt_trichotomy i j with q|q|q
  .exact absurd (by rw[e,d,hk]) (ab6.1 h.ap i j hi c q)
  .exact q
  .exact absurd (by rw[e,d,hk]) (ab6.1 h.ap j i c hi q)
 refine⟨λy a=>h.ky y (ad2 a),h.ap.sublist (afI es j),λy u a=>?_,λe he y a=>?_⟩
 .unfold fZ at a;split at a
  .cases a
  .rename_i k;obtain⟨e,he,h1,l⟩:=h.tq y u a;obtain⟨i,hi,rfl⟩:=aa2 he;refine⟨es[i],?_,h1,l⟩;rw[ad9];exact⟨i,hi,λm=>by subst m;rw[d,hk] at h1;simp at h1;exact k h1.symm,rfl⟩
 .rw[ad9] at he;obtain⟨i,hi,n,rfl⟩:=he;obtain⟨u,h1,l⟩:=h.Mc es[i] (aaM hi) y a;refine⟨u,?_,l⟩;unfold fZ;rw[aaL (λm=>n (other i hi (by rw[a,m])))];exact h1
theorem gV.lt(h:gV ev w b f):b<w.heap.size:=by
 obtain⟨es,c,h1,_⟩:=h;rcases ac0 b w with a|hge
 .exact a
 .rw[adT hge] at h1;cases h1
theorem gV.same(h:gV ev w b f)(a:w'.heap[b]?=w.heap[b]?):gV ev w' b f:=by
 obtain⟨es,c,h1,d⟩:=h;exact⟨es,c,a.trans h1,d⟩
theorem gV.keep(h:gV ev w b f)(a:Below w w w'):gV ev w' b f:=h.same (a.block b h.lt)
theorem gV.mG(h:gV ev w b f)(c:w.grownBy w' (some g))(a:b≠g):gV ev w' b f:=h.same (c.block b h.lt (λe=>a (by injection e)))
theorem gV.new(w:aA)(ev:α->aC):gV ev (w.alloc (.map #[] 0)) w (λ_=>none):=⟨#[],0,(MapKept.heap_alloc w _).1,aT,aT,aT,aT⟩
theorem wQ{t k e:aN}(l:P.underlying t=some (.map k e))(hk:P.underlying k=some (.int .i64)){z:aC}(m:(zeroValue e).run P w= .ok z w)(h:gV ev w b f)(x:Int)(c:Bool):
 (Instr.lookup t (.map (some b)) (.int .i64 x) c).run P w= .ok (if c then .tuple #[((f x).map ev).getD z, .bool (f x).isSome] else((f x).map ev).getD z) w:=by
 obtain⟨es,cl,h1,a⟩:=h;have d:=FG x;rcases MapKept.findNow_spec d es.toList 0 a.ky with⟨g,i⟩|⟨j,n,g,i,o⟩
 .simp[Instr.lookup,run_underlying l,MapKept.run_getObj_map h1,MapKept.run_checkKey hk d,MapKept.run_findKey hk g,m,Result.andThen,a.LW i]
 .obtain⟨v,p,q⟩:=a.Mc n (aa1 i) x o;simp[Instr.lookup,run_underlying l,MapKept.run_getObj_map h1,MapKept.run_checkKey hk d,MapKept.run_findKey hk g,Result.andThen,p,q]
theorem J6{t k e:aN}(u:P.underlying t=some (.map k e))(hk:P.underlying k=some (.int .i64))(h:gV ev w b f)(x:Int)(v:α):
 ∃w',(Instr.mapUpdate t (.map (some b)) (.int .i64 x) (ev v)).run P w= .ok () w'/\gV ev w' b (fZ f x (some v))/\w.grownBy w' (some b):=by
 obtain⟨es,c,h1,d⟩:=h;have l:=FG x;rcases MapKept.findNow_spec l es.toList 0 d.ky with⟨n,m⟩|⟨j,o,n,m,p⟩
 .exact⟨_,by simp[Instr.mapUpdate,run_underlying u,MapKept.run_getObj_map h1,MapKept.run_checkKey hk l,MapKept.run_findKey hk n,MapKept.run_setObj_map _ h1,Result.andThen];rfl,⟨_,_,(MapKept.heap_set h1).1,by rw[Array.toList_push];exact d.push m v _⟩,C4 h1⟩
 .have a:es[j]?=some o:=by simpa using m
  refine⟨_,by simp[Instr.mapUpdate,run_underlying u,MapKept.run_getObj_map h1,MapKept.run_checkKey hk l,MapKept.run_findKey hk n,a,p,MapKept.run_keyThatStays l,MapKept.run_setObj_map _ h1,Result.andThen];rfl,⟨_,_,(MapKept.heap_set h1).1,?_⟩,C4 h1⟩;have r:j<es.size:=by
   rcases ac0 j es.size with q|q
   .exact q
   .rw[adT q] at a;cases a
  have s:es[j]=o:=by rw[abE r] at a;injection a
  have heq:∀g:MapEntry->MapEntry,(es.modify j g).toList=es.toList.set j (g o):=by
   intro g;apply abX
   .simp
   .intro i h1 d;simp only[afN,Array.getElem_modify,abF];split
    .rename_i e;subst e;rw[s]
    .rfl
  rw[heq];have:=d.set m p v;simpa[p] using this
theorem AU{t k e:aN}(m:P.underlying t=some (.map k e))(hk:P.underlying k=some (.int .i64))(h:gV ev w b f)(x:Int)(ty:aN):
 ∃w',(Builtin.delete_ #[t,k] ty #[.map (some b),x]).run P w= .ok (.tuple #[]) w'/\gV ev w' b (fZ f x none)/\w.grownBy w' (some b):=by
 obtain⟨es,c,h1,d⟩:=h;have g:=FG x;rcases MapKept.findNow_spec g es.toList 0 d.ky with⟨i,a⟩|⟨j,p,i,a,n⟩
 .have o:fZ f x none=f:=by
   funext y
   unfold fZ;split
   .rename_i e;rw[e];exact(d.LW a).symm
   .rfl
  exact⟨_,by simp[Builtin.delete_,run_underlying m,MapKept.run_getObj_map h1,MapKept.run_checkKey hk g,MapKept.run_findKey hk i,MapKept.run_setObj_map _ h1,Result.andThen];rfl,⟨_,_,(MapKept.heap_set h1).1,by rw[o];exact d⟩,C4 h1⟩
 .refine⟨_,by simp[Builtin.delete_,run_underlying m,MapKept.run_getObj_map h1,MapKept.run_checkKey hk g,MapKept.run_findKey hk i,MapKept.run_setObj_map _ h1,Result.andThen];rfl,⟨_,_,(MapKept.heap_set h1).1,?_⟩,C4 h1⟩;have l:j<es.size:=by
   rcases ac0 j es.size with q|q
   .exact q
   .rw[abZ (by simpa using q)] at a;cases a
  have hd:=d.del a n;rw[Array.eraseIdxIfInBounds,dif_pos l,Array.toList_eraseIdx];exact hd
theorem Jf{t k e:aN}(a:P.underlying t=some (.map k e))(h:gV ev w b f)(ty:aN):
 ∃n:Nat,(Builtin.len_ #[t] ty #[.map (some b)]).run P w= .ok (.int .i64 n) w/\(n=0->∀x,f x=none):=by
 obtain⟨es,c,h1,d⟩:=h;refine⟨es.size,by simp[Builtin.len_,run_underlying a,MapKept.run_getObj_map h1,Result.andThen,goInt],λg x=>d.LW λe he=>?_⟩;rw[Array.size_eq_zero_iff.1 g] at he;simp at he
end
theorem G7{α:Type}(ev:α->aC){f:Int->Option α}{ops:Array Oper}{rest:List Oper}{o:Oper}{a:Act}(w:aA)(g:o.guard=none)(m x v:Operand)(t k e:aN)(d:o.op=Op.mapUpdate t m x v)
 (i:P.underlying t=some (.map k e)) (hk:P.underlying k=some (.int .i64)) (b:Nat) (n:Int) (y:α) (hm:a.eval m= .map (some b)) (j:a.eval x= .int .i64 n) (l:a.eval v=ev y) (h:gV ev w b f)
 (hK:∀w',gV ev w' b (fZ f n (some y))->w.grownBy w' (some b)->wpList P ops Q rest (a.put o.dst undef) w'):wpList P ops Q (o::rest) a w:=by
 refine wpList_plain g λK' hK'=>?_
 obtain⟨w',c,r1,p⟩:=J6 i hk h n y;unfold Oper.wp;simp[execOp,d,hm,j,l,c,Result.andThen];exact hK' _ _ (hK w' r1 p)
theorem S7{t k e:aN}(a:P.underlying t=some (.map k e))(hk:P.underlying k=some (.int .i64)){z:aC}(d:(zeroValue e).run P w= .ok z w)(x:Int)(c:Bool):
 (Instr.lookup t (.map none) (.int .i64 x) c).run P w= .ok (if c then .tuple #[z,false] else z) w:=by
 simp[Instr.lookup,run_underlying a,MapKept.run_checkKey hk (FG x),Instr.findKey,run_underlying hk,Instr.findNow,d,Result.andThen]
end
end
variable{f:Int->Option Int}{bu pe p e:Int}
section
section
structure Bk where
 sh:Int
 un:Int
structure Bs where
 bn:Int
 us:Int
 f:Int->Option Int
 L:List Bk
def eC(bu pe:Int):Int:=(4294967296 *bu+pe - 1) /pe
def DB(f:Int->Option Int):Int:=(f 0).getD 0+(f 1).getD 0+(f 2).getD 0+(f 3).getD 0+(f 4).getD 0+(f 5).getD 0+(f 6).getD 0+(f 7).getD 0
def gF(l:List Bk):Int:=(l.map Bk.sh).sum
structure uA(b:Bs):Prop where
 nn:∀x v,b.f x=some v->0<=v/\0<=x/\x<8
 pn:∀p∈b.L,0<=p.sh
 all:b.us=DB b.f+gF b.L
 top:b.us<=4294967296
def lI(b:Bs)(who bu pe:Int):Int:=if mY bu pe then(if(b.f who).isSome then 7 else if 4294967296<b.us+eC bu pe then 24 else 0) else 1
def pI(b:Bs)(who bu pe:Int):Bs:=if lI b who bu pe=0 then {b with f:=fZ b.f who (some (eC bu pe)),us:=b.us+eC bu pe} else b
def CT(b:Bs)(who:Int):Int:=if(b.f who).isSome then 0 else 6
def pL(b:Bs)(who until_:Int):Bs:=match b.f who with
 |none=>b
 |some v=>if b.bn<until_ then {b with f:=fZ b.f who none,L:=b.L++ [⟨v,until_⟩]} else {b with f:=fZ b.f who none,us:=b.us - v}
def lJ(now:Int)(l:List Bk):List Bk:=l.filter λp=>decide (p.un<=now)
def pG(now:Int)(l:List Bk):List Bk:=l.filter λp=>!decide (p.un<=now)
def jZ(b:Bs)(now:Int):Bs:=if now<b.bn then b else {b with bn:=now,us:=b.us - gF (lJ now b.L),L:=pG now b.L}
theorem AG(p:Bk)(l:List Bk):gF (p::l)=p.sh+gF l:=by simp[gF]
theorem NF(p:Bk)(l:List Bk):gF (l++ [p])=gF l+p.sh:=by simp[gF]
theorem yJ{l:List Bk}(h:∀p∈l,0<=p.sh):0<=gF l:=by
 induction l with
 |nil=>simp[gF]
 |cons p l a=>
  have:=h p aT;have:=a λq hq=>h q (by simp[hq])
  rw[AG];omega
theorem DF(now:Int):∀l:List Bk,gF l=gF (lJ now l)+gF (pG now l)
 | []=>rfl
 |p::l=>by
  have:=DF now l;unfold lJ pG at *;by_cases h:p.un<=now
  .simp only[List.filter_cons,h,decide_true,acY,Bool.not_true,abB,ab4,AG];omega
  .simp only[List.filter_cons,h,decide_false,acY,Bool.not_false,abB,ab4,AG];omega
theorem WB(now:Int)(l:List Bk)(p:Bk):lJ now (l++ [p])=lJ now l++(if p.un<=now then [p] else []):=by
 unfold lJ;by_cases h:p.un<=now <;> simp[acR,h]
theorem W3(now:Int)(l:List Bk)(p:Bk):pG now (l++ [p])=pG now l++(if p.un<=now then [] else [p]):=by
 unfold pG;by_cases h:p.un<=now <;> simp[acR,h]
theorem eight{x:Int}(h:0<=x/\x<8):x=0\/x=1\/x=2\/x=3\/x=4\/x=5\/x=6\/x=7:=aQ
theorem QK{x:Int}(h:0<=x/\x<8)(v:Option Int):DB (fZ f x v)=DB f+v.getD 0 - (f x).getD 0:=by
 rcases eight h with rfl|rfl|rfl|rfl|rfl|rfl|rfl|rfl <;> simp[DB,fZ] <;> omega
theorem Pf(h:∀x v,f x=some v->0<=v/\0<=x/\x<8){x v:Int}(b:f x=some v):v<=DB f:=by
 have a:∀y,0<=(f y).getD 0:=λy=>by
  cases c:f y with
  |none=>simp
  |some u=>simpa using (h y u c).1
 have d:=a 0;have h1:=a 1;have e:=a 2;have g:=a 3;have i:=a 4;have j:=a 5;have k:=a 6;have l:=a 7;have m:v=(f x).getD 0:=by rw[b];rfl
 unfold DB;rcases eight (h x v b).2 with rfl|rfl|rfl|rfl|rfl|rfl|rfl|rfl <;> omega
theorem UR(h:∀x v,f x=some v->0<=v/\0<=x/\x<8):0<=DB f:=by
 have a:∀y,0<=(f y).getD 0:=λy=>by
  cases b:f y with
  |none=>simp
  |some u=>simpa using (h y u b).1
 have c:=a 0;have h1:=a 1;have d:=a 2;have e:=a 3;have g:=a 4;have i:=a 5;have j:=a 6;have k:=a 7;unfold DB;omega
theorem xI(h:mY bu pe=true):1<=bu/\bu<=pe/\pe<=1048576:=acC h
theorem zY(h:1<=bu/\bu<=pe/\pe<=1048576):1<=eC bu pe/\eC bu pe<=4294967296:=by
 unfold eC;refine⟨(afB aQ).2 aQ,?_⟩;have:(4294967296 *bu+pe - 1) /pe<4294967297:=(aeF aQ).2 aQ;omega
theorem uA.Za{b:Bs}(h:uA b):0<=b.us:=by
 have:=h.all;have:=UR h.nn;have:=yJ h.pn;omega
theorem uA.Yx{b:Bs}(h:uA b)(hw:0<=p/\p<8):uA (pI b p bu pe):=by
 unfold pI;split
 .rename_i he;unfold lI at he;split at he
  .rename_i d;split at he
   .cases he
   .rename_i hs;split at he
    .cases he
    .rename_i g;have i:=zY (xI d);have c:b.f p=none:=by
      cases c:b.f p with
      |none=>rfl
      |some v=>rw[c] at hs;simp at hs
     refine⟨λx v a=>?_,h.pn,?_,by simp only;omega⟩
     .simp only[fZ] at a;split at a
      .rename_i e;injection a with a;subst a;exact⟨aQ,aQ,aQ⟩
      .exact h.nn x v a
     .have:=h.all;simp only[QK hw,c,afK,Option.getD_none];omega
  .cases he
 .exact h
theorem uA.rel{b:Bs}(h:uA b):uA (pL b e pe):=by
 unfold pL;split
 .exact h
 .rename_i v g;have h1:=h.nn e v g;have hs:=QK h1.2 (none:Option Int) (f:=b.f);rw[g] at hs;simp only[Option.getD_none,afK] at hs;have i:=h.all;have a:=h.top;have c:∀x u,fZ b.f e none x=some u->0<=u/\0<=x/\x<8:=λx u d=>by
   simp only[fZ] at d;split at d
   .cases d
   .exact h.nn x u d
  split
  .refine⟨c,λp hp=>?_,by simp only[NF,hs];omega,a⟩;rcases aa8.1 hp with hp|hp
   .exact h.pn p hp
   .rw[aaZ.1 hp];exact h1.1
  .exact⟨c,h.pn,by simp only[hs];omega,by simp only;omega⟩
theorem uA.Zr{b:Bs}(h:uA b){now:Int}:uA (jZ b now):=by
 unfold jZ;split
 .exact h
 .have hs:=DF now b.L;have a:0<=gF (lJ now b.L):=yJ λp hp=>h.pn p (acW.1 hp).1
  have:=h.all;have:=h.top;exact⟨h.nn,λp hp=>h.pn p (acW.1 hp).1,by simp only;omega,by simp only;omega⟩
end
end
section
open Go.RowKit Go.Lib Go.Shelf
variable{w:aA}{g n d:Nat}{cs:Array aC}{M:Option Nat}{F:Nat->Prop}{B:Option aJ}{tu:Int}
section
def UW(x:Bk):List aC:= [.int .u64 x.sh, .int .i64 x.un]
theorem BF:eY UW 2:=⟨λ_=>rfl,λx u hu=>by simp[UW] at hu;rcases hu with rfl|rfl <;> rfl⟩
def LA(x:Int):aC:= .int .u64 x
def ID(E:Option aJ)(n c:Nat)(bn us:Int)(M:Option Nat)(B:Option aJ)(m d:Nat)(nw tu:Int):Array aC:=#[(E,n,c),bn, .int .u64 us, .map M,(B,m,d),nw,tu]
def Jt{α:Type}(ev:α->aC)(w:aA)(M:Option Nat)(f:Int->Option α):Prop:=(M=none->∀x,f x=none)/\∀r,M=some r->gV ev w r f
structure fY(F:Nat->Prop)(w:aA)(g:Nat)(E:Option aJ)(n c:Nat)(s:Bs)(M:Option Nat)(B:Option aJ)(d:Nat)(nw tu:Int):Prop where
 b:bC w g 186 (ID E n c s.bn s.us M B s.L.length d nw tu)
 oB:bB UW 2 w (g+1) 331 B d s.L
 mp:Jt LA w M s.f
 fl:Ol F w
 fg:¬F g
 fB:∀q,aZ B=some q->¬F q
 fM:∀r,M=some r->¬F r
theorem zI{α:Type}{ev:α->aC}{f:Int->Option α}{b:Nat}{t:aN}(h:gV ev w b f)(a:bC w g t cs):b≠g:=λe=>by
 subst e;obtain⟨es,c,h1,_⟩:=h;unfold bC at a;rw[h1] at a;cases a
section
variable{F:Nat->Prop}{w w':aA}{g n c d:Nat}{E B:Option aJ}{nw tu:Int}{M:Option Nat}{b:Bs}
theorem fY.keep(h:fY F w g E n c b M B d nw tu)(a:Below w w w'):fY F w' g E n c b M B d nw tu:=⟨h.b.keep a,h.oB.keep a,⟨h.mp.1,λr e=>(h.mp.2 r e).keep a⟩,h.fl.kp (h.fl.below a),h.fg,h.fB,h.fM⟩
theorem fY.cells(h:fY F w g E n c b M B d nw tu){bn' us' nw' tu':Int}(a:w.grownBy w' (some g))(f:bC w' g 186 (ID E n c bn' us' M B b.L.length d nw' tu')):fY F w' g E n c {b with bn:=bn',us:=us'} M B d nw' tu'/\Kp F w w':=by
 have k:=h.fl.self h.fg a;exact⟨⟨f,h.oB.kept a (tL h.oB),⟨h.mp.1,λr e=>(h.mp.2 r e).mG a (zI (h.mp.2 r e) h.b)⟩,h.fl.kp k,h.fg,h.fB,h.fM⟩,k⟩
theorem fY.YG(h:fY F w g E n c b M B d nw tu)(v:Int):fY F (w.setCell (g,2) (.int .u64 v)) g E n c {b with us:=v} M B d nw tu/\Kp F w (w.setCell (g,2) (.int .u64 v)):=
 h.cells (bn':=b.bn) (aY (bE w g) 2 _) (by have:=h.b.bQ 2 (.int .u64 v);simpa[ID] using this)
theorem fY.Vn(h:fY F w g E n c b M B d nw tu)(v:Int):fY F (w.setCell (g,1) v) g E n c {b with bn:=v} M B d nw tu/\Kp F w (w.setCell (g,1) v):=
 h.cells (us':=b.us) (aY (bE w g) 1 _) (by have:=h.b.bQ 1 v;simpa[ID] using this)
theorem fY.Se(h:fY F w g E n c b M B d nw tu){r:Nat}(hm:gV LA w r f)(hF:¬F r):fY F (w.setCell (g,3) (.map (some r))) g E n c {b with f:=f} (some r) B d nw tu/\Kp F w (w.setCell (g,3) (.map (some r))):=by
 have a:=aY (bE w g) 3 (.map (some r));have k:=h.fl.self h.fg a;refine⟨⟨by have:=h.b.bQ 3 (.map (some r));simpa[ID] using this,h.oB.kept a (tL h.oB),⟨λh=>(by cases h),λq hq=>?_⟩,h.fl.kp k,h.fg,h.fB,λq hq=>?_⟩,k⟩
 .injection hq with hq;subst hq;exact hm.mG a (zI hm h.b)
 .injection hq with hq;subst hq;exact hF
theorem fY.map{r:Nat}(h:fY F w g E n c b (some r) B d nw tu)(hm:gV LA w' r f)(a:w.grownBy w' (some r)):fY F w' g E n c {b with f:=f} (some r) B d nw tu/\Kp F w w':=by
 have k:=h.fl.self (h.fM r rfl) a;have i:=zI (h.mp.2 r rfl) h.b;refine⟨⟨h.b.grown a (λe=>i (by injection e with e;exact e.symm)),h.oB.kept a ?_,⟨λh=>(by cases h),λq hq=>?_⟩,h.fl.kp k,h.fg,h.fB,h.fM⟩,k⟩
 .cases j:aZ B with
  |none=>exact .inl rfl
  |some q=>
   right
   intro e;obtain⟨cs,h1⟩:=yV h.oB q j;injection e with e;exact zI (h.mp.2 r rfl) h1 e.symm
 .injection hq with hq;subst hq;exact hm
end
theorem Uh(r:Nat)(w:aA):(binOp BinOp.eql 181 (.map (some r)) (.map none)).run prog w= .ok (.bool false) w:=aV
theorem Pq(w:aA):(binOp BinOp.eql 181 (.map none) (.map none)).run prog w= .ok (.bool true) w:=aV
theorem JS:∀w,(zeroValue 75).run prog w= .ok (.int .u64 0) w:=λw=>by kernel_rfl
theorem Dm(h:Jt LA w M f)(a:Int):∃v:aC,(Instr.lookup 181 (.map M) (.int .i64 a) true).run prog w= .ok (.tuple #[v, .bool (f a).isSome]) w:=by
 cases M with
 |none=>rw[h.1 rfl a];exact⟨_,S7 underlying181 underlying3 (JS w) a true⟩
 |some r=>exact⟨_,wQ underlying181 underlying3 (JS w) (h.2 r rfl) a true⟩
theorem R0{c:Nat}{E:Option aJ}{nw:Int}{b:Bs}(h:fY F w g E n c b M B d nw tu)(a:Int):
 aG prog 135 #[.pointer (some ⟨g,1,none⟩),a] w λe w'=>e= .returned (.bool (b.f a).isSome)/\w=w':=by
 have c3:=h.b.cell 3 (.map M) rfl;obtain⟨v,i⟩:=Dm h.mp a;clear h;generalize (b.f a).isSome=ok at *;go_enter func135,ntmps135
 go_wp2_with fail
 go_ret
 exact⟨rfl,rfl⟩
theorem Br(bu pe:Int)(w:aA)(v:mY bu pe=true):aG prog 136 #[.agg #[bu,pe]] w λe w'=>e= .returned (.int .u64 (eC bu pe))/\Below w w w':=by
 have x:=xI v;have y:aH (eC bu pe=(4294967296 *bu+pe - 1) /pe):=rfl;have k:=aP (λW=>CS bu pe W);rw[v] at k;have j:=aX w (aI #[bu,pe] 112);have m:=bC.new w 112 #[bu,pe];go_enter func136,ntmps136
 go_upto_region 1 with(fail)
 generalize w.alloc (aI #[bu,pe] 112)=w1 at *;generalize hq:w.heap.size=q at m⊢;have p:=m.cell 0 bu rfl;have r:=m.cell 1 pe rfl;go_wp2_with fail
 refine aS (k.o _) ?_;rintro e z ⟨rfl,a⟩;replace p:=bD a p;replace r:=bD a r;have A:(0:Int)<=pe:=aQ;have z0:IntKind.u64.wrap bu=bu:=by rw[IntKind.wrap_u64];omega
 have C:IntKind.u64.wrap pe=pe:=by rw[IntKind.wrap_u64];omega
 go_upto_region 3 with(fail)
 (have f:=bR.cell p;have h:=bR.cell r;refine dA aV aV ?_;(repeat (go_big_quiet_step (fail)));refine wpQuiet_nil ?_;clear f h;intro D i;have t:=bR.below i;clear i)
 have p0:¬pe=0:=aQ;have z2:IntKind.u64.wrap (4294967296 *bu)=4294967296 *bu:=by rw[IntKind.wrap_u64];omega
 have z3:IntKind.u64.wrap (4294967296 *bu+pe)=4294967296 *bu+pe:=by rw[IntKind.wrap_u64];omega
 have z4:IntKind.u64.wrap (4294967296 *bu+pe - 1)=4294967296 *bu+pe - 1:=by rw[IntKind.wrap_u64];omega
 have G:=zY x;have z5:Int.tdiv (4294967296 *bu+pe - 1) pe=eC bu pe:=by rw[y.o];exact Int.tdiv_eq_ediv_of_nonneg aQ
 have H:IntKind.u64.wrap (eC bu pe)=eC bu pe:=by rw[IntKind.wrap_u64];omega
 generalize l:eC bu pe=s at *;have u:=aP l;clear l;go_wp2_with fail
 go_ret
 exact⟨by simp;exact u.o.symm,(j.trans (Below.mono a j.size)).trans (Below.mono t (aaR j.size a.size))⟩
theorem Y5{c:Nat}{E:Option aJ}{nw:Int}{b:Bs}(h:fY F w g E n c b M B d nw tu)(T:uA b)(a bu pe:Int):
 aG prog 96 #[.pointer (some ⟨g,1,none⟩),a, .agg #[bu,pe]] w λe w'=>e= .returned (.int .i64 (lI b a bu pe))/\(∃M,fY F w' g E n c (pI b a bu pe) M B d nw tu)/\Kp F w w':=by
 have p:=aP (λW=>CS bu pe W);have A:=aX w (aI #[bu,pe] 112);have t:=bC.new w 112 #[bu,pe];have m1:=h.keep A;have U:=h.fl.below A;by_cases u:mY bu pe=true
 .have hR:=xI u;have hs:=zY hR;have hu:=T.Za;have ht:=T.top;have J:=aP (λW=>Br bu pe W u);rw[u] at p;have x:aH (lI b a bu pe=if(b.f a).isSome then 7 else if 4294967296<b.us+eC bu pe then 24 else 0):=by unfold aH lI;rw[aaK u]
  have C:aH (pI b a bu pe=if lI b a bu pe=0 then {b with f:=fZ b.f a (some (eC bu pe)),us:=b.us+eC bu pe} else b):=rfl;generalize pI b a bu pe=b' at *;generalize lI b a bu pe=I at *;clear h u T;generalize eC bu pe=s at *;go_enter func96,ntmps96
  go_upto_region 3 with(fail)
  generalize w.alloc (aI #[bu,pe] 112)=w1 at *;generalize hq:w.heap.size=q at t⊢;have V:=t.cell 0 bu rfl;have X:=t.cell 1 pe rfl;clear t;have y:=bH m1 U;clear m1 U A;go_wp2_with fail
  refine aS (p.o _) ?_;rintro e w2 ⟨rfl,j⟩;replace V:=bD j V;replace X:=bD j X;have m2:=y.o.1.keep j;have k:=bH m2 (y.o.2.trans (y.o.1.fl.below j));have z:=aP (R0 m2 a);clear m2 j y;go_wp2_with fail
  refine aR z ?_;rintro e w3 ⟨rfl,rfl⟩;cases Y:b.f a with
  |some v=>
   rw[Y] at x;have he:aH (I=7):=by show I=7;have:=x.o;simpa using this
   clear x;simp only[acE];go_wp2_with fail
   go_ret
   refine⟨by rw[he.o];rfl,?_,k.o.2⟩;rw[C.o,he.o,aaL aQ];exact⟨_,k.o.1⟩
  |none=>
   rw[Y] at x;simp only[acF];clear Y z;go_wp2_with fail
   refine aS (J.o _) ?_;rintro e m ⟨rfl,D⟩;have m4:=k.o.1.keep D;have i:=bH m4 (k.o.2.trans (k.o.1.fl.below D));have c2:=m4.b.cell 2 (.int .u64 b.us) rfl;clear m4 D k V X p J;have z1:IntKind.u64.wrap (b.us+s)=b.us+s:=by rw[IntKind.wrap_u64];omega
   by_cases G:4294967296<b.us+s
   .have he:aH (I=24):=by have:=x.o;rw[aaL aT,aaK G] at this;exact this
    clear x;go_wp2_with fail
    go_ret
    refine⟨by rw[he.o];rfl,?_,i.o.2⟩;rw[C.o,he.o,aaL aQ];exact⟨_,i.o.1⟩
   .have he:aH (I=0):=by have:=x.o;rw[aaL aT,aaL G] at this;exact this
    clear x;have c3:=i.o.1.b.cell 3 (.map M) rfl;obtain⟨K,H⟩:∃K,K=b.us:=⟨_,rfl⟩
    rw[<-H] at c2 z1 G hu ht;have HU:=aP H;clear H;have L:=λr=>Uh r m
    rcases M with _|r;have Z:= @run_makeMap prog;have a1:=Pq m;have m5:=i.o.1.keep (aX m (Obj.map #[] 0));have c5:=m5.b.cell 3 (.map none) rfl;have f5:=m5.b.frozen 3;go_upto_region 12 with(fail)
    obtain⟨m6,k6⟩:=m5.Se (gV.new m LA) (λhF=>by have:=i.o.1.fl _ hF;omega);have N:b.f=λ_=>none:=funext (i.o.1.mp.1 rfl)
    have m7:fY F ((m.alloc (Obj.map #[] 0)).setCell (g,3) (.map (some m.heap.size))) g E n c b (some m.heap.size) B d nw tu:=by
     have:=m6;rw[<-N] at this;exact this
    have l:=aP (And.intro m7 (i.o.2.trans ((i.o.1.fl.below (aX m _)).trans k6)));clear m5 c5 f5 m6 k6 m7 N i Z a1 L c2 c3;generalize (m.alloc (Obj.map #[] 0)).setCell (g,3) (.map (some m.heap.size))=w6 at *;generalize m.heap.size=r at *;rotate_left
    all_goals try go_upto_region 12 with(fail)
    clear L c2 c3;have l:=i;clear i;generalize m=w6 at *
    all_goals
     obtain⟨w7,O,P,Q⟩:=J6 underlying181 underlying3 (l.o.1.mp.2 r rfl) a s;have c3:=l.o.1.b.cell 3 (.map (some r)) rfl;obtain⟨m7,k7⟩:=l.o.1.map P Q;obtain⟨m8,k8⟩:=m7.YG (K+s);have c2:=m7.b.cell 2 (.int .u64 b.us) rfl;have f2:=m7.b.frozen 2;rw[<-HU.o] at c2;have R:=bH m8 ((l.o.2.trans k7).trans k8);clear m7 k7 m8 k8 P Q l;simp only[LA] at O;go_wp2_with fail
     have a6:aH (Ending.returned (.int .i64 0)=Ending.returned (.int .i64 I)/\(∃M,fY F (w7.setCell (g,2) (.int .u64 (K+s))) g E n c b' M B d nw tu)/\Kp F w (w7.setCell (g,2) (.int .u64 (K+s)))):=by
      refine⟨by rw[he.o],?_,R.o.2⟩;rw[C.o,he.o,aaK rfl,<-HU.o];exact⟨_,R.o.1⟩
     exact bodyPost_ret (v:= .int .i64 0) (by simp[results,results96,go_sem]) rfl a6.o
 .have S:mY bu pe=false:=by simpa using u
  have he:aH (lI b a bu pe=1):=by unfold aH lI;rw[aaL u]
  have hB:aH (pI b a bu pe=b):=by unfold aH pI;rw[he.o,aaL aQ]
  rw[S] at p;have y:=bH m1 U;clear h T u S m1 U;generalize pI b a bu pe=b' at *;generalize lI b a bu pe=I at *;go_enter func96,ntmps96
  go_upto_region 3 with(fail)
  generalize w.alloc (aI #[bu,pe] 112)=w1 at *;generalize hq:w.heap.size=q at t⊢;have V:=t.cell 0 bu rfl;have X:=t.cell 1 pe rfl;clear t;go_wp2_with fail
  refine aS (p.o _) ?_;rintro e w2 ⟨rfl,j⟩;go_wp2_with fail
  go_ret
  exact⟨by rw[he.o];rfl,by rw[hB.o];exact⟨_,y.o.1.keep j⟩,y.o.2.trans (y.o.1.fl.below j)⟩
end
end
end Go.Proofs.YtacgiflhgdaeaaaGreat
