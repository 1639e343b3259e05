/- Texts laid as one. -/
import Derived.Test.YtacgiflhgdaeaaaGreatZ3
import Derived.Test.YtacgiflhgdaeaaaGreatZ4
import Derived.Test.YtacgiflhgdaeaaaGreatZ5
import Derived.Test.YtacgiflhgdaeaaaGreatZ9
import Derived.Test.YtacgiflhgdaeaaaGreatZ10
import Derived.Test.YtacgiflhgdaeaaaGreatZ17
set_option linter.unusedVariables false
set_option linter.unusedSimpArgs false
set_option maxRecDepth 100000
set_option maxHeartbeats 20000000
namespace Go.Proofs.YtacgiflhgdaeaaaGreat
open Go.Proofs.Tryz
open Go renaming World->aA,Addr->aJ,Calls->aG
open Go.RowKit renaming Hid->aH,intOf->aL
open Go.Obj renaming cells->aI
section
open Go.RowKit Go.Lib Go.Shelf
variable{sz i c' g:Nat}{w:aA}{A A':Option aJ}{F:Nat->Prop}{C:Cf}{r:Option Nat}
section
theorem Lf:jM prog 35 3 1 8:=gA underlying35 (z:= .int .i64 0) aV rfl aQ
theorem Oa{α:Type}{enc:α->List Value}(he:∀x,(enc x).length=sz)(w:aA)(y:α)(cs:Array Value)(a:cs.toList=enc y)(e:TypeId):bB enc sz (w.alloc (.cells cs e)) w e (some ⟨w.heap.size,0,none⟩) 1 [y]:=by
 have b:cs.size=sz:=by rw[<-adF,a,he]
 refine⟨by rw[fH he], .inr ⟨w.heap.size,1,cs,rfl,aaH _,heap_alloc_new w _,aaH _,dT,by rw[b,ad0],?_⟩⟩;rw[ac5,ad0,a,abK,List.flatMap_nil,acX];exact aa7 (by rw[he];exact aaH _)
theorem wX{α β:Type}{enc:α->List Value}{a:β->List Value}{B B' c:Nat}{e b:TypeId}{xs:List α}{ys:List β}(h:bB enc sz w B e A c xs)(d:bB a i w B' b A' c' ys)(f:e≠b):aZ A=none\/aZ A≠aZ A':=by
 cases j:aZ A with
 |none=>exact .inl rfl
 |some q=>
  refine .inr (λk=>?_);obtain⟨cs,h1⟩:=yV h q j;obtain⟨cs',l⟩:=yV d q k.symm;exact Dp h1 l f rfl
def sE(num:Int)(self:Bool)(st:List Int×List dK)(p:dK):List Int×List dK:=
 if p.h.nu=num then(if self then(st.1,st.2++ [p]) else st)
 else if p.h.pf∈st.1 then(st.1++ [p.h.nu],st.2++ [p]) else st
def dF(num:Int)(self:Bool)(L:List dK):List Int×List dK:=L.foldl (sE num self) ([num], [])
theorem YI(num:Int)(self:Bool)(L:List dK)(p:dK):dF num self (L++ [p])=sE num self (dF num self L) p:=by
 unfold dF;rw[acQ];rfl
def jW(C:Cf)(G:List dK):Cf:=G.foldl LZ C
theorem EX(C:Cf)(G:List dK)(p:dK):jW C (G++ [p])=LZ (jW C G) p:=by
 unfold jW;rw[acQ];rfl
theorem KB(C:Cf)(G:List dK):(jW C G).n=C.n:=by
 unfold jW;induction G generalizing C with
 |nil=>rfl
 |cons p G a=>rw[ac7,a];rfl
def Fg(w:aA)(g:Nat):Nat->Prop:=λb=>b<w.heap.size/\b≠g
theorem eJ.all(h:eJ F w g C):eJ (Fg w g) w g C:=⟨h.b,h.len,λ_ a=>a.1,λa=>a.2 rfl⟩
structure pM(F:Nat->Prop)(w wr:aA)(g:Nat)(C:Cf)(AL:Option aJ)(cL:Nat)(L:List dK)(A:Option aJ)(c:Nat)(O:List Int)(A2:Option aJ)(c2:Nat)(G:List dK):Prop where
 oL:bB wT 7 wr w.heap.size 424 AL cL L
 oO:bB eI 1 wr w.heap.size 3 A c O
 oG:bB oP 5 wr w.heap.size 156 A2 c2 G
 m:eJ F wr g C
 kp:Kp F w wr
 fl:Ol F w
 gl:g<w.heap.size
section
variable{F:Nat->Prop}{w wr w':aA}{g:Nat}{C C':Cf}{AL A A2 A6:Option aJ}{cL c c2 c6:Nat}{L G:List dK}{O:List Int}
theorem pM.keep(h:pM F w wr g C AL cL L A c O A2 c2 G)(a:Below wr wr w'):pM F w w' g C AL cL L A c O A2 c2 G:=
 ⟨h.oL.keep a,h.oO.keep a,h.oG.keep a,h.m.keep a,h.kp.trans (h.m.kp a),h.fl,h.gl⟩
theorem pM.gm(h:pM F w wr g C AL cL L A c O A2 c2 G)(a:wr.grownBy w' r)(d:∀q,r=some q->w.heap.size<=q):eJ F w' g C/\Kp F w w':=by
 have k:Kp F wr w':=Kp.grown a λb f=>⟨h.m.fl b f,λe=>by have:=d b e.symm;have:=h.fl b f;omega⟩
 refine⟨⟨(a.block g h.m.b.lt (λe=>by have:=d g e.symm;have:=h.gl;omega)).trans h.m.b,h.m.len,h.m.fl.kp k,h.m.fg⟩,h.kp.trans k⟩
theorem pM.over(h:pM F w wr g C AL cL L A c O A2 c2 G){x:Int}(a:bB eI 1 w' w.heap.size 3 A6 c6 (O++ [x]))(b:wr.grownBy w' (aZ A)):pM F w w' g C AL cL L A6 c6 (O++ [x]) A2 c2 G:=by
 obtain⟨h1,d⟩:=h.gm b (λq hq=>(h.oO.lt q hq).1);exact⟨h.oL.kept b (wX h.oL h.oO cD),a,h.oG.kept b (wX h.oG h.oO cD),h1,d,h.fl,h.gl⟩
theorem pM.gone(h:pM F w wr g C AL cL L A c O A2 c2 G){x:dK}(a:bB oP 5 w' w.heap.size 156 A6 c6 (G++ [x]))(b:wr.grownBy w' (aZ A2)):pM F w w' g C AL cL L A c O A6 c6 (G++ [x]):=by
 obtain⟨h1,d⟩:=h.gm b (λq hq=>(h.oG.lt q hq).1);exact⟨h.oL.kept b (wX h.oL h.oG cD),h.oO.kept b (wX h.oO h.oG cD),a,h1,d,h.fl,h.gl⟩
theorem pM.eV(h:pM F w wr g C AL cL L A c O A2 c2 G)(hm:eJ (Fg wr g) w' g C')(k:Kp (Fg wr g) wr w'):pM F w w' g C' AL cL L A c O A2 c2 G:=by
 have hF:∀b,F b->Fg wr g b:=λb d=>⟨h.m.fl b d,λe=>h.m.fg (by rw[<-e];exact d)⟩
 have a:∀q,w.heap.size<=q/\q<wr.heap.size->Fg wr g q:=λq hq=>⟨hq.2,λe=>by have:=h.gl;omega⟩
 exact⟨h.oL.kp k (λq hq=>a q (h.oL.lt q hq)),h.oO.kp k (λq hq=>a q (h.oO.lt q hq)),h.oG.kp k (λq hq=>a q (h.oG.lt q hq)),⟨hm.b,hm.len,h.m.fl.kp (k.mono hF),h.m.fg⟩,h.kp.trans (k.mono hF),h.fl,h.gl⟩
end
theorem Sj{k:Nat}{p:dK}(hk:k<128)(h:SF C k=some p):tC p.e p.s=some (DV p)/\DV p=k/\p.h=cN C k:=by
 unfold SF at h;split at h
 .cases h
 .injection h with h;subst h;have hi:DV ⟨((k /16:Nat):Int),((k%16:Nat):Int),cN C k⟩=k:=by unfold DV;simp only[aaW];omega
  refine⟨?_,hi,rfl⟩;rw[hi];unfold tC;simp only[aaW];rw[aaK aQ];congr 1
theorem U9{p:dK}(h:p∈vH C):tC p.e p.s=some (DV p)/\DV p<128/\p.h=cN C (DV p)/\p.h.nu≠0:=by
 unfold vH vR at h;obtain⟨k,hk,hp⟩:=adV.1 h;have hk:=ab3.1 hk;obtain⟨h1,b,a⟩:=Sj hk hp;refine⟨h1,aQ,by rw[b];exact a,?_⟩;rw[a];intro d;unfold SF at hp;rw[aaK d] at hp;cases hp
end
section
def Wm(F:Nat->Prop)(g:Nat)(C:Cf)(num:Int)(self:Bool)(w:aA)(e:Ending)(w':aA):Prop:=∃(A:Option aJ) (c:Nat) (L:List dK),e= .returned (.slice A (dF num self L).2.length c)/\L.Perm (vH C)/\L.Pairwise (λx y=>x.h.nu<=y.h.nu)/\bB oP 5 w' w.heap.size 156 A c (dF num self L).2/\eJ F w' g (jW C (dF num self L).2)/\Kp F w w'
theorem QD(h:eJ F w g C)(num:Int)(self:Bool):aG prog 192 #[.pointer g,num,self] w (Wm F g C num self w):=by
 have T:=aX w (aI #[num] 3);have hO1:=Oa LN w num #[num] rfl 3;have h1:=h.keep T;have HI:=aP (IZ h1);have f:=cZ T hO1 h;clear T hO1 h1 h;go_enter func192,ntmps192
 go_upto_region 3 with(fail)
 generalize w.alloc (aI #[num] 3)=w1 at *;go_wp2_with fail
 refine aR HI ?_;rintro x w2 ⟨AL,cL,L,rfl,hp,hs,P,K⟩;have lF:=f.o.1.size;have hN:L.length<=128:=by rw[hp.length_eq];exact I1 C 128
 obtain⟨N,M⟩:∃N,N=L.length:=⟨_,rfl⟩
 have H0:aH (pM F w w2 g C AL cL L (some ⟨w.heap.size,0,none⟩) 1 [num] none 0 []):=⟨P.from_ lF,f.o.2.1.keep K,bB.nil _ _ _,(f.o.2.2.keep f.o.1).keep K,(f.o.2.2.kp f.o.1).trans ((f.o.2.2.keep f.o.1).kp K),f.o.2.2.fl,f.o.2.2.b.lt⟩
 have HP:=cZ hp hs M;rw[<-M];rw[<-M] at hN;clear hp hs P K lF M HI f;go_wp2_with fail
 go_loopw [7,8,16] (λv7 v8 U wr=>∃(k:Nat) (A:Option aJ) (c n:Nat) (O:List Int) (V:Option aJ) (c2 m:Nat) (G:List dK),U= .int .i64 k/\v7= .slice A n c/\v8= .slice V m c2/\k<=N/\n<=k+1/\m<=k/\aH (n=O.length/\m=G.length/\(O,G)=dF num self (L.take k)/\pM F w wr g (jW C G) AL cL L A c O V c2 G)) (λ_ _ U _=>N - (aL U).toNat)
 case atStart=>exact⟨0,_,1,1, [num],none,0,0, [],rfl,rfl,rfl,aaQ _,aQ,aaH _,rfl,rfl,rfl,H0.o⟩
 case round=>
  clear H0;obtain⟨k,A,c,n,O,V,c2,m,G,rfl,rfl,rfl,hk,hn,hm,d⟩:=hrel;by_cases hkn:k<N
  .have a:k<L.length:=by rw[<-HP.o.2.2];exact hkn
   obtain⟨qL,rfl⟩:∃q,AL=some ⟨q,0,none⟩:=by
    rcases d.o.2.2.2.oL.shape with⟨_,h2,_⟩|h2
    .rw[h2] at a;simp at a
    .exact h2
   have Q:=d.o.2.2.2.oL;have e0:=bG iP Q a (j:=0) (v:= .int .i64 L[k].e) rfl;have e1:=bG iP Q a (j:=1) (v:= .int .i64 L[k].s) rfl;have e2:=bG iP Q a (j:=2) (v:= .int .i64 L[k].h.kd) rfl;have e3:=bG iP Q a (j:=3) (v:= .int .i64 L[k].h.ob) rfl;have e4:=bG iP Q a (j:=4) (v:= .int .i64 L[k].h.rt) rfl;have e5:=bG iP Q a (j:=5) (v:= .int .i64 L[k].h.nu) rfl;have e6:=bG iP Q a (j:=6) (v:= .int .i64 L[k].h.pf) rfl;rw[aa3] at e0;clear Q;have HID:aH (tC L[k].e L[k].s=some (DV L[k])):=(U9 (HP.o.1.mem_iff.1 (aaM a))).1;have htk:L.take (k+1)=L.take k++ [L[k]]:=by rw[abN,aaG a];rfl
   have R:aH (dF num self (L.take (k+1))=sE num self (O,G) L[k]):=by unfold aH;rw[htk,YI,<-d.o.2.2.1]
   have k0:(0:Int)<=k:=aQ;have k1:(k:Int)<(N:Int):=aQ;clear htk;generalize L[k]=y at *;clear a;obtain⟨i,l,p,r,t,u,z⟩:=y;simp only at e0 e1 e2 e3 e4 e5 e6;have hb3:=aX wr (aI #[i,l,p,r,t,u,z] 424);have yb:=bC.new wr 424 #[i,l,p,r,t,u,z];have H3:=aP (d.o.2.2.2.keep hb3);have hqA:∀q,aZ A=some q->q<wr.heap.size:=λq hq=>(d.o.2.2.2.oO.lt q hq).2
   clear hb3;by_cases I:u=num
   .have hnu':=I.symm;subst hnu';clear I;cases self with
    |false=>
     have W:aH (dF num false (L.take (k+1))=(O,G)):=by unfold aH;rw[R.o];simp[sE]
     clear R;go_wp2_with fail
     go_roundw
     case rel=>exact⟨k+1,A,c,n,O,V,c2,m,G,by go_num,rfl,rfl,aQ,aQ,aQ,d.o.1,d.o.2.1,W.o.symm,H3.o⟩
     case measure=>simp[aL];omega
    |true=>
     have W:aH (dF num true (L.take (k+1))=(O,G++ [⟨i,l,⟨p,r,t,num,z⟩⟩])):=by unfold aH;rw[R.o];simp[sE]
     clear R;go_upto_region 8 with(fail)
     clear e0 e1 e2 e3 e4 e5 e6;generalize wr.alloc (aI #[i,l,p,r,t,num,z] 424)=X at *;generalize wr.heap.size=q3 at *;have x0:=yb.cell 0 i rfl;have x1:=yb.cell 1 l rfl;have x2:=yb.cell 2 p rfl;have x3:=yb.cell 3 r rfl;have x4:=yb.cell 4 t rfl;have x5:=yb.cell 5 num rfl;have x6:=yb.cell 6 z rfl;clear yb;have Y:=aP (FZ (F:=Fg X g) H3.o.m.all ⟨i,l,⟨p,r,t,num,z⟩⟩ HID.o);simp only[wT] at Y;go_wp2_with fail
     refine aR Y ?_;rintro x Z ⟨rfl,m7,k7⟩;have H7:=aP (H3.o.eV m7 k7);clear m7 k7 Y;simp only[Z9];have H8:=aP (H7.o.keep (aX Z (aI #[i,l,p,r,t] 156)));have HS8:aH (w.heap.size<=(Z.alloc (aI #[i,l,p,r,t] 156)).heap.size):=H8.o.kp.size;go_wp2_with(at_builtin;refine bN _ rfl _ _ rfl WG fR H8.o.oG (n:=m) d.o.2.1.symm rfl (m:=1) rfl (ys:= [⟨i,l,⟨p,r,t,num,z⟩⟩]) rfl (Sl.new fR Z ⟨i,l,⟨p,r,t,num,z⟩⟩ _ rfl _) dT aQ HS8.o _ rfl (m+1) rfl ?_;intro A9 c9 w9 B J at9;(have HF:=aP (H8.o.gone B J));clear B J at9)
     go_roundw
     case rel=>exact⟨k+1,A,c,n,O,A9,c9,m+1,_,by go_num,rfl,rfl,aQ,aQ,aQ,d.o.1,by rw[aaT,<-d.o.2.1];rfl,W.o.symm,by rw[EX];exact HF.o⟩
     case measure=>simp[aL];omega
   .have HK:=aP (OX (c:=c) (w:=wr.alloc (aI #[i,l,p,r,t,u,z] 424)) (H3.o.oO.sl fX) (by rw[<-d.o.1];omega) z);have hnb:(u==num)=false:=by simp[I]
    by_cases H:z∈O
    .have W:aH (dF num self (L.take (k+1))=(O++ [u],G++ [⟨i,l,⟨p,r,t,u,z⟩⟩])):=by unfold aH;rw[R.o];simp[sE,I,H]
     have E:=HK.o;rw[<-d.o.1,abD H] at E;replace HK:=aP E;clear R E H;go_upto_region 9 with(fail)
     clear e0 e1 e2 e3 e4 e5 e6;generalize wr.alloc (aI #[i,l,p,r,t,u,z] 424)=X at *;generalize wr.heap.size=q3 at *;have x0:=yb.cell 0 i rfl;have x1:=yb.cell 1 l rfl;have x2:=yb.cell 2 p rfl;have x3:=yb.cell 3 r rfl;have x4:=yb.cell 4 t rfl;have x5:=yb.cell 5 u rfl;have x6:=yb.cell 6 z rfl;go_wp2_with fail
     refine aR HK ?_;rintro x w4 ⟨rfl,rfl⟩;have H4:=aP (H3.o.keep (aX X (aI #[u] 3)));have yb4:=yb.keep (aX X (aI #[u] 3));have HS4:aH (w.heap.size<=(X.alloc (aI #[u] 3)).heap.size):=H4.o.kp.size;clear HK;go_wp2_with(at_builtin;refine bN _ rfl _ _ rfl Lf fX H4.o.oO (n:=n) d.o.1.symm rfl (m:=1) rfl (ys:= [u]) rfl (Sl.new fX X u _ rfl _) dT aQ HS4.o _ rfl (n+1) rfl ?_;intro A5 c5 w5 S hg5 at5;(have D:=yb4.grown hg5 (λe=>by have:=hqA q3 e.symm;omega));(have H5:=aP (H4.o.over S hg5));(have z0:=D.cell 0 i rfl);(have z1:=D.cell 1 l rfl);(have z2:=D.cell 2 p rfl);(have z3:=D.cell 3 r rfl);(have z4:=D.cell 4 t rfl);(have z5:=D.cell 5 u rfl);(have z6:=D.cell 6 z rfl);clear S hg5 at5 D yb4)
     have Y:=aP (FZ (F:=Fg w5 g) H5.o.m.all ⟨i,l,⟨p,r,t,u,z⟩⟩ HID.o);simp only[wT] at Y;refine aR Y ?_;rintro x Z ⟨rfl,m7,k7⟩;have H7:=aP (H5.o.eV m7 k7);clear m7 k7 Y;simp only[Z9];have H8:=aP (H7.o.keep (aX Z (aI #[i,l,p,r,t] 156)));have HS8:aH (w.heap.size<=(Z.alloc (aI #[i,l,p,r,t] 156)).heap.size):=H8.o.kp.size;go_wp2_with(at_builtin;refine bN _ rfl _ _ rfl WG fR H8.o.oG (n:=m) d.o.2.1.symm rfl (m:=1) rfl (ys:= [⟨i,l,⟨p,r,t,u,z⟩⟩]) rfl (Sl.new fR Z ⟨i,l,⟨p,r,t,u,z⟩⟩ _ rfl _) dT aQ HS8.o _ rfl (m+1) rfl ?_;intro A9 c9 w9 B J at9;(have HF:=aP (H8.o.gone B J));clear B J at9)
     go_roundw
     case rel=>exact⟨k+1,A5,c5,n+1,_,A9,c9,m+1,_,by go_num,rfl,rfl,aQ,aQ,aQ,by rw[aaT,<-d.o.1];rfl,by rw[aaT,<-d.o.2.1];rfl,W.o.symm,by rw[EX];exact HF.o⟩
     case measure=>simp[aL];omega
    .have W:aH (dF num self (L.take (k+1))=(O,G)):=by unfold aH;rw[R.o];simp[sE,I,H]
     have E:=HK.o;rw[<-d.o.1,aa0 H] at E;replace HK:=aP E;clear R E H;go_upto_region 9 with(fail)
     clear e0 e1 e2 e3 e4 e5 e6;generalize wr.alloc (aI #[i,l,p,r,t,u,z] 424)=X at *;generalize wr.heap.size=q3 at *;have x0:=yb.cell 0 i rfl;have x1:=yb.cell 1 l rfl;have x2:=yb.cell 2 p rfl;have x3:=yb.cell 3 r rfl;have x4:=yb.cell 4 t rfl;have x5:=yb.cell 5 u rfl;have x6:=yb.cell 6 z rfl;clear yb;go_wp2_with fail
     refine aR HK ?_;rintro x w4 ⟨rfl,rfl⟩;go_wp2_with fail
     go_roundw
     case rel=>exact⟨k+1,A,c,n,O,V,c2,m,G,by go_num,rfl,rfl,aQ,aQ,aQ,d.o.1,d.o.2.1,W.o.symm,H3.o⟩
     case measure=>simp[aL];omega
  .obtain rfl:k=N:=aQ;have k1:¬(k:Int)<(k:Int):=aQ;have hE:(O,G)=dF num self L:=by rw[d.o.2.2.1,aa7 (by rw[<-HP.o.2.2];exact aaH _)]
   have hG:(dF num self L).2=G:=by rw[<-hE]
   have HF:aH (Wm F g C num self w (.returned (.slice V m c2)) wr):=⟨V,c2,L,by rw[hG,<-d.o.2.1],HP.o.1,HP.o.2.1,by rw[hG];exact d.o.2.2.2.oG,by rw[hG];exact d.o.2.2.2.m,d.o.2.2.2.kp⟩
   clear hE hG;go_wp2_with fail
   go_ret
   exact HF.o
end
section
def LP(F:Nat->Prop)(g:Nat)(C:Cf)(ok:Option Nat)(self:Bool)(w:aA)(e:Ending)(w':aA):Prop:=match ok with
 |none=>e= .returned (.tuple #[.slice none 0 0, .int .i64 23])/\eJ F w' g C/\Kp F w w'
 |some k=>∃(A:Option aJ) (c:Nat) (L:List dK),e= .returned (.tuple #[.slice A (dF (cN C k).nu self L).2.length c, .int .i64 0])/\L.Perm (vH C)/\L.Pairwise (λx y=>x.h.nu<=y.h.nu)/\bB oP 5 w' w.heap.size 156 A c (dF (cN C k).nu self L).2/\eJ F w' g (jW C (dF (cN C k).nu self L).2)/\Kp F w w'
def uX(C:Cf)(e s:Int):Option Nat:=match fW C e s with
 |none=>none
 |some k=>if bits .and .i64 (cN C k).rt 8=0 then none else some k
theorem Gz(h:eJ F w g C)(e s:Int):aG prog 149 #[.pointer g,e,s] w (LP F g C (fW C e s) true w):=by
 have a:=zL h e s;cases b:fW C e s with
 |none=>
  rw[b] at a;have a:=aP a;have i:aH (LP F g C none true w (.returned (.tuple #[bA, .int .i64 23])) w):=⟨rfl,h,Kp.refl _ _⟩
  clear h b;go_enter func149,ntmps149
  go_wp2_with fail
  refine aR a ?_;rintro x d ⟨rfl,rfl⟩;simp only[pW,acU];go_wp2_with fail
  go_ret2
  exact i.o
 |some k=>
  rw[b] at a;have a:=aP a;obtain⟨c0,c1,c2,c3,c4⟩:=h.at_ (CK b).1;have j:=aP (QD h (cN C k).nu true);have l:aH (LP F g C (some k) true w=λe w'=>∃(A:Option aJ) (c:Nat) (L:List dK),e= .returned (.tuple #[.slice A (dF (cN C k).nu true L).2.length c,aU])/\L.Perm (vH C)/\L.Pairwise (λx y=>x.h.nu<=y.h.nu)/\bB oP 5 w' w.heap.size 156 A c (dF (cN C k).nu true L).2/\eJ F w' g (jW C (dF (cN C k).nu true L).2)/\Kp F w w'):=rfl;generalize LP F g C (some k) true w=Q at *;clear h b;generalize (cN C k).nu=nu at *;go_enter func149,ntmps149
  go_wp2_with fail
  refine aR a ?_;rintro x d ⟨rfl,rfl⟩;simp only[pW,abL];go_wp2_with fail
  refine aR j ?_;rintro x d ⟨A,c,L,rfl,h1⟩;have f:aH (Q (.returned (.tuple #[.slice A (dF nu true L).2.length c,aU])) d):=by unfold aH;rw[l.o];exact⟨A,c,L,rfl,h1⟩
  clear h1;generalize (dF nu true L).2.length=n at *;go_wp2_with fail
  first|exact f.o|(go_ret2;exact f.o)
theorem WI(h:eJ F w g C)(e s:Int):aG prog 215 #[.pointer g,e,s] w (LP F g C (uX C e s) false w):=by
 have b:=zL h e s;cases d:fW C e s with
 |none=>
  have f:uX C e s=none:=by unfold uX;rw[d]
  rw[f];rw[d] at b;have b:=aP b;have j:aH (LP F g C none false w (.returned (.tuple #[bA, .int .i64 23])) w):=⟨rfl,h,Kp.refl _ _⟩
  clear h d f;go_enter func215,ntmps215
  go_wp2_with fail
  refine aR b ?_;rintro x i ⟨rfl,rfl⟩;simp only[pW,acU];go_wp2_with fail
  go_ret2
  exact j.o
 |some k=>
  rw[d] at b;have b:=aP b;obtain⟨c0,c1,c2,c3,c4⟩:=h.at_ (CK d).1;obtain⟨a,m⟩:∃a,bits .and .i64 (cN C k).rt 8=a:=⟨_,rfl⟩
  by_cases l:a=0
  .have f:uX C e s=none:=by unfold uX;rw[d];simp only;rw[m,aaK l]
   rw[f];have j:aH (LP F g C none false w (.returned (.tuple #[bA, .int .i64 23])) w):=⟨rfl,h,Kp.refl _ _⟩
   subst l;clear h d f c0 c1 c3 c4;generalize (cN C k).rt=rt at *;go_enter func215,ntmps215
   go_wp2_with fail
   refine aR b ?_;rintro x i ⟨rfl,rfl⟩;simp only[pW,abL];go_wp2_with fail
   go_ret2
   exact j.o
  .have f:uX C e s=some k:=by unfold uX;rw[d];simp only;rw[m,aaL l]
   rw[f];have q:=aP (QD h (cN C k).nu false);have r:aH (LP F g C (some k) false w=λe w'=>∃(A:Option aJ) (c:Nat) (L:List dK),e= .returned (.tuple #[.slice A (dF (cN C k).nu false L).2.length c,aU])/\L.Perm (vH C)/\L.Pairwise (λx y=>x.h.nu<=y.h.nu)/\bB oP 5 w' w.heap.size 156 A c (dF (cN C k).nu false L).2/\eJ F w' g (jW C (dF (cN C k).nu false L).2)/\Kp F w w'):=rfl;generalize LP F g C (some k) false w=Q at *;clear h d f c0 c1 c4;generalize (cN C k).nu=nu at *;generalize (cN C k).rt=rt at *;go_enter func215,ntmps215
   go_wp2_with fail
   refine aR b ?_;rintro x i ⟨rfl,rfl⟩;simp only[pW,abL];go_wp2_with fail
   refine aR q ?_;rintro x i ⟨A,c,L,rfl,h1⟩;have p:aH (Q (.returned (.tuple #[.slice A (dF nu false L).2.length c,aU])) i):=by unfold aH;rw[r.o];exact⟨A,c,L,rfl,h1⟩
   clear h1;generalize (dF nu false L).2.length=n at *;go_wp2_with fail
   first|exact p.o|(go_ret2;exact p.o)
def rS(kd ob:Int)(p:dK):Bool:=decide (p.h.kd=kd/\p.h.ob=ob)
def Wq(F:Nat->Prop)(g:Nat)(C:Cf)(kd ob:Int)(w:aA)(e:Ending)(w':aA):Prop:=∃(A:Option aJ) (c:Nat) (L:List dK),e= .returned (.slice A (L.filter (rS kd ob)).length c)/\L.Perm (vH C)/\bB oP 5 w' w.heap.size 156 A c (L.filter (rS kd ob))/\eJ F w' g (jW C (L.filter (rS kd ob)))/\Kp F w w'
theorem Dt(h:eJ F w g C)(kd ob:Int):aG prog 197 #[.pointer g,kd,ob] w (Wq F g C kd ob w):=by
 have HI:=aP (IZ h);have r:=aP h;clear h;go_enter func197,ntmps197
 go_wp2_with fail
 refine aR HI ?_;rintro x w2 ⟨U,Y,L,rfl,hp,hs,D,J⟩;have hN:L.length<=128:=by rw[hp.length_eq];exact I1 C 128
 obtain⟨N,B⟩:∃N,N=L.length:=⟨_,rfl⟩
 have H0:aH (pM F w w2 g C U Y L none 0 [] none 0 []):=⟨D,bB.nil _ _ _,bB.nil _ _ _,r.o.keep J,r.o.kp J,r.o.fl,r.o.b.lt⟩
 have V:=bH hp B;rw[<-B];rw[<-B] at hN;clear hp hs D J B HI r;go_wp2_with fail
 go_loopw [7,15] (λv7 K wr=>∃(k:Nat) (E:Option aJ) (c2 m:Nat) (G:List dK),K= .int .i64 k/\v7= .slice E m c2/\k<=N/\m<=k/\aH (m=G.length/\G=(L.take k).filter (rS kd ob)/\pM F w wr g (jW C G) U Y L none 0 [] E c2 G)) (λ_ K _=>N - (aL K).toNat)
 case atStart=>exact⟨0,none,0,0, [],rfl,rfl,aaQ _,aaH _,rfl,rfl,H0.o⟩
 case round=>
  clear H0;obtain⟨k,E,c2,m,G,rfl,rfl,hk,hm,M⟩:=hrel;have f:aH (True/\m=G.length/\G=(L.take k).filter (rS kd ob)/\pM F w wr g (jW C G) U Y L none 0 [] E c2 G):=⟨trivial,M.o⟩
  clear M;by_cases Z:k<N
  .have a:k<L.length:=by rw[<-V.o.2];exact Z
   obtain⟨qL,rfl⟩:∃q,U=some ⟨q,0,none⟩:=by
    rcases f.o.2.2.2.oL.shape with⟨_,h2,_⟩|h2
    .rw[h2] at a;simp at a
    .exact h2
   have H:=f.o.2.2.2.oL;have e0:=bG iP H a (j:=0) (v:= .int .i64 L[k].e) rfl;have e1:=bG iP H a (j:=1) (v:= .int .i64 L[k].s) rfl;have e2:=bG iP H a (j:=2) (v:= .int .i64 L[k].h.kd) rfl;have e3:=bG iP H a (j:=3) (v:= .int .i64 L[k].h.ob) rfl;have e4:=bG iP H a (j:=4) (v:= .int .i64 L[k].h.rt) rfl;have e5:=bG iP H a (j:=5) (v:= .int .i64 L[k].h.nu) rfl;have e6:=bG iP H a (j:=6) (v:= .int .i64 L[k].h.pf) rfl;rw[aa3] at e0;clear H;have HID:aH (tC L[k].e L[k].s=some (DV L[k])):=(U9 (V.o.1.mem_iff.1 (aaM a))).1;have O:L.take (k+1)=L.take k++ [L[k]]:=by rw[abN,aaG a];rfl
   have P:aH ((L.take (k+1)).filter (rS kd ob)=G++(if rS kd ob L[k] then [L[k]] else [])):=by unfold aH;rw[O,acR,<-f.o.2.2.1];cases hq:rS kd ob L[k] <;> simp[hq]
   have k0:(0:Int)<=k:=aQ;have k1:(k:Int)<(N:Int):=aQ;clear O;generalize L[k]=y at *;clear a;obtain⟨i,l,⟨c,d,p,z,A⟩⟩:=y;simp only at e0 e1 e2 e3 e4 e5 e6;have Q:=aX wr (aI #[i,l,c,d,p,z,A] 424);have yb:=bC.new wr 424 #[i,l,c,d,p,z,A];have W:=aP (f.o.2.2.2.keep Q);clear Q;have t:¬(c=kd/\d=ob)->aH ((L.take (k+1)).filter (rS kd ob)=G):=λhc=>by
    unfold aH;rw[P.o];have:rS kd ob ⟨i,l,⟨c,d,p,z,A⟩⟩=false:=aa0 hc;rw[this];simp
   have u:=aP t;clear t;by_cases hc:c=kd
   .by_cases hd:d=ob
    .have R:aH ((L.take (k+1)).filter (rS kd ob)=G++ [⟨i,l,⟨c,d,p,z,A⟩⟩]):=by
      unfold aH;rw[P.o];have:rS kd ob ⟨i,l,⟨c,d,p,z,A⟩⟩=true:=abD ⟨hc,hd⟩;rw[this];rfl
     clear P u;have S:(c==kd)=true:=by simp[hc]
     have hd':(d==ob)=true:=by simp[hd]
     clear hc hd;go_upto_region 8 with(fail)
     clear e0 e1 e2 e3 e4 e5 e6;generalize wr.alloc (aI #[i,l,c,d,p,z,A] 424)=w3 at *;generalize wr.heap.size=q3 at *;have x0:=yb.cell 0 i rfl;have x1:=yb.cell 1 l rfl;have x2:=yb.cell 2 c rfl;have x3:=yb.cell 3 d rfl;have x4:=yb.cell 4 p rfl;have x5:=yb.cell 5 z rfl;have x6:=yb.cell 6 A rfl;clear yb;have HC:=aP (FZ (F:=Fg w3 g) W.o.m.all ⟨i,l,⟨c,d,p,z,A⟩⟩ HID.o);simp only[wT] at HC;go_wp2_with fail
     refine aR HC ?_;rintro x w7 ⟨rfl,m7,k7⟩;have H7:=aP (W.o.eV m7 k7);clear m7 k7 HC;simp only[Z9];have H8:=aP (H7.o.keep (aX w7 (aI #[i,l,c,d,p] 156)));have HS8:aH (w.heap.size<=(w7.alloc (aI #[i,l,c,d,p] 156)).heap.size):=H8.o.kp.size;go_wp2_with(at_builtin;refine bN _ rfl _ _ rfl WG fR H8.o.oG (n:=m) f.o.2.1.symm rfl (m:=1) rfl (ys:= [⟨i,l,⟨c,d,p,z,A⟩⟩]) rfl (Sl.new fR w7 ⟨i,l,⟨c,d,p,z,A⟩⟩ _ rfl _) dT aQ HS8.o _ rfl (m+1) rfl ?_;intro A9 c9 w9 I T at9;(have HF:=aP (H8.o.gone I T));clear I T at9)
     go_roundw
     case rel=>exact⟨k+1,A9,c9,m+1,_,by go_num,rfl,aQ,aQ,by rw[aaT,<-f.o.2.1];rfl,R.o.symm,by rw[EX];exact HF.o⟩
     case measure=>simp[aL];omega
    .have R:=aP (u.o (λh=>hd h.2));clear P u;have S:(c==kd)=true:=by simp[hc]
     have hd':(d==ob)=false:=by simp[hd]
     clear hc hd;go_wp2_with fail
     go_roundw
     case rel=>exact⟨k+1,E,c2,m,G,by go_num,rfl,aQ,aQ,f.o.2.1,R.o.o.symm,W.o⟩
     case measure=>simp[aL];omega
   .have R:=aP (u.o (λh=>hc h.1));clear P u;have S:(c==kd)=false:=by simp[hc]
    clear hc;go_wp2_with fail
    go_roundw
    case rel=>exact⟨k+1,E,c2,m,G,by go_num,rfl,aQ,aQ,f.o.2.1,R.o.o.symm,W.o⟩
    case measure=>simp[aL];omega
  .obtain rfl:k=N:=aQ;have k1:¬(k:Int)<(k:Int):=aQ;have X:L.filter (rS kd ob)=G:=by rw[f.o.2.2.1,aa7 (by rw[<-V.o.2];exact aaH _)]
   have HF:aH (Wq F g C kd ob w (.returned (.slice E m c2)) wr):=⟨E,c2,L,by rw[X,<-f.o.2.1],V.o.1,by rw[X];exact f.o.2.2.2.oG,by rw[X];exact f.o.2.2.2.m,f.o.2.2.2.kp⟩
   clear X;go_wp2_with fail
   go_ret
   exact HF.o
end
section
def iC(C:Cf)(env from_ other to_ rights more:Int):Int×Cf:=match fW C env from_ with
 |none=>(23,C)
 |some k=>if rights<0\/oJ (cN C k).rt rights≠rights\/oJ (cN C k).rt more≠more then(23,C) else dM C other to_ (cN C k).kd (cN C k).ob rights (cN C k).nu
theorem LJ{env from_:Int}(h:fW C env from_=none)(other to_ rights more:Int):iC C env from_ other to_ rights more=(23,C):=by unfold iC;rw[h]
theorem QL{env from_:Int}{k:Nat}(h:fW C env from_=some k)(other to_:Int){rights more:Int}(hc:rights<0\/oJ (cN C k).rt rights≠rights\/oJ (cN C k).rt more≠more):iC C env from_ other to_ rights more=(23,C):=by unfold iC;rw[h];exact aaK hc
theorem NN{env from_:Int}{k:Nat}(h:fW C env from_=some k)(other to_:Int){rights more:Int}(a:¬rights<0)(h1:oJ (cN C k).rt rights=rights)(b:oJ (cN C k).rt more=more):iC C env from_ other to_ rights more=dM C other to_ (cN C k).kd (cN C k).ob rights (cN C k).nu:=by
 unfold iC;rw[h];refine aaL (λhc=>?_);rcases hc with hc|hc|hc
 .exact a hc
 .exact hc h1
 .exact hc b
theorem PX(h:eJ F w g C)(Z:0<=C.n/\C.n<=1000000000000)(env from_ other to_ rights more:Int):aG prog 248 #[.pointer g,env,from_,other,to_,rights,more] w (B9 F g (iC C env from_ other to_ rights more) w):=by
 have e:=zL h env from_;have Q:=aP h;cases s:fW C env from_ with
 |none=>
  rw[s] at e;have e:=aP e;have I:=aP (LJ s other to_ rights more);generalize iC C env from_ other to_ rights more=R at *;have f:aH (B9 F g R w (.returned (.int .i64 23)) w):=by
   unfold aH;rw[I.o];exact⟨rfl,h,Kp.refl _ _⟩
  clear h s I;go_enter func248,ntmps248
  go_wp2_with fail
  refine aR e ?_;rintro x J ⟨rfl,rfl⟩;simp only[pW,acU];go_wp2_with fail
  go_ret
  exact f.o
 |some k=>
  rw[s] at e;have e:=aP e;obtain⟨hk,_,_⟩:=CK s;obtain⟨c0,c1,c2,c3,c4⟩:=h.at_ hk;have t:aH ((rights<0\/oJ (cN C k).rt rights≠rights\/oJ (cN C k).rt more≠more)->B9 F g (iC C env from_ other to_ rights more) w (.returned (.int .i64 23)) w):=λhc=>by
   rw[QL s other to_ hc];exact⟨rfl,h,Kp.refl _ _⟩
  have z:aH (¬rights<0->oJ (cN C k).rt rights=rights->oJ (cN C k).rt more=more->iC C env from_ other to_ rights more=dM C other to_ (cN C k).kd (cN C k).ob rights (cN C k).nu):=NN s other to_;generalize iC C env from_ other to_ rights more=R at *;clear h s;generalize cN C k=x at *;obtain⟨r0,r1,L,r3,r4⟩:=x;simp only at c0 c1 c2 c3 c4 t z;obtain⟨a,ha⟩:∃a,bits .and .i64 L rights=a:=⟨_,rfl⟩
  obtain⟨b,hb⟩:∃b,bits .and .i64 L more=b:=⟨_,rfl⟩
  have u:aH (oJ L rights=a/\oJ L more=b):=⟨ha,hb⟩
  by_cases S:rights<0
  .have f:=aP (t.o (.inl S));clear t z;go_enter func248,ntmps248
   go_wp2_with fail
   refine aR e ?_;rintro x J ⟨rfl,rfl⟩;simp only[pW,abL];go_wp2_with fail
   go_ret
   exact f.o
  .by_cases h1:a=rights
   .by_cases B:b=more
    .have D:=aP (z.o S (u.o.1.trans h1) (u.o.2.trans B));clear t z u;subst h1;subst B;go_enter func248,ntmps248
     go_wp2_with fail
     refine aR e ?_;rintro x J ⟨rfl,rfl⟩;simp only[pW,abL];go_upto_region 6 with(fail)
     have i:=bF c0;have j:=bF c1;refine bS (bV _) (λ_=>bV) [16] (λ_ v w=>lS (lF c0) 154 #[aU,aU,aU] v w) [13] [] 72 (cM _) (λ_ _ _ h A=>bZ h A) (λ_ d hd _ v w w' _ h A=>h.keep A) aV aV bK ?_;repeat (first|(refine fQ ?_)|(refine JT 16 [] bK bK bK bK (λγ w hC E=>?_) ?_;(simp only[dG];go_simp;exact DD (aX w _) ⟨_,rfl,Below.size hC,bC.new w _ _⟩);(try refine dB ?_)))
     refine eL ?_;intro γ w_ hb_ E;clear i j;simp only[dG,Act.put,aaI,aaP,aaN];refine eT ?_;obtain⟨g16,T,G,H⟩:=E 16 aT;simp only[T];clear E T;refine aaB G hb_ H rfl 154 _ _ rfl #[r0,r1, .int .i64 a] rfl rfl rfl aV aV ?_;clear G hb_ H;intro w5 l c;refine cP ?_;simp only[Act.put];obtain⟨M,c⟩:=c;have N:=Q.o.keep l;have U:=aP (Q.o.kp l);have v0:=c.cell 0 _ rfl;have v1:=c.cell 1 _ rfl;have v2:=c.cell 2 _ rfl;obtain⟨_,_,_,O,_⟩:=N.at_ hk;replace c3:=bD l c3;have P:=aP N;clear N l c M O;go_upto_region 7 with(fail)
     have m:=bF c3;have p:=bF v0;have q:=bF v1;have r:=bF v2;refine bS (bV _) (λ_=>bV) [] (λ_ _ _=>True) [8,9] [] 72 (cM _) (λ_ _ _ h A=>bZ h A) (λ_ d hd _ v w w' _ h A=>by cases hd) aV aV bK ?_;repeat refine fQ ?_
     refine eL ?_;intro γ w6 y E;clear m p q r;simp only[dG,Act.put,aaI,aaP,aaN];refine eT ?_;have V:=P.o.keep y;have I:=aP (GY V Z other to_ r0 r1 a r3);have W:=aP (U.o.trans (P.o.kp y));clear E V y P U v0 v1 v2;refine wpList_plain rfl (λK hK=>?_);go_wp2_with fail
     refine aR I ?_;rintro x w7 ⟨rfl,X,Y⟩;have f:aH (B9 F g R w (.returned (.int .i64 R.1)) w7):=by
      rw[D.o];exact⟨rfl,X,W.o.trans Y⟩
     rw[<-D.o];clear X Y W;refine hK _ _ ?_;clear hK K;try refine dB ?_
     refine wpList_plain rfl (λK hK=>?_);go_simp
     refine hK _ _ ?_;clear hK K;refine cP ?_;try refine dB ?_
     go_wp2_with fail
     go_ret
     exact f.o
    .have f:=aP (t.o (.inr (.inr (by rw[u.o.2];exact B))));clear t z u;have h2b:(b !=more)=true:=by simp[B]
     clear B;subst h1;go_enter func248,ntmps248
     go_wp2_with fail
     refine aR e ?_;rintro x J ⟨rfl,rfl⟩;simp only[pW,abL];go_wp2_with fail
     go_ret
     exact f.o
   .have f:=aP (t.o (.inr (.inl (by rw[u.o.1];exact h1))));clear t z u;go_enter func248,ntmps248
    go_wp2_with fail
    refine aR e ?_;rintro x J ⟨rfl,rfl⟩;simp only[pW,abL];go_wp2_with fail
    go_ret
    exact f.o
theorem X9(h:eJ F w g C)(b:0<=C.n/\C.n<=1000000000000)(env from_ to_ rights:Int):aG prog 213 #[.pointer g,env,from_,to_,rights] w (B9 F g (iC C env from_ env to_ rights 0) w):=by
 have c:=aP (PX h b env from_ env to_ rights 0);clear h;go_enter func213,ntmps213
 go_wp2_with fail
 refine aR c ?_;rintro x e ⟨rfl,a⟩;have d:=aP a;clear a;go_wp2_with fail
 go_ret
 exact⟨rfl,d.o⟩
theorem Hz(h:eJ F w g C)(b:0<=C.n/\C.n<=1000000000000)(env from_ other to_ rights:Int):aG prog 214 #[.pointer g,env,from_,other,to_,rights] w (B9 F g (iC C env from_ other to_ rights 4) w):=by
 have c:=aP (PX h b env from_ other to_ rights 4);clear h;go_enter func214,ntmps214
 go_wp2_with fail
 refine aR c ?_;rintro x e ⟨rfl,a⟩;have d:=aP a;clear a;go_wp2_with fail
 go_ret
 exact⟨rfl,d.o⟩
end
end
variable{s:Sd}{v:Sv}
section
section
def iS(now:Int)(p:Pv):Pv:={p with sv:=p.sv.map λv=>dE v now p.rd}
def sL(p:Pv):Pv:={p with sv:=p.sv.map iW}
def xV(v:Sv):Option Int:=v.ch.head?.map Ck.de
def iT(p:Pv):Option Int:=p.sv.bind xV
def fU(P:List Pv):Nat->Option (Nat×Int)
 |0=>none
 |k+1=>match P[k]?.bind iT with
  |none=>fU P k
  |some d=>match fU P k with
   |none=>some (k,d)
   |some (j,e)=>if d<e then some (k,d) else some (j,e)
def AO(P:List Pv)(e:Nat):Bool:=match P[e]? with|some p=>p.rd|none=>false
def vT(P:List Pv)(tu:Nat):Option Nat:=((List.range P.length).map λj=>(tu+j)%P.length).find? (AO P)
structure Rn where
 env:Int
 ch:Bool
def dC(s:Sd):Sd:={s with P:=s.P.map (iS s.nw),b:=jZ s.b s.nw,nw:=s.nw+1}
def cI(s:Sd):Rn×Sd:=
 match fU (dC s).P s.P.length with
 |some (i,_)=>(⟨i,true⟩,{dC s with P:=(dC s).P.modify i sL})
 |none=>match vT (dC s).P s.tu.toNat with
  |some e=>(⟨e,false⟩,{dC s with tu:=((e+1)%s.P.length:Nat)})
  |none=>(⟨-1,false⟩,dC s)
theorem wA(P:List Pv):∀(k:Nat) (j:Nat) (e:Int),fU P k=some (j,e)->j<k/\P[j]?.bind iT=some e
 |0,_,_,h=>by simp[fU] at h
 |k+1,j,e,h=>by
  unfold fU at h;cases hd:P[k]?.bind iT with
  |none=>
   rw[hd] at h;have:=wA P k j e h;exact⟨aQ,this.2⟩
  |some d=>
   rw[hd] at h;simp only at h;cases hk:fU P k with
   |none=>
    rw[hk] at h;simp at h;obtain⟨rfl,rfl⟩:=h;exact⟨aQ,hd⟩
   |some q=>
    obtain⟨a,b⟩:=q;rw[hk] at h;simp only at h;split at h
    .simp at h;obtain⟨rfl,rfl⟩:=h;exact⟨aQ,hd⟩
    .simp at h;obtain⟨rfl,rfl⟩:=h;have:=wA P k a b hk;exact⟨aQ,this.2⟩
theorem Gs{P:List Pv}{tu k:Nat}(hk:k<P.length)(h:∀j,j<k->AO P ((tu+j)%P.length)=false)(a:AO P ((tu+k)%P.length)=true):vT P tu=some ((tu+k)%P.length):=by
 unfold vT;have h1:List.find? (AO P∘λj=>(tu+j)%P.length) (List.range P.length)=some k:=List.find?_range_eq_some.2 ⟨a,by simpa using hk,λj b=>by simpa using h j b⟩;rw[List.find?_map,h1];rfl
theorem Fk{P:List Pv}{tu:Nat}(h:∀j,j<P.length->AO P ((tu+j)%P.length)=false):vT P tu=none:=by
 unfold vT;rw[List.find?_eq_none];intro x a;obtain⟨j,b,rfl⟩:=ac1.1 a;rw[h j (ab3.1 b)];decide
theorem YX{P:List Pv}{tu e:Nat}(h:vT P tu=some e):e<P.length/\AO P e=true:=by
 unfold vT at h;have h1:=List.find?_some h;obtain⟨j,a,rfl⟩:=ac1.1 (List.mem_of_find?_eq_some h);exact⟨afU _ (by have:=ab3.1 a;omega),h1⟩
theorem uK(s:Sd):(dC s).P.length=s.P.length:=abT ..
theorem gE.OP(h:gE s){p:Pv}(hp:p∈s.P)(a:p.sv=some v):mE s.nw (dE v s.nw p.rd)/\(AB v=false->AB (dE v s.nw p.rd)=false)/\(dE v s.nw p.rd).bu=v.bu/\(dE v s.nw p.rd).pe=v.pe:=by
 obtain⟨h1,_,b,c,d⟩:=(h.sv p hp v a).begin h.nw.1 p.rd;exact⟨h1,b,c,d⟩
theorem Ry(h:gE s){p:Pv}(hp:p∈s.P)(hu:kJ (iS s.nw p)=true):kJ p=true:=by
 unfold kJ iS at hu;unfold kJ;cases a:p.sv with
 |none=>rw[a] at hu;cases hu
 |some v=>
  rw[a] at hu;simp only[abL] at hu;cases h1:AB v with
  |true=>exact h1
  |false=>rw[(h.OP hp a).2.1 h1] at hu;cases hu
theorem I2(b:Bs)(now:Int):(jZ b now).L.length<=b.L.length/\(jZ b now).f=b.f:=by
 unfold jZ;split
 .exact⟨aaH _,rfl⟩
 .exact⟨ac6 _ _,rfl⟩
theorem gE.step(h:gE s)(j:s.nw<1048576):gE (dC s)/\((dC s).b.L.length+(dC s).P.countP kJ:Int)<=s.nw:=by
 have e:=uK s;have g:((dC s).b.L.length+(dC s).P.countP kJ:Int)<=s.nw:=by
  have h1:=(I2 s.b s.nw).1;have k:(s.P.map (iS s.nw)).countP kJ<=s.P.countP kJ:=by
   rw[List.countP_map];exact List.countP_mono_left λp hp hu=>Ry h hp hu
  have l:=h.nP;show(((jZ s.b s.nw).L.length:Int)+((s.P.map (iS s.nw)).countP kJ:Int))<=s.nw;omega
 refine⟨⟨by rw[e];exact h.n,λq hq v c=>?_,h.bk.Zr,⟨by show 0<=s.nw+1;have:=h.nw;omega,by show s.nw+1<=_;omega⟩,by rw[e];exact h.tu,?_,by show _<=s.nw+1;omega,λi q hq=>?_,λi hi=>?_⟩,g⟩
 .obtain⟨p,hp,rfl⟩:=ac1.1 hq;cases d:p.sv with
  |none=>simp[iS,d] at c
  |some u=>
   simp[iS,d] at c;subst c;exact(h.OP hp d).1.mono (by show _<=s.nw+1;omega)
 .have:=h.bn;show 0<=(jZ s.b s.nw).bn/\(jZ s.b s.nw).bn<=s.nw+1;unfold jZ;split
  .omega
  .simp only;omega
 .show(jZ s.b s.nw).f i=_;rw[(I2 s.b s.nw).2];have a:(s.P.map (iS s.nw))[i]?=some q:=hq;rw[ab7] at a;cases hp:s.P[i]? with
  |none=>rw[hp] at a;cases a
  |some p=>
   rw[hp] at a;simp at a;subst a;rw[h.has i p hp];cases c:p.sv with
   |none=>simp[iS,c]
   |some v=>
    have:=h.OP (aa1 hp) c;simp[iS,c,this.2.2]
 .show(jZ s.b s.nw).f i=_;rw[(I2 s.b s.nw).2];exact h.o i (by rw[e] at hi;exact hi)
theorem gE.tick(h:gE s)(F:s.nw<1048576):gE (cI s).2:=by
 obtain⟨hs,hc⟩:=h.step F;unfold cI;split
 .rename_i i d he;obtain⟨hi,hd⟩:=wA _ _ _ _ he;simp only;generalize t:dC s=z at *;have y:z.nw=s.nw+1:=by rw[<-t];rfl
  cases hp:z.P[i]? with
  |none=>rw[hp] at hd;cases hd
  |some p=>
   rw[hp] at hd;cases k:p.sv with
   |none=>simp[iT,k] at hd
   |some v=>
    have g:∃x xs,v.ch=x::xs:=by
     cases g:v.ch with
     |nil=>simp[iT,k,xV,g] at hd
     |cons x xs=>exact⟨x,xs,rfl⟩
    obtain⟨x,xs,g⟩:=g;have A:mE s.nw v:=by
     have a:=hp;rw[<-t] at a;have c:(s.P.map (iS s.nw))[i]?=some p:=a;rw[ab7] at c;cases m:s.P[i]? with
     |none=>rw[m] at c;cases c
     |some p0=>
      rw[m] at c;simp at c;cases r:p0.sv with
      |none=>rw[<-c] at k;simp[iS,r] at k
      |some v0=>
       rw[<-c] at k;simp[iS,r] at k;subst k;exact(h.OP (aa1 m) r).1
    have E:=A.run g;have B:(z.P.modify i sL).length=z.P.length:=ab9 ..;refine⟨by simp only;rw[B];exact hs.n,λq hq u hu=>?_,hs.bk,hs.nw,by simp only;rw[B];exact hs.tu,hs.bn,?_,λj q hq=>?_,λj C=>hs.o j (by simpa only[B] using C)⟩
    .obtain⟨j,C,rfl⟩:=aa2 hq;obtain⟨D,a,he⟩:=get_modify (aaG C);by_cases l:j=i
     .subst l;rw[hp] at a;injection a with a;subst a;rw[aaK rfl] at he;rw[he] at hu;simp[sL,k] at hu;subst hu;rw[show({z with P:=z.P.modify j sL}:Sd).nw=s.nw+1 from y];exact E.1
     .rw[aaL l] at he;rw[he] at hu;exact hs.sv D (aa1 a) u hu
    .have h1:=tE (f:=sL) hp;have G:(if kJ (sL p)=true then 1 else 0)<=1:=by split <;> omega
     show((z.b.L.length:Int)+((z.P.modify i sL).countP kJ:Int))<=z.nw;omega
    .obtain⟨D,a,he⟩:=get_modify hq;have:=hs.has j D a;rw[he];simp only;rw[this];split
     .rename_i l;subst l;rw[hp] at a;injection a with a;subst a;simp[sL,k,E.2]
     .rfl
 .split
  .rename_i e he;have:=YX he;rw[uK] at this;exact⟨hs.n,hs.sv,hs.bk,hs.nw,⟨by show(0:Int)<=((e+1)%s.P.length:Nat);omega,by show(((e+1)%s.P.length:Nat):Int)<(dC s).P.length;rw[uK];have:=afU (e+1) (show 0<s.P.length by omega);omega⟩,hs.bn,hs.nP,hs.has,hs.o⟩
  .exact hs
end
end
section
open Go.RowKit Go.Lib Go.Shelf
variable{F:Nat->Prop}{w:aA}{g:Nat}
section
theorem VL(w:aA)(now:Int)(rd:Bool):aG prog 112 #[PN,now,rd] w λe w'=>e= .returned (.bool false)/\w=w':=by
 go_enter func112,ntmps112
 go_wp2_with fail
 go_ret
 exact⟨rfl,rfl⟩
def SD(o:Option (Nat×Int)):Int:=match o with|none=> -1|some (j,_)=>j
def Ys(o:Option (Nat×Int)):Int:=match o with|none=>0|some (_,e)=>e
theorem UN{P:List Pv}{k:Nat}(h:P[k]?.bind iT=none):fU P (k+1)=fU P k:=by
 show(match P[k]?.bind iT with|none=>fU P k|some d=>_)=_;rw[h]
theorem Ie{P:List Pv}{k:Nat}{d:Int}(h:P[k]?.bind iT=some d):fU P (k+1)=match fU P k with
 |none=>some (k,d)
 |some (j,e)=>if d<e then some (k,d) else some (j,e):=by
 show(match P[k]?.bind iT with|none=>fU P k|some d=>_)=_;rw[h];try rfl
theorem SN(h:lM F w g s)(N:s.P.length<=8)(L:∀p∈s.P,∀v,p.sv=some v->v.ch.length<=4000000):aG prog 113 #[.pointer g] w λe w'=>e= .returned (.int .i64 (SD (fU s.P s.P.length)))/\w=w':=by
 obtain⟨W,q,R,M,B,d,h⟩:=h;have c0:=h.c0;have H:=aP h;have O:=aP L;obtain⟨n,E⟩:∃n,n=s.P.length:=⟨_,rfl⟩
 rw[<-E] at c0 N;have Q:=aP E;have A:aH (SD (fU s.P n)=SD (fU s.P s.P.length)):=by unfold aH;rw[<-E]
 generalize SD (fU s.P s.P.length)=res at *;clear h L E;go_enter func113,ntmps113
 go_wp2_with fail
 go_loop [3,4,13] (λv3 v4 t=>∃(k:Nat) (x y:Int),t= .int .i64 k/\v3= .int .i64 x/\v4= .int .i64 y/\k<=n/\aH (x=SD (fU s.P k)/\y=Ys (fU s.P k))) (λ_ _ t=>n - (aL t).toNat)
 case atStart=>exact⟨0, -1,0,rfl,rfl,rfl,aaQ _,rfl,rfl⟩
 case round=>
  obtain⟨k,x,y,rfl,rfl,rfl,hk,f⟩:=hrel;by_cases I:k<n
  .have i:k<s.P.length:=by rw[<-Q.o];exact I
   have C:k<R.length:=by rw[H.o.len];exact i
   obtain⟨p0,p1,_,_⟩:=H.o.pl C;have X:(0:Int)<=k:=aQ;have S:(k:Int)<(n:Int):=aQ;have c:=H.o.ml k C i;have l:s.P[k]?=some s.P[k]:=aaG i;have HD:aH (s.P[k]?.bind iT=s.P[k].sv.bind xV):=by unfold aH;rw[l];rfl
   cases m:s.P[k].sv with
   |none=>
    rw[c.2.1 m] at p0;replace p0:w.cell? (q,k *2)=some (.pointer none):=p0;have r:aH (fU s.P (k+1)=fU s.P k):=UN (by rw[HD.o,m];rfl);clear c m HD l;go_wp2_with fail
    refine aS (NJ w) ?_;rintro e G ⟨rfl,rfl⟩;go_wp2_with fail
    go_round
    case rel=>exact⟨k+1,x,y,by go_num,rfl,rfl,aQ,by show _/\_;rw[r.o];exact f.o⟩
    case measure=>simp[aL];omega
   |some v=>
    obtain⟨a,T,hs⟩:=c.2.2 v m;rw[T] at p0;replace p0:w.cell? (q,k *2)=some (.pointer a):=p0;have u:=aP (M8 hs (O.o _ (aaM i) v m));cases hc:v.ch with
    |nil=>
     have r:aH (fU s.P (k+1)=fU s.P k):=UN (by rw[HD.o,m];simp[xV,hc]);rw[hc] at u;clear c m HD l hs;go_wp2_with fail
     refine aR u ?_;rintro e G ⟨rfl,rfl⟩;go_wp2_with fail
     go_round
     case rel=>exact⟨k+1,x,y,by go_num,rfl,rfl,aQ,by show _/\_;rw[r.o];exact f.o⟩
     case measure=>simp[aL];omega
    |cons z zs=>
     have b:=aP (Ie (P:=s.P) (k:=k) (d:=z.de) (by rw[HD.o,m];simp[xV,hc]));replace u:aH (aG prog 116 #[.pointer a] w λe w'=>e= .returned (.tuple #[z.de,true])/\w=w'):=by
      have:=u.o;rw[hc] at this;exact this
     clear c m HD l hs hc;cases he:fU s.P k with
     |none=>
      have r:aH (fU s.P (k+1)=some (k,z.de)):=by unfold aH;rw[b.o,he]
      have U:x= -1:=by rw[f.o.1,he];rfl
      clear he b f;subst U;generalize z.de=D at *;go_wp2_with fail
      refine aR u ?_;rintro e G ⟨rfl,rfl⟩;go_wp2_with fail
      go_round
      case rel=>exact⟨k+1,k,D,by go_num,rfl,rfl,aQ,by show _/\_;rw[r.o];exact⟨rfl,rfl⟩⟩
      case measure=>simp[aL];omega
     |some V=>
      obtain⟨j,e⟩:=V;have J:x=j/\y=e:=by rw[f.o.1,f.o.2,he];exact⟨rfl,rfl⟩
      obtain⟨rfl,rfl⟩:=J;have Y:¬(j:Int)= -1:=aQ;by_cases hd:z.de<y
      .have r:aH (fU s.P (k+1)=some (k,z.de)):=by unfold aH;rw[b.o,he];simp only;rw[aaK hd]
       clear he b f;generalize z.de=D at *;go_wp2_with fail
       refine aR u ?_;rintro e G ⟨rfl,rfl⟩;go_wp2_with fail
       go_round
       case rel=>exact⟨k+1,k,D,by go_num,rfl,rfl,aQ,by show _/\_;rw[r.o];exact⟨rfl,rfl⟩⟩
       case measure=>simp[aL];omega
      .have r:aH (fU s.P (k+1)=some (j,y)):=by unfold aH;rw[b.o,he];simp only;rw[aaL hd]
       clear he b f;generalize z.de=D at *;have J9:decide (D<y)=false:=aa0 hd;clear hd;go_wp2_with fail
       refine aR u ?_;rintro e G ⟨rfl,rfl⟩;go_wp2_with fail
       go_round
       case rel=>exact⟨k+1,j,y,by go_num,rfl,rfl,aQ,by show _/\_;rw[r.o];exact⟨rfl,rfl⟩⟩
       case measure=>simp[aL];omega
  .obtain rfl:k=n:=aQ;have S:¬(k:Int)<(k:Int):=aQ;have K:=aP f.o.1;clear f;go_wp2_with fail
   go_ret
   exact⟨by rw[<-A.o,<-K.o];rfl,rfl⟩
end
end
end Go.Proofs.YtacgiflhgdaeaaaGreat
