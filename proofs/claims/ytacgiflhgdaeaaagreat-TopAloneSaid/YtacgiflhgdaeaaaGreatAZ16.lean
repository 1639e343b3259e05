/- Texts laid as one. -/
import Derived.Test.YtacgiflhgdaeaaaGreatAZ2
import Derived.Test.YtacgiflhgdaeaaaGreatAZ3
import Derived.Test.YtacgiflhgdaeaaaGreatAZ6
import Derived.Test.YtacgiflhgdaeaaaGreatAZ9
import Derived.Test.YtacgiflhgdaeaaaGreatAZ10
import Derived.Test.YtacgiflhgdaeaaaGreatAZ15
set_option linter.unusedVariables false
set_option linter.unusedSimpArgs false
set_option maxRecDepth 100000
set_option maxHeartbeats 20000000
namespace Go.Proofs.YtacgiflhgdaeaaaGreat
open Go.Proofs.Tryz
open Go renaming World->aA,Value->aC,Addr->aJ,Ending->aM,Calls->aG
open Go.RowKit renaming Hid->aH,intOf->aL
open Go.Obj renaming cells->aI
section
open Go.RowKit Go.Lib Go.Shelf
variable{sz i B' c' g:Nat}{w:aA}{A A':Option aJ}{F:Nat->Prop}{C:Cf}{r:Option Nat}
section
theorem Tg:jS prog 35 3 1 8:=fU underlying35 (z:= .int .i64 0) aV rfl aQ
theorem Mg{α:Type}{enc:α->List aC}(he:∀x,(enc x).length=sz)(w:aA)(y:α)(cs:Array aC)(a:cs.toList=enc y)(e:TypeId):bI enc sz (w.alloc (.cells cs e)) w e (some ⟨w.heap.size,0,none⟩) 1 [y]:=by
 have hl:cs.size=sz:=by rw[<-ac6,a,he]
 refine⟨by rw[eZ he], .inr ⟨w.heap.size,1,cs,rfl,Zw _,heap_alloc_new w _,Zw _,dI,by rw[hl,adP],?_⟩⟩;rw[adV,adP,a,aa0,List.flatMap_nil,ac7];exact aaS (by rw[he];exact Zw _)
theorem wK{α β:Type}{enc:α->List aC}{a:β->List aC}{B c:Nat}{e b:TypeId}{xs:List α}{ys:List β}(h:bI enc sz w B e A c xs)(d:bI a i w B' b A' c' ys)(f:e≠b):aY A=none\/aY A≠aY A':=by
 cases j:aY A with
 |none=>exact .inl rfl
 |some q=>
  refine .inr (λk=>?_);obtain⟨cs,h1⟩:=qM h q j;obtain⟨cs',l⟩:=qM d q k.symm;exact QS h1 l f rfl
def eW(num:Int)(self:Bool)(st:List Int×List cM)(p:cM):List Int×List cM:=
 if p.h.nu=num then(if self then(st.1,st.2++ [p]) else st)
 else if p.h.pf∈st.1 then(st.1++ [p.h.nu],st.2++ [p]) else st
def cP(num:Int)(self:Bool)(L:List cM):List Int×List cM:=L.foldl (eW num self) ([num], [])
theorem V2(num:Int)(self:Bool)(L:List cM)(p:cM):cP num self (L++ [p])=eW num self (cP num self L) p:=by
 unfold cP;rw[acC];rfl
def gZ(C:Cf)(G:List cM):Cf:=G.foldl xG C
theorem DV(C:Cf)(G:List cM)(p:cM):gZ C (G++ [p])=xG (gZ C G) p:=by
 unfold gZ;rw[acC];rfl
theorem FA(C:Cf)(G:List cM):(gZ C G).n=C.n:=by
 unfold gZ;induction G generalizing C with
 |nil=>rfl
 |cons p G a=>rw[acY,a];rfl
def Fg(w:aA)(g:Nat):Nat->Prop:=λb=>b<w.heap.size/\b≠g
theorem eG.all(h:eG F w g C):eG (Fg w g) w g C:=⟨h.b,h.len,λ_ hb=>hb.1,λhb=>hb.2 rfl⟩
structure oT(F:Nat->Prop)(w wr:aA)(g:Nat)(C:Cf)(AL:Option aJ)(cL:Nat)(L:List cM)(A:Option aJ)(c:Nat)(O:List Int)(A2:Option aJ)(c2:Nat)(G:List cM):Prop where
 oL:bI wS 7 wr w.heap.size 424 AL cL L
 oO:bI eI 1 wr w.heap.size 3 A c O
 oG:bI oH 5 wr w.heap.size 156 A2 c2 G
 m:eG F wr g C
 kp:Kp F w wr
 fl:Ol F w
 gl:g<w.heap.size
section
variable{F:Nat->Prop}{w wr w':aA}{g:Nat}{C C':Cf}{AL A A2 A6:Option aJ}{cL c c2 c6:Nat}{L G:List cM}{O:List Int}
theorem oT.keep(h:oT F w wr g C AL cL L A c O A2 c2 G)(hb:Below wr wr w'):oT F w w' g C AL cL L A c O A2 c2 G:=
 ⟨h.oL.keep hb,h.oO.keep hb,h.oG.keep hb,h.m.keep hb,h.kp.trans (h.m.kp hb),h.fl,h.gl⟩
theorem oT.gm(h:oT F w wr g C AL cL L A c O A2 c2 G)(a:wr.grownBy w' r)(d:∀q,r=some q->w.heap.size<=q):eG F w' g C/\Kp F w w':=by
 have k:Kp F wr w':=Kp.grown a λb hb=>⟨h.m.fl b hb,λe=>by have:=d b e.symm;have:=h.fl b hb;omega⟩
 refine⟨⟨(a.block g h.m.b.lt (λe=>by have:=d g e.symm;have:=h.gl;omega)).trans h.m.b,h.m.len,h.m.fl.kp k,h.m.fg⟩,h.kp.trans k⟩
theorem oT.over(h:oT F w wr g C AL cL L A c O A2 c2 G){x:Int}(a:bI eI 1 w' w.heap.size 3 A6 c6 (O++ [x]))(b:wr.grownBy w' (aY A)):oT F w w' g C AL cL L A6 c6 (O++ [x]) A2 c2 G:=by
 obtain⟨h1,d⟩:=h.gm b (λq hq=>(h.oO.lt q hq).1);exact⟨h.oL.kept b (wK h.oL h.oO cC),a,h.oG.kept b (wK h.oG h.oO cC),h1,d,h.fl,h.gl⟩
theorem oT.gone(h:oT F w wr g C AL cL L A c O A2 c2 G){x:cM}(a:bI oH 5 w' w.heap.size 156 A6 c6 (G++ [x]))(b:wr.grownBy w' (aY A2)):oT F w w' g C AL cL L A c O A6 c6 (G++ [x]):=by
 obtain⟨h1,d⟩:=h.gm b (λq hq=>(h.oG.lt q hq).1);exact⟨h.oL.kept b (wK h.oL h.oG cC),h.oO.kept b (wK h.oO h.oG cC),a,h1,d,h.fl,h.gl⟩
theorem oT.eQ(h:oT F w wr g C AL cL L A c O A2 c2 G)(hm:eG (Fg wr g) w' g C')(k:Kp (Fg wr g) wr w'):oT F w w' g C' AL cL L A c O A2 c2 G:=by
 have hF:∀b,F b->Fg wr g b:=λb hb=>⟨h.m.fl b hb,λe=>h.m.fg (by rw[<-e];exact hb)⟩
 have a:∀q,w.heap.size<=q/\q<wr.heap.size->Fg wr g q:=λq hq=>⟨hq.2,λe=>by have:=h.gl;omega⟩
 exact⟨h.oL.kp k (λq hq=>a q (h.oL.lt q hq)),h.oO.kp k (λq hq=>a q (h.oO.lt q hq)),h.oG.kp k (λq hq=>a q (h.oG.lt q hq)),⟨hm.b,hm.len,h.m.fl.kp (k.mono hF),h.m.fg⟩,h.kp.trans (k.mono hF),h.fl,h.gl⟩
end
theorem Sx{k:Nat}{p:cM}(hk:k<128)(h:N0 C k=some p):oC p.e p.s=some (fY p)/\fY p=k/\p.h=bJ C k:=by
 unfold N0 at h;split at h
 .cases h
 .injection h with h;subst h;have hi:fY ⟨((k /16:Nat):Int),((k%16:Nat):Int),bJ C k⟩=k:=by unfold fY;simp only[aaG];omega
  refine⟨?_,hi,rfl⟩;rw[hi];unfold oC;simp only[aaG];rw[Zz aQ];congr 1
theorem LR{p:cM}(h:p∈lC C):oC p.e p.s=some (fY p)/\fY p<128/\p.h=bJ C (fY p)/\p.h.nu≠0:=by
 unfold lC uI at h;obtain⟨k,hk,hp⟩:=acO.1 h;have hk:=ab1.1 hk;obtain⟨h1,b,a⟩:=Sx hk hp;refine⟨h1,aQ,by rw[b];exact a,?_⟩;rw[a];intro d;unfold N0 at hp;rw[Zz d] at hp;cases hp
end
section
def Vt(F:Nat->Prop)(g:Nat)(C:Cf)(num:Int)(self:Bool)(w:aA)(e:aM)(w':aA):Prop:=∃(A:Option aJ) (c:Nat) (L:List cM),e= .returned (.slice A (cP num self L).2.length c)/\L.Perm (lC C)/\L.Pairwise (λx y=>x.h.nu<=y.h.nu)/\bI oH 5 w' w.heap.size 156 A c (cP num self L).2/\eG F w' g (gZ C (cP num self L).2)/\Kp F w w'
theorem RH(h:eG F w g C)(num:Int)(self:Bool):aG prog 192 #[.pointer g,num,self] w (Vt F g C num self w):=by
 have T:=aX w (aI #[num] 3);have hO1:=Mg KS w num #[num] rfl 3;have h1:=h.keep T;have HI:=aP (GZ h1);have f:=dA T hO1 h;clear T hO1 h1 h;go_enter func192,ntmps192
 go_upto_region 3 with(fail)
 generalize w.alloc (aI #[num] 3)=w1 at *;go_wp2_with fail
 refine aR HI ?_;rintro x w2 ⟨AL,cL,L,rfl,hp,hs,P,K⟩;have jA:=f.o.1.size;have hN:L.length<=128:=by rw[hp.length_eq];exact I9 C 128
 obtain⟨N,M⟩:∃N,N=L.length:=⟨_,rfl⟩
 have H0:aH (oT F w w2 g C AL cL L (some ⟨w.heap.size,0,none⟩) 1 [num] none 0 []):=⟨P.from_ jA,f.o.2.1.keep K,bI.nil _ _ _,(f.o.2.2.keep f.o.1).keep K,(f.o.2.2.kp f.o.1).trans ((f.o.2.2.keep f.o.1).kp K),f.o.2.2.fl,f.o.2.2.b.lt⟩
 have HP:=dA hp hs M;rw[<-M];rw[<-M] at hN;clear hp hs P K jA M HI f;go_wp2_with fail
 go_loopw [7,8,16] (λv7 v8 U wr=>∃(k:Nat) (A:Option aJ) (c n:Nat) (O:List Int) (V:Option aJ) (c2 m:Nat) (G:List cM),U= .int .i64 k/\v7= .slice A n c/\v8= .slice V m c2/\k<=N/\n<=k+1/\m<=k/\aH (n=O.length/\m=G.length/\(O,G)=cP num self (L.take k)/\oT F w wr g (gZ C G) AL cL L A c O V c2 G)) (λ_ _ U _=>N - (aL U).toNat)
 case atStart=>exact⟨0,_,1,1, [num],none,0,0, [],rfl,rfl,rfl,aaH _,aQ,Zw _,rfl,rfl,rfl,H0.o⟩
 case round=>
  clear H0;obtain⟨k,A,c,n,O,V,c2,m,G,rfl,rfl,rfl,hk,hn,hm,d⟩:=hrel;by_cases hkn:k<N
  .have a:k<L.length:=by rw[<-HP.o.2.2];exact hkn
   obtain⟨qL,rfl⟩:∃q,AL=some ⟨q,0,none⟩:=by
    rcases d.o.2.2.2.oL.shape with⟨_,h2,_⟩|h2
    .rw[h2] at a;simp at a
    .exact h2
   have Q:=d.o.2.2.2.oL;have e0:=bM jG Q a (j:=0) (v:= .int .i64 L[k].e) rfl;have e1:=bM jG Q a (j:=1) (v:= .int .i64 L[k].s) rfl;have e2:=bM jG Q a (j:=2) (v:= .int .i64 L[k].h.kd) rfl;have e3:=bM jG Q a (j:=3) (v:= .int .i64 L[k].h.ob) rfl;have e4:=bM jG Q a (j:=4) (v:= .int .i64 L[k].h.rt) rfl;have e5:=bM jG Q a (j:=5) (v:= .int .i64 L[k].h.nu) rfl;have e6:=bM jG Q a (j:=6) (v:= .int .i64 L[k].h.pf) rfl;rw[aaU] at e0;clear Q;have HID:aH (oC L[k].e L[k].s=some (fY L[k])):=(LR (HP.o.1.mem_iff.1 (aaF a))).1;have htk:L.take (k+1)=L.take k++ [L[k]]:=by rw[abE,Zv a];rfl
   have R:aH (cP num self (L.take (k+1))=eW num self (O,G) L[k]):=by unfold aH;rw[htk,V2,<-d.o.2.2.1]
   have k0:(0:Int)<=k:=aQ;have k1:(k:Int)<(N:Int):=aQ;clear htk;generalize L[k]=y at *;clear a;obtain⟨i,l,p,r,t,u,z⟩:=y;simp only at e0 e1 e2 e3 e4 e5 e6;have hb3:=aX wr (aI #[i,l,p,r,t,u,z] 424);have yb:=bF.new wr 424 #[i,l,p,r,t,u,z];have H3:=aP (d.o.2.2.2.keep hb3);have hqA:∀q,aY A=some q->q<wr.heap.size:=λq hq=>(d.o.2.2.2.oO.lt q hq).2
   clear hb3;by_cases I:u=num
   .have hnu':=I.symm;subst hnu';clear I;cases self with
    |false=>
     have W:aH (cP num false (L.take (k+1))=(O,G)):=by unfold aH;rw[R.o];simp[eW]
     clear R;go_wp2_with fail
     go_roundw
     case rel=>exact⟨k+1,A,c,n,O,V,c2,m,G,by go_num,rfl,rfl,aQ,aQ,aQ,d.o.1,d.o.2.1,W.o.symm,H3.o⟩
     case measure=>simp[aL];omega
    |true=>
     have W:aH (cP num true (L.take (k+1))=(O,G++ [⟨i,l,⟨p,r,t,num,z⟩⟩])):=by unfold aH;rw[R.o];simp[eW]
     clear R;go_upto_region 8 with(fail)
     clear e0 e1 e2 e3 e4 e5 e6;generalize wr.alloc (aI #[i,l,p,r,t,num,z] 424)=X at *;generalize wr.heap.size=q3 at *;have x0:=yb.cell 0 i rfl;have x1:=yb.cell 1 l rfl;have x2:=yb.cell 2 p rfl;have x3:=yb.cell 3 r rfl;have x4:=yb.cell 4 t rfl;have x5:=yb.cell 5 num rfl;have x6:=yb.cell 6 z rfl;clear yb;have Y:=aP (DE (F:=Fg X g) H3.o.m.all ⟨i,l,⟨p,r,t,num,z⟩⟩ HID.o);simp only[wS] at Y;go_wp2_with fail
     refine aR Y ?_;rintro x Z ⟨rfl,m7,k7⟩;have H7:=aP (H3.o.eQ m7 k7);clear m7 k7 Y;simp only[ZA];have H8:=aP (H7.o.keep (aX Z (aI #[i,l,p,r,t] 156)));have HS8:aH (w.heap.size<=(Z.alloc (aI #[i,l,p,r,t] 156)).heap.size):=H8.o.kp.size;go_wp2_with(at_builtin;refine bP _ rfl _ _ rfl W7 fV H8.o.oG (n:=m) d.o.2.1.symm rfl (m:=1) rfl (ys:= [⟨i,l,⟨p,r,t,num,z⟩⟩]) rfl (Sl.new fV Z ⟨i,l,⟨p,r,t,num,z⟩⟩ _ rfl _) dI aQ HS8.o _ rfl (m+1) rfl ?_;intro A9 c9 w9 B J at9;(have HF:=aP (H8.o.gone B J));clear B J at9)
     go_roundw
     case rel=>exact⟨k+1,A,c,n,O,A9,c9,m+1,_,by go_num,rfl,rfl,aQ,aQ,aQ,d.o.1,by rw[aaM,<-d.o.2.1];rfl,W.o.symm,by rw[DV];exact HF.o⟩
     case measure=>simp[aL];omega
   .have HK:=aP (ON (c:=c) (w:=wr.alloc (aI #[i,l,p,r,t,u,z] 424)) (H3.o.oO.sl gK) (by rw[<-d.o.1];omega) z);have hnb:(u==num)=false:=by simp[I]
    by_cases H:z∈O
    .have W:aH (cP num self (L.take (k+1))=(O++ [u],G++ [⟨i,l,⟨p,r,t,u,z⟩⟩])):=by unfold aH;rw[R.o];simp[eW,I,H]
     have E:=HK.o;rw[<-d.o.1,aa2 H] at E;replace HK:=aP E;clear R E H;go_upto_region 9 with(fail)
     clear e0 e1 e2 e3 e4 e5 e6;generalize wr.alloc (aI #[i,l,p,r,t,u,z] 424)=X at *;generalize wr.heap.size=q3 at *;have x0:=yb.cell 0 i rfl;have x1:=yb.cell 1 l rfl;have x2:=yb.cell 2 p rfl;have x3:=yb.cell 3 r rfl;have x4:=yb.cell 4 t rfl;have x5:=yb.cell 5 u rfl;have x6:=yb.cell 6 z rfl;go_wp2_with fail
     refine aR HK ?_;rintro x w4 ⟨rfl,rfl⟩;have H4:=aP (H3.o.keep (aX X (aI #[u] 3)));have yb4:=yb.keep (aX X (aI #[u] 3));have HS4:aH (w.heap.size<=(X.alloc (aI #[u] 3)).heap.size):=H4.o.kp.size;clear HK;go_wp2_with(at_builtin;refine bP _ rfl _ _ rfl Tg gK H4.o.oO (n:=n) d.o.1.symm rfl (m:=1) rfl (ys:= [u]) rfl (Sl.new gK X u _ rfl _) dI aQ HS4.o _ rfl (n+1) rfl ?_;intro A5 c5 w5 S hg5 at5;(have D:=yb4.grown hg5 (λe=>by have:=hqA q3 e.symm;omega));(have H5:=aP (H4.o.over S hg5));(have z0:=D.cell 0 i rfl);(have z1:=D.cell 1 l rfl);(have z2:=D.cell 2 p rfl);(have z3:=D.cell 3 r rfl);(have z4:=D.cell 4 t rfl);(have z5:=D.cell 5 u rfl);(have z6:=D.cell 6 z rfl);clear S hg5 at5 D yb4)
     have Y:=aP (DE (F:=Fg w5 g) H5.o.m.all ⟨i,l,⟨p,r,t,u,z⟩⟩ HID.o);simp only[wS] at Y;refine aR Y ?_;rintro x Z ⟨rfl,m7,k7⟩;have H7:=aP (H5.o.eQ m7 k7);clear m7 k7 Y;simp only[ZA];have H8:=aP (H7.o.keep (aX Z (aI #[i,l,p,r,t] 156)));have HS8:aH (w.heap.size<=(Z.alloc (aI #[i,l,p,r,t] 156)).heap.size):=H8.o.kp.size;go_wp2_with(at_builtin;refine bP _ rfl _ _ rfl W7 fV H8.o.oG (n:=m) d.o.2.1.symm rfl (m:=1) rfl (ys:= [⟨i,l,⟨p,r,t,u,z⟩⟩]) rfl (Sl.new fV Z ⟨i,l,⟨p,r,t,u,z⟩⟩ _ rfl _) dI aQ HS8.o _ rfl (m+1) rfl ?_;intro A9 c9 w9 B J at9;(have HF:=aP (H8.o.gone B J));clear B J at9)
     go_roundw
     case rel=>exact⟨k+1,A5,c5,n+1,_,A9,c9,m+1,_,by go_num,rfl,rfl,aQ,aQ,aQ,by rw[aaM,<-d.o.1];rfl,by rw[aaM,<-d.o.2.1];rfl,W.o.symm,by rw[DV];exact HF.o⟩
     case measure=>simp[aL];omega
    .have W:aH (cP num self (L.take (k+1))=(O,G)):=by unfold aH;rw[R.o];simp[eW,I,H]
     have E:=HK.o;rw[<-d.o.1,aaP H] at E;replace HK:=aP E;clear R E H;go_upto_region 9 with(fail)
     clear e0 e1 e2 e3 e4 e5 e6;generalize wr.alloc (aI #[i,l,p,r,t,u,z] 424)=X at *;generalize wr.heap.size=q3 at *;have x0:=yb.cell 0 i rfl;have x1:=yb.cell 1 l rfl;have x2:=yb.cell 2 p rfl;have x3:=yb.cell 3 r rfl;have x4:=yb.cell 4 t rfl;have x5:=yb.cell 5 u rfl;have x6:=yb.cell 6 z rfl;clear yb;go_wp2_with fail
     refine aR HK ?_;rintro x w4 ⟨rfl,rfl⟩;go_wp2_with fail
     go_roundw
     case rel=>exact⟨k+1,A,c,n,O,V,c2,m,G,by go_num,rfl,rfl,aQ,aQ,aQ,d.o.1,d.o.2.1,W.o.symm,H3.o⟩
     case measure=>simp[aL];omega
  .obtain rfl:k=N:=aQ;have k1:¬(k:Int)<(k:Int):=aQ;have hE:(O,G)=cP num self L:=by rw[d.o.2.2.1,aaS (by rw[<-HP.o.2.2];exact Zw _)]
   have hG:(cP num self L).2=G:=by rw[<-hE]
   have HF:aH (Vt F g C num self w (.returned (.slice V m c2)) wr):=⟨V,c2,L,by rw[hG,<-d.o.2.1],HP.o.1,HP.o.2.1,by rw[hG];exact d.o.2.2.2.oG,by rw[hG];exact d.o.2.2.2.m,d.o.2.2.2.kp⟩
   clear hE hG;go_wp2_with fail
   go_ret
   exact HF.o
end
section
def JL(F:Nat->Prop)(g:Nat)(C:Cf)(ok:Option Nat)(self:Bool)(w:aA)(e:aM)(w':aA):Prop:=match ok with
 |none=>e= .returned (.tuple #[.slice none 0 0, .int .i64 23])/\eG F w' g C/\Kp F w w'
 |some k=>∃(A:Option aJ) (c:Nat) (L:List cM),e= .returned (.tuple #[.slice A (cP (bJ C k).nu self L).2.length c, .int .i64 0])/\L.Perm (lC C)/\L.Pairwise (λx y=>x.h.nu<=y.h.nu)/\bI oH 5 w' w.heap.size 156 A c (cP (bJ C k).nu self L).2/\eG F w' g (gZ C (cP (bJ C k).nu self L).2)/\Kp F w w'
def rY(C:Cf)(e s:Int):Option Nat:=match eO C e s with
 |none=>none
 |some k=>if bits .and .i64 (bJ C k).rt 8=0 then none else some k
theorem Dn(h:eG F w g C)(e s:Int):aG prog 149 #[.pointer g,e,s] w (JL F g C (eO C e s) true w):=by
 have a:=zD h e s;cases hf:eO C e s with
 |none=>
  rw[hf] at a;have a:=aP a;have f:aH (JL F g C none true w (.returned (.tuple #[bH, .int .i64 23])) w):=⟨rfl,h,Kp.refl _ _⟩
  clear h hf;go_enter func149,ntmps149
  go_wp2_with fail
  refine aR a ?_;rintro x b ⟨rfl,rfl⟩;simp only[pM,abT];go_wp2_with fail
  go_ret2
  exact f.o
 |some k=>
  rw[hf] at a;have a:=aP a;obtain⟨c0,c1,c2,c3,c4⟩:=h.at_ (CV hf).1;have i:=aP (RH h (bJ C k).nu true);have j:aH (JL F g C (some k) true w=λe w'=>∃(A:Option aJ) (c:Nat) (L:List cM),e= .returned (.tuple #[.slice A (cP (bJ C k).nu true L).2.length c,aU])/\L.Perm (lC C)/\L.Pairwise (λx y=>x.h.nu<=y.h.nu)/\bI oH 5 w' w.heap.size 156 A c (cP (bJ C k).nu true L).2/\eG F w' g (gZ C (cP (bJ C k).nu true L).2)/\Kp F w w'):=rfl;generalize JL F g C (some k) true w=Q at *;clear h hf;generalize (bJ C k).nu=nu at *;go_enter func149,ntmps149
  go_wp2_with fail
  refine aR a ?_;rintro x b ⟨rfl,rfl⟩;simp only[pM,aa4];go_wp2_with fail
  refine aR i ?_;rintro x b ⟨A,c,L,rfl,h1⟩;have d:aH (Q (.returned (.tuple #[.slice A (cP nu true L).2.length c,aU])) b):=by unfold aH;rw[j.o];exact⟨A,c,L,rfl,h1⟩
  clear h1;generalize (cP nu true L).2.length=n at *;go_wp2_with fail
  first|exact d.o|(go_ret2;exact d.o)
theorem UO(h:eG F w g C)(e s:Int):aG prog 215 #[.pointer g,e,s] w (JL F g C (rY C e s) false w):=by
 have b:=zD h e s;cases hf:eO C e s with
 |none=>
  have d:rY C e s=none:=by unfold rY;rw[hf]
  rw[d];rw[hf] at b;have b:=aP b;have i:aH (JL F g C none false w (.returned (.tuple #[bH, .int .i64 23])) w):=⟨rfl,h,Kp.refl _ _⟩
  clear h hf d;go_enter func215,ntmps215
  go_wp2_with fail
  refine aR b ?_;rintro x f ⟨rfl,rfl⟩;simp only[pM,abT];go_wp2_with fail
  go_ret2
  exact i.o
 |some k=>
  rw[hf] at b;have b:=aP b;obtain⟨c0,c1,c2,c3,c4⟩:=h.at_ (CV hf).1;obtain⟨a,ha⟩:∃a,bits .and .i64 (bJ C k).rt 8=a:=⟨_,rfl⟩
  by_cases j:a=0
  .have d:rY C e s=none:=by unfold rY;rw[hf];simp only;rw[ha,Zz j]
   rw[d];have i:aH (JL F g C none false w (.returned (.tuple #[bH, .int .i64 23])) w):=⟨rfl,h,Kp.refl _ _⟩
   subst j;clear h hf d c0 c1 c3 c4;generalize (bJ C k).rt=rt at *;go_enter func215,ntmps215
   go_wp2_with fail
   refine aR b ?_;rintro x f ⟨rfl,rfl⟩;simp only[pM,aa4];go_wp2_with fail
   go_ret2
   exact i.o
  .have d:rY C e s=some k:=by unfold rY;rw[hf];simp only;rw[ha,aaA j]
   rw[d];have m:=aP (RH h (bJ C k).nu false);have p:aH (JL F g C (some k) false w=λe w'=>∃(A:Option aJ) (c:Nat) (L:List cM),e= .returned (.tuple #[.slice A (cP (bJ C k).nu false L).2.length c,aU])/\L.Perm (lC C)/\L.Pairwise (λx y=>x.h.nu<=y.h.nu)/\bI oH 5 w' w.heap.size 156 A c (cP (bJ C k).nu false L).2/\eG F w' g (gZ C (cP (bJ C k).nu false L).2)/\Kp F w w'):=rfl;generalize JL F g C (some k) false w=Q at *;clear h hf d c0 c1 c4;generalize (bJ C k).nu=nu at *;generalize (bJ C k).rt=rt at *;go_enter func215,ntmps215
   go_wp2_with fail
   refine aR b ?_;rintro x f ⟨rfl,rfl⟩;simp only[pM,aa4];go_wp2_with fail
   refine aR m ?_;rintro x f ⟨A,c,L,rfl,h1⟩;have l:aH (Q (.returned (.tuple #[.slice A (cP nu false L).2.length c,aU])) f):=by unfold aH;rw[p.o];exact⟨A,c,L,rfl,h1⟩
   clear h1;generalize (cP nu false L).2.length=n at *;go_wp2_with fail
   first|exact l.o|(go_ret2;exact l.o)
def nU(kd ob:Int)(p:cM):Bool:=decide (p.h.kd=kd/\p.h.ob=ob)
def Wk(F:Nat->Prop)(g:Nat)(C:Cf)(kd ob:Int)(w:aA)(e:aM)(w':aA):Prop:=∃(A:Option aJ) (c:Nat) (L:List cM),e= .returned (.slice A (L.filter (nU kd ob)).length c)/\L.Perm (lC C)/\bI oH 5 w' w.heap.size 156 A c (L.filter (nU kd ob))/\eG F w' g (gZ C (L.filter (nU kd ob)))/\Kp F w w'
theorem Cb(h:eG F w g C)(kd ob:Int):aG prog 197 #[.pointer g,kd,ob] w (Wk F g C kd ob w):=by
 have HI:=aP (GZ h);have r:=aP h;clear h;go_enter func197,ntmps197
 go_wp2_with fail
 refine aR HI ?_;rintro x w2 ⟨U,Y,L,rfl,hp,hs,D,J⟩;have hN:L.length<=128:=by rw[hp.length_eq];exact I9 C 128
 obtain⟨N,B⟩:∃N,N=L.length:=⟨_,rfl⟩
 have H0:aH (oT F w w2 g C U Y L none 0 [] none 0 []):=⟨D,bI.nil _ _ _,bI.nil _ _ _,r.o.keep J,r.o.kp J,r.o.fl,r.o.b.lt⟩
 have V:=bN hp B;rw[<-B];rw[<-B] at hN;clear hp hs D J B HI r;go_wp2_with fail
 go_loopw [7,15] (λv7 K wr=>∃(k:Nat) (E:Option aJ) (c2 m:Nat) (G:List cM),K= .int .i64 k/\v7= .slice E m c2/\k<=N/\m<=k/\aH (m=G.length/\G=(L.take k).filter (nU kd ob)/\oT F w wr g (gZ C G) U Y L none 0 [] E c2 G)) (λ_ K _=>N - (aL K).toNat)
 case atStart=>exact⟨0,none,0,0, [],rfl,rfl,aaH _,Zw _,rfl,rfl,H0.o⟩
 case round=>
  clear H0;obtain⟨k,E,c2,m,G,rfl,rfl,hk,hm,M⟩:=hrel;have f:aH (True/\m=G.length/\G=(L.take k).filter (nU kd ob)/\oT F w wr g (gZ C G) U Y L none 0 [] E c2 G):=⟨trivial,M.o⟩
  clear M;by_cases Z:k<N
  .have a:k<L.length:=by rw[<-V.o.2];exact Z
   obtain⟨qL,rfl⟩:∃q,U=some ⟨q,0,none⟩:=by
    rcases f.o.2.2.2.oL.shape with⟨_,h2,_⟩|h2
    .rw[h2] at a;simp at a
    .exact h2
   have H:=f.o.2.2.2.oL;have e0:=bM jG H a (j:=0) (v:= .int .i64 L[k].e) rfl;have e1:=bM jG H a (j:=1) (v:= .int .i64 L[k].s) rfl;have e2:=bM jG H a (j:=2) (v:= .int .i64 L[k].h.kd) rfl;have e3:=bM jG H a (j:=3) (v:= .int .i64 L[k].h.ob) rfl;have e4:=bM jG H a (j:=4) (v:= .int .i64 L[k].h.rt) rfl;have e5:=bM jG H a (j:=5) (v:= .int .i64 L[k].h.nu) rfl;have e6:=bM jG H a (j:=6) (v:= .int .i64 L[k].h.pf) rfl;rw[aaU] at e0;clear H;have HID:aH (oC L[k].e L[k].s=some (fY L[k])):=(LR (V.o.1.mem_iff.1 (aaF a))).1;have O:L.take (k+1)=L.take k++ [L[k]]:=by rw[abE,Zv a];rfl
   have P:aH ((L.take (k+1)).filter (nU kd ob)=G++(if nU kd ob L[k] then [L[k]] else [])):=by unfold aH;rw[O,acP,<-f.o.2.2.1];cases hq:nU kd ob L[k] <;> simp[hq]
   have k0:(0:Int)<=k:=aQ;have k1:(k:Int)<(N:Int):=aQ;clear O;generalize L[k]=y at *;clear a;obtain⟨i,l,⟨c,d,p,z,A⟩⟩:=y;simp only at e0 e1 e2 e3 e4 e5 e6;have Q:=aX wr (aI #[i,l,c,d,p,z,A] 424);have yb:=bF.new wr 424 #[i,l,c,d,p,z,A];have W:=aP (f.o.2.2.2.keep Q);clear Q;have t:¬(c=kd/\d=ob)->aH ((L.take (k+1)).filter (nU kd ob)=G):=λhc=>by
    unfold aH;rw[P.o];have:nU kd ob ⟨i,l,⟨c,d,p,z,A⟩⟩=false:=aaP hc;rw[this];simp
   have u:=aP t;clear t;by_cases hc:c=kd
   .by_cases hd:d=ob
    .have R:aH ((L.take (k+1)).filter (nU kd ob)=G++ [⟨i,l,⟨c,d,p,z,A⟩⟩]):=by
      unfold aH;rw[P.o];have:nU kd ob ⟨i,l,⟨c,d,p,z,A⟩⟩=true:=aa2 ⟨hc,hd⟩;rw[this];rfl
     clear P u;have S:(c==kd)=true:=by simp[hc]
     have hd':(d==ob)=true:=by simp[hd]
     clear hc hd;go_upto_region 8 with(fail)
     clear e0 e1 e2 e3 e4 e5 e6;generalize wr.alloc (aI #[i,l,c,d,p,z,A] 424)=w3 at *;generalize wr.heap.size=q3 at *;have x0:=yb.cell 0 i rfl;have x1:=yb.cell 1 l rfl;have x2:=yb.cell 2 c rfl;have x3:=yb.cell 3 d rfl;have x4:=yb.cell 4 p rfl;have x5:=yb.cell 5 z rfl;have x6:=yb.cell 6 A rfl;clear yb;have HC:=aP (DE (F:=Fg w3 g) W.o.m.all ⟨i,l,⟨c,d,p,z,A⟩⟩ HID.o);simp only[wS] at HC;go_wp2_with fail
     refine aR HC ?_;rintro x w7 ⟨rfl,m7,k7⟩;have H7:=aP (W.o.eQ m7 k7);clear m7 k7 HC;simp only[ZA];have H8:=aP (H7.o.keep (aX w7 (aI #[i,l,c,d,p] 156)));have HS8:aH (w.heap.size<=(w7.alloc (aI #[i,l,c,d,p] 156)).heap.size):=H8.o.kp.size;go_wp2_with(at_builtin;refine bP _ rfl _ _ rfl W7 fV H8.o.oG (n:=m) f.o.2.1.symm rfl (m:=1) rfl (ys:= [⟨i,l,⟨c,d,p,z,A⟩⟩]) rfl (Sl.new fV w7 ⟨i,l,⟨c,d,p,z,A⟩⟩ _ rfl _) dI aQ HS8.o _ rfl (m+1) rfl ?_;intro A9 c9 w9 I T at9;(have HF:=aP (H8.o.gone I T));clear I T at9)
     go_roundw
     case rel=>exact⟨k+1,A9,c9,m+1,_,by go_num,rfl,aQ,aQ,by rw[aaM,<-f.o.2.1];rfl,R.o.symm,by rw[DV];exact HF.o⟩
     case measure=>simp[aL];omega
    .have R:=aP (u.o (λh=>hd h.2));clear P u;have S:(c==kd)=true:=by simp[hc]
     have hd':(d==ob)=false:=by simp[hd]
     clear hc hd;go_wp2_with fail
     go_roundw
     case rel=>exact⟨k+1,E,c2,m,G,by go_num,rfl,aQ,aQ,f.o.2.1,R.o.o.symm,W.o⟩
     case measure=>simp[aL];omega
   .have R:=aP (u.o (λh=>hc h.1));clear P u;have S:(c==kd)=false:=by simp[hc]
    clear hc;go_wp2_with fail
    go_roundw
    case rel=>exact⟨k+1,E,c2,m,G,by go_num,rfl,aQ,aQ,f.o.2.1,R.o.o.symm,W.o⟩
    case measure=>simp[aL];omega
  .obtain rfl:k=N:=aQ;have k1:¬(k:Int)<(k:Int):=aQ;have X:L.filter (nU kd ob)=G:=by rw[f.o.2.2.1,aaS (by rw[<-V.o.2];exact Zw _)]
   have HF:aH (Wk F g C kd ob w (.returned (.slice E m c2)) wr):=⟨E,c2,L,by rw[X,<-f.o.2.1],V.o.1,by rw[X];exact f.o.2.2.2.oG,by rw[X];exact f.o.2.2.2.m,f.o.2.2.2.kp⟩
   clear X;go_wp2_with fail
   go_ret
   exact HF.o
end
section
def gU(C:Cf)(env from_ other to_ rights more:Int):Int×Cf:=match eO C env from_ with
 |none=>(23,C)
 |some k=>if rights<0\/fP (bJ C k).rt rights≠rights\/fP (bJ C k).rt more≠more then(23,C) else cY C other to_ (bJ C k).kd (bJ C k).ob rights (bJ C k).nu
theorem KB{env from_:Int}(h:eO C env from_=none)(other to_ rights more:Int):gU C env from_ other to_ rights more=(23,C):=by unfold gU;rw[h]
theorem PS{env from_:Int}{k:Nat}(h:eO C env from_=some k)(other to_:Int){rights more:Int}(hc:rights<0\/fP (bJ C k).rt rights≠rights\/fP (bJ C k).rt more≠more):gU C env from_ other to_ rights more=(23,C):=by unfold gU;rw[h];exact Zz hc
theorem MY{env from_:Int}{k:Nat}(h:eO C env from_=some k)(other to_:Int){rights more:Int}(a:¬rights<0)(h1:fP (bJ C k).rt rights=rights)(b:fP (bJ C k).rt more=more):gU C env from_ other to_ rights more=cY C other to_ (bJ C k).kd (bJ C k).ob rights (bJ C k).nu:=by
 unfold gU;rw[h];refine aaA (λhc=>?_);rcases hc with hc|hc|hc
 .exact a hc
 .exact hc h1
 .exact hc b
theorem PA(h:eG F w g C)(Y:0<=C.n/\C.n<=1000000000000)(env from_ other to_ rights more:Int):aG prog 248 #[.pointer g,env,from_,other,to_,rights,more] w (BY F g (gU C env from_ other to_ rights more) w):=by
 have e:=zD h env from_;have P:=aP h;cases hf:eO C env from_ with
 |none=>
  rw[hf] at e;have e:=aP e;have H:=aP (KB hf other to_ rights more);generalize gU C env from_ other to_ rights more=R at *;have f:aH (BY F g R w (.returned (.int .i64 23)) w):=by
   unfold aH;rw[H.o];exact⟨rfl,h,Kp.refl _ _⟩
  clear h hf H;go_enter func248,ntmps248
  go_wp2_with fail
  refine aR e ?_;rintro x I ⟨rfl,rfl⟩;simp only[pM,abT];go_wp2_with fail
  go_ret
  exact f.o
 |some k=>
  rw[hf] at e;have e:=aP e;obtain⟨hk,_,_⟩:=CV hf;obtain⟨c0,c1,c2,c3,c4⟩:=h.at_ hk;have s:aH ((rights<0\/fP (bJ C k).rt rights≠rights\/fP (bJ C k).rt more≠more)->BY F g (gU C env from_ other to_ rights more) w (.returned (.int .i64 23)) w):=λhc=>by
   rw[PS hf other to_ hc];exact⟨rfl,h,Kp.refl _ _⟩
  have y:aH (¬rights<0->fP (bJ C k).rt rights=rights->fP (bJ C k).rt more=more->gU C env from_ other to_ rights more=cY C other to_ (bJ C k).kd (bJ C k).ob rights (bJ C k).nu):=MY hf other to_;generalize gU C env from_ other to_ rights more=R at *;clear h hf;generalize bJ C k=x at *;obtain⟨r0,r1,J,Z,r4⟩:=x;simp only at c0 c1 c2 c3 c4 s y;obtain⟨a,ha⟩:∃a,bits .and .i64 J rights=a:=⟨_,rfl⟩
  obtain⟨b,hb⟩:∃b,bits .and .i64 J more=b:=⟨_,rfl⟩
  have t:aH (fP J rights=a/\fP J more=b):=⟨ha,hb⟩
  by_cases Q:rights<0
  .have f:=aP (s.o (.inl Q));clear s y;go_enter func248,ntmps248
   go_wp2_with fail
   refine aR e ?_;rintro x I ⟨rfl,rfl⟩;simp only[pM,aa4];go_wp2_with fail
   go_ret
   exact f.o
  .by_cases h1:a=rights
   .by_cases A:b=more
    .have B:=aP (y.o Q (t.o.1.trans h1) (t.o.2.trans A));clear s y t;subst h1;subst A;go_enter func248,ntmps248
     go_wp2_with fail
     refine aR e ?_;rintro x I ⟨rfl,rfl⟩;simp only[pM,aa4];go_upto_region 6 with(fail)
     have i:=bD c0;have j:=bD c1;refine bO (bS _) (λ_=>bS) [16] (λ_ v w=>EO (jA c0) 154 #[aU,aU,aU] v w) [13] [] 72 (bY _) (λ_ _ _ h z=>bU h z) (λ_ d hd _ v w w' _ h z=>h.keep z) aV aV bL ?_;repeat (first|(refine eA ?_)|(refine uG 16 [] bL bL bL bL (λγ w hC D=>?_) ?_;(simp only[cO];go_simp;exact p5 (aX w _) ⟨_,rfl,Below.size hC,bF.new w _ _⟩);(try refine dE ?_)))
     refine dC ?_;intro γ w_ hb_ D;clear i j;simp only[cO,Act.put,Zx,aaE,aaD];refine dP ?_;obtain⟨g16,S,E,G⟩:=D 16 aT;simp only[S];clear D S;refine iP E hb_ G rfl 154 _ _ rfl #[r0,r1, .int .i64 a] rfl rfl rfl aV aV ?_;clear E hb_ G;intro w5 l c;refine cI ?_;simp only[Act.put];obtain⟨L,c⟩:=c;have M:=P.o.keep l;have T:=aP (P.o.kp l);have v0:=c.cell 0 _ rfl;have v1:=c.cell 1 _ rfl;have v2:=c.cell 2 _ rfl;obtain⟨_,_,_,N,_⟩:=M.at_ hk;replace c3:=bG l c3;have O:=aP M;clear M l c L N;go_upto_region 7 with(fail)
     have m:=bD c3;have p:=bD v0;have q:=bD v1;have r:=bD v2;refine bO (bS _) (λ_=>bS) [] (λ_ _ _=>True) [8,9] [] 72 (bY _) (λ_ _ _ h z=>bU h z) (λ_ d hd _ v w w' _ h z=>by cases hd) aV aV bL ?_;repeat refine eA ?_
     refine dC ?_;intro γ w6 u D;clear m p q r;simp only[cO,Act.put,Zx,aaE,aaD];refine dP ?_;have U:=O.o.keep u;have H:=aP (FV U Y other to_ r0 r1 a Z);have V:=aP (T.o.trans (O.o.kp u));clear D U u O T v0 v1 v2;refine wpList_plain rfl (λK hK=>?_);go_wp2_with fail
     refine aR H ?_;rintro x w7 ⟨rfl,W,X⟩;have f:aH (BY F g R w (.returned (.int .i64 R.1)) w7):=by
      rw[B.o];exact⟨rfl,W,V.o.trans X⟩
     rw[<-B.o];clear W X V;refine hK _ _ ?_;clear hK K;try refine dE ?_
     refine wpList_plain rfl (λK hK=>?_);go_simp
     refine hK _ _ ?_;clear hK K;refine cI ?_;try refine dE ?_
     go_wp2_with fail
     go_ret
     exact f.o
    .have f:=aP (s.o (.inr (.inr (by rw[t.o.2];exact A))));clear s y t;have h2b:(b !=more)=true:=by simp[A]
     clear A;subst h1;go_enter func248,ntmps248
     go_wp2_with fail
     refine aR e ?_;rintro x I ⟨rfl,rfl⟩;simp only[pM,aa4];go_wp2_with fail
     go_ret
     exact f.o
   .have f:=aP (s.o (.inr (.inl (by rw[t.o.1];exact h1))));clear s y t;go_enter func248,ntmps248
    go_wp2_with fail
    refine aR e ?_;rintro x I ⟨rfl,rfl⟩;simp only[pM,aa4];go_wp2_with fail
    go_ret
    exact f.o
theorem XH(h:eG F w g C)(b:0<=C.n/\C.n<=1000000000000)(env from_ to_ rights:Int):aG prog 213 #[.pointer g,env,from_,to_,rights] w (BY F g (gU C env from_ env to_ rights 0) w):=by
 have c:=aP (PA h b env from_ env to_ rights 0);clear h;go_enter func213,ntmps213
 go_wp2_with fail
 refine aR c ?_;rintro x e ⟨rfl,a⟩;have d:=aP a;clear a;go_wp2_with fail
 go_ret
 exact⟨rfl,d.o⟩
theorem I0(h:eG F w g C)(b:0<=C.n/\C.n<=1000000000000)(env from_ other to_ rights:Int):aG prog 214 #[.pointer g,env,from_,other,to_,rights] w (BY F g (gU C env from_ other to_ rights 4) w):=by
 have c:=aP (PA h b env from_ other to_ rights 4);clear h;go_enter func214,ntmps214
 go_wp2_with fail
 refine aR c ?_;rintro x e ⟨rfl,a⟩;have d:=aP a;clear a;go_wp2_with fail
 go_ret
 exact⟨rfl,d.o⟩
end
end
variable{s:Sd}
section
section
def rQ(now:Int)(p:Pv):Pv:={p with sv:=p.sv.map λv=>kH v now p.rd}
def yT(p:Pv):Pv:={p with sv:=p.sv.map CG}
def FU(v:Sv):Option Int:=v.ch.head?.map Ck.de
def sW(p:Pv):Option Int:=p.sv.bind FU
def iO(P:List Pv):Nat->Option (Nat×Int)
 |0=>none
 |k+1=>match P[k]?.bind sW with
  |none=>iO P k
  |some d=>match iO P k with
   |none=>some (k,d)
   |some (j,e)=>if d<e then some (k,d) else some (j,e)
def AH(P:List Pv)(e:Nat):Bool:=match P[e]? with|some p=>p.rd|none=>false
def yQ(P:List Pv)(tu:Nat):Option Nat:=((List.range P.length).map λj=>(tu+j)%P.length).find? (AH P)
structure Rn where
 env:Int
 ch:Bool
def dY(s:Sd):Sd:={s with P:=s.P.map (rQ s.nw),b:=l7 s.b s.nw,nw:=s.nw+1}
def gH(s:Sd):Rn×Sd:=
 match iO (dY s).P s.P.length with
 |some (i,_)=>(⟨i,true⟩,{dY s with P:=(dY s).P.modify i yT})
 |none=>match yQ (dY s).P s.tu.toNat with
  |some e=>(⟨e,false⟩,{dY s with tu:=((e+1)%s.P.length:Nat)})
  |none=>(⟨-1,false⟩,dY s)
theorem BW(P:List Pv):∀(k:Nat) (j:Nat) (e:Int),iO P k=some (j,e)->j<k/\P[j]?.bind sW=some e
 |0,_,_,h=>by simp[iO] at h
 |k+1,j,e,h=>by
  unfold iO at h;cases hd:P[k]?.bind sW with
  |none=>
   rw[hd] at h;have:=BW P k j e h;exact⟨aQ,this.2⟩
  |some d=>
   rw[hd] at h;simp only at h;cases hk:iO P k with
   |none=>
    rw[hk] at h;simp at h;obtain⟨rfl,rfl⟩:=h;exact⟨aQ,hd⟩
   |some q=>
    obtain⟨a,b⟩:=q;rw[hk] at h;simp only at h;split at h
    .simp at h;obtain⟨rfl,rfl⟩:=h;exact⟨aQ,hd⟩
    .simp at h;obtain⟨rfl,rfl⟩:=h;have:=BW P k a b hk;exact⟨aQ,this.2⟩
theorem Ci{P:List Pv}{tu k:Nat}(hk:k<P.length)(h:∀j,j<k->AH P ((tu+j)%P.length)=false)(a:AH P ((tu+k)%P.length)=true):yQ P tu=some ((tu+k)%P.length):=by
 unfold yQ;have h1:List.find? (AH P∘λj=>(tu+j)%P.length) (List.range P.length)=some k:=List.find?_range_eq_some.2 ⟨a,by simpa using hk,λj b=>by simpa using h j b⟩;rw[List.find?_map,h1];rfl
theorem Cl{P:List Pv}{tu:Nat}(h:∀j,j<P.length->AH P ((tu+j)%P.length)=false):yQ P tu=none:=by
 unfold yQ;rw[List.find?_eq_none];intro x a;obtain⟨j,b,rfl⟩:=acL.1 a;rw[h j (ab1.1 b)];decide
theorem Ah{P:List Pv}{tu e:Nat}(h:yQ P tu=some e):e<P.length/\AH P e=true:=by
 unfold yQ at h;have h1:=List.find?_some h;obtain⟨j,a,rfl⟩:=acL.1 (ad2 h);exact⟨aeP _ (by have:=ab1.1 a;omega),h1⟩
theorem wW(s:Sd):(dY s).P.length=s.P.length:=abB ..
theorem gQ.Je(h:gQ s){p:Pv}(hp:p∈s.P){v:Sv}(a:p.sv=some v):rR s.nw (kH v s.nw p.rd)/\(AD v=false->AD (kH v s.nw p.rd)=false)/\(kH v s.nw p.rd).bu=v.bu/\(kH v s.nw p.rd).pe=v.pe:=by
 obtain⟨h1,_,b,c,d⟩:=(h.sv p hp v a).begin h.nw.1 p.rd;exact⟨h1,b,c,d⟩
theorem Pr(h:gQ s){p:Pv}(hp:p∈s.P)(hu:kU (rQ s.nw p)=true):kU p=true:=by
 unfold kU rQ at hu;unfold kU;cases a:p.sv with
 |none=>rw[a] at hu;cases hu
 |some v=>
  rw[a] at hu;simp only[aa4] at hu;cases h1:AD v with
  |true=>exact h1
  |false=>rw[(h.Je hp a).2.1 h1] at hu;cases hu
theorem IA(b:Bs)(now:Int):(l7 b now).L.length<=b.L.length/\(l7 b now).f=b.f:=by
 unfold l7;split
 .exact⟨Zw _,rfl⟩
 .exact⟨ac9 _ _,rfl⟩
theorem gQ.step(h:gQ s)(g:s.nw<1048576):gQ (dY s)/\((dY s).b.L.length+(dY s).P.countP kU:Int)<=s.nw:=by
 have hl:=wW s;have e:((dY s).b.L.length+(dY s).P.countP kU:Int)<=s.nw:=by
  have h1:=(IA s.b s.nw).1;have j:(s.P.map (rQ s.nw)).countP kU<=s.P.countP kU:=by
   rw[List.countP_map];exact List.countP_mono_left λp hp hu=>Pr h hp hu
  have k:=h.u9;show(((l7 s.b s.nw).L.length:Int)+((s.P.map (rQ s.nw)).countP kU:Int))<=s.nw;omega
 refine⟨⟨by rw[hl];exact h.n,λq hq v c=>?_,h.bk.Yi,⟨by show 0<=s.nw+1;have:=h.nw;omega,by show s.nw+1<=_;omega⟩,by rw[hl];exact h.tu,?_,by show _<=s.nw+1;omega,λi q hq=>?_,λi hi=>?_⟩,e⟩
 .obtain⟨p,hp,rfl⟩:=acL.1 hq;cases d:p.sv with
  |none=>simp[rQ,d] at c
  |some u=>
   simp[rQ,d] at c;subst c;exact(h.Je hp d).1.mono (by show _<=s.nw+1;omega)
 .have:=h.bn;show 0<=(l7 s.b s.nw).bn/\(l7 s.b s.nw).bn<=s.nw+1;unfold l7;split
  .omega
  .simp only;omega
 .show(l7 s.b s.nw).f i=_;rw[(IA s.b s.nw).2];have a:(s.P.map (rQ s.nw))[i]?=some q:=hq;rw[acS] at a;cases hp:s.P[i]? with
  |none=>rw[hp] at a;cases a
  |some p=>
   rw[hp] at a;simp at a;subst a;rw[h.has i p hp];cases c:p.sv with
   |none=>simp[rQ,c]
   |some v=>
    have:=h.Je (abV hp) c;simp[rQ,c,this.2.2]
 .show(l7 s.b s.nw).f i=_;rw[(IA s.b s.nw).2];exact h.o i (by rw[hl] at hi;exact hi)
theorem gQ.tick(h:gQ s)(E:s.nw<1048576):gQ (gH s).2:=by
 obtain⟨hs,hc⟩:=h.step E;unfold gH;split
 .rename_i i d he;obtain⟨hi,hd⟩:=BW _ _ _ _ he;simp only;generalize t:dY s=z at *;have y:z.nw=s.nw+1:=by rw[<-t];rfl
  cases hp:z.P[i]? with
  |none=>rw[hp] at hd;cases hd
  |some p=>
   rw[hp] at hd;cases k:p.sv with
   |none=>simp[sW,k] at hd
   |some v=>
    have g:∃x xs,v.ch=x::xs:=by
     cases g:v.ch with
     |nil=>simp[sW,k,FU,g] at hd
     |cons x xs=>exact⟨x,xs,rfl⟩
    obtain⟨x,xs,g⟩:=g;have A:rR s.nw v:=by
     have a:=hp;rw[<-t] at a;have c:(s.P.map (rQ s.nw))[i]?=some p:=a;rw[acS] at c;cases m:s.P[i]? with
     |none=>rw[m] at c;cases c
     |some p0=>
      rw[m] at c;simp at c;cases r:p0.sv with
      |none=>rw[<-c] at k;simp[rQ,r] at k
      |some v0=>
       rw[<-c] at k;simp[rQ,r] at k;subst k;exact(h.Je (abV m) r).1
    have D:=A.run g;have hl:(z.P.modify i yT).length=z.P.length:=ab0 ..;refine⟨by simp only;rw[hl];exact hs.n,λq hq u hu=>?_,hs.bk,hs.nw,by simp only;rw[hl];exact hs.tu,hs.bn,?_,λj q hq=>?_,λj B=>hs.o j (by simpa only[hl] using B)⟩
    .obtain⟨j,B,rfl⟩:=aa1 hq;obtain⟨C,a,he⟩:=get_modify (Zv B);by_cases l:j=i
     .subst l;rw[hp] at a;injection a with a;subst a;rw[Zz rfl] at he;rw[he] at hu;simp[yT,k] at hu;subst hu;rw[show({z with P:=z.P.modify j yT}:Sd).nw=s.nw+1 from y];exact D.1
     .rw[aaA l] at he;rw[he] at hu;exact hs.sv C (abV a) u hu
    .have h1:=sU (f:=yT) hp;have F:(if kU (yT p)=true then 1 else 0)<=1:=by split <;> omega
     show((z.b.L.length:Int)+((z.P.modify i yT).countP kU:Int))<=z.nw;omega
    .obtain⟨C,a,he⟩:=get_modify hq;have:=hs.has j C a;rw[he];simp only;rw[this];split
     .rename_i l;subst l;rw[hp] at a;injection a with a;subst a;simp[yT,k,D.2]
     .rfl
 .split
  .rename_i e he;have:=Ah he;rw[wW] at this;exact⟨hs.n,hs.sv,hs.bk,hs.nw,⟨by show(0:Int)<=((e+1)%s.P.length:Nat);omega,by show(((e+1)%s.P.length:Nat):Int)<(dY s).P.length;rw[wW];have:=aeP (e+1) (show 0<s.P.length by omega);omega⟩,hs.bn,hs.u9,hs.has,hs.o⟩
  .exact hs
end
end
section
open Go.RowKit Go.Lib Go.Shelf
variable{F:Nat->Prop}{w:aA}{g:Nat}
section
theorem XN(w:aA)(now:Int)(rd:Bool):aG prog 112 #[pH,now,rd] w λe w'=>e= .returned (.bool false)/\w=w':=by
 go_enter func112,ntmps112
 go_wp2_with fail
 go_ret
 exact⟨rfl,rfl⟩
def QZ(o:Option (Nat×Int)):Int:=match o with|none=> -1|some (j,_)=>j
def Yw(o:Option (Nat×Int)):Int:=match o with|none=>0|some (_,e)=>e
theorem SR{P:List Pv}{k:Nat}(h:P[k]?.bind sW=none):iO P (k+1)=iO P k:=by
 show(match P[k]?.bind sW with|none=>iO P k|some d=>_)=_;rw[h]
theorem Eu{P:List Pv}{k:Nat}{d:Int}(h:P[k]?.bind sW=some d):iO P (k+1)=match iO P k with
 |none=>some (k,d)
 |some (j,e)=>if d<e then some (k,d) else some (j,e):=by
 show(match P[k]?.bind sW with|none=>iO P k|some d=>_)=_;rw[h];try rfl
theorem RC(h:lS F w g s)(L:s.P.length<=8)(hl:∀p∈s.P,∀v,p.sv=some v->v.ch.length<=4000000):aG prog 113 #[.pointer g] w λe w'=>e= .returned (.int .i64 (QZ (iO s.P s.P.length)))/\w=w':=by
 obtain⟨U,q,R,M,B,d,h⟩:=h;have c0:=h.c0;have H:=aP h;have N:=aP hl;obtain⟨n,E⟩:∃n,n=s.P.length:=⟨_,rfl⟩
 rw[<-E] at c0 L;have O:=aP E;have A:aH (QZ (iO s.P n)=QZ (iO s.P s.P.length)):=by unfold aH;rw[<-E]
 generalize QZ (iO s.P s.P.length)=res at *;clear h hl E;go_enter func113,ntmps113
 go_wp2_with fail
 go_loop [3,4,13] (λv3 v4 t=>∃(k:Nat) (x y:Int),t= .int .i64 k/\v3= .int .i64 x/\v4= .int .i64 y/\k<=n/\aH (x=QZ (iO s.P k)/\y=Yw (iO s.P k))) (λ_ _ t=>n - (aL t).toNat)
 case atStart=>exact⟨0, -1,0,rfl,rfl,rfl,aaH _,rfl,rfl⟩
 case round=>
  obtain⟨k,x,y,rfl,rfl,rfl,hk,f⟩:=hrel;by_cases I:k<n
  .have i:k<s.P.length:=by rw[<-O.o];exact I
   have C:k<R.length:=by rw[H.o.len];exact i
   obtain⟨p0,p1,_,_⟩:=H.o.pl C;have V:(0:Int)<=k:=aQ;have Q:(k:Int)<(n:Int):=aQ;have c:=H.o.ml k C i;have l:s.P[k]?=some s.P[k]:=Zv i;have HD:aH (s.P[k]?.bind sW=s.P[k].sv.bind FU):=by unfold aH;rw[l];rfl
   cases m:s.P[k].sv with
   |none=>
    rw[c.2.1 m] at p0;replace p0:w.cell? (q,k *2)=some (.pointer none):=p0;have r:aH (iO s.P (k+1)=iO s.P k):=SR (by rw[HD.o,m];rfl);clear c m HD l;go_wp2_with fail
    refine aS (OC w) ?_;rintro e G ⟨rfl,rfl⟩;go_wp2_with fail
    go_round
    case rel=>exact⟨k+1,x,y,by go_num,rfl,rfl,aQ,by show _/\_;rw[r.o];exact f.o⟩
    case measure=>simp[aL];omega
   |some v=>
    obtain⟨a,ha,hs⟩:=c.2.2 v m;rw[ha] at p0;replace p0:w.cell? (q,k *2)=some (.pointer a):=p0;have u:=aP (MW hs (N.o _ (aaF i) v m));cases hc:v.ch with
    |nil=>
     have r:aH (iO s.P (k+1)=iO s.P k):=SR (by rw[HD.o,m];simp[FU,hc]);rw[hc] at u;clear c m HD l hs;go_wp2_with fail
     refine aR u ?_;rintro e G ⟨rfl,rfl⟩;go_wp2_with fail
     go_round
     case rel=>exact⟨k+1,x,y,by go_num,rfl,rfl,aQ,by show _/\_;rw[r.o];exact f.o⟩
     case measure=>simp[aL];omega
    |cons z zs=>
     have b:=aP (Eu (P:=s.P) (k:=k) (d:=z.de) (by rw[HD.o,m];simp[FU,hc]));replace u:aH (aG prog 116 #[.pointer a] w λe w'=>e= .returned (.tuple #[z.de,true])/\w=w'):=by
      have:=u.o;rw[hc] at this;exact this
     clear c m HD l hs hc;cases he:iO s.P k with
     |none=>
      have r:aH (iO s.P (k+1)=some (k,z.de)):=by unfold aH;rw[b.o,he]
      have S:x= -1:=by rw[f.o.1,he];rfl
      clear he b f;subst S;generalize z.de=D at *;go_wp2_with fail
      refine aR u ?_;rintro e G ⟨rfl,rfl⟩;go_wp2_with fail
      go_round
      case rel=>exact⟨k+1,k,D,by go_num,rfl,rfl,aQ,by show _/\_;rw[r.o];exact⟨rfl,rfl⟩⟩
      case measure=>simp[aL];omega
     |some T=>
      obtain⟨j,e⟩:=T;have J:x=j/\y=e:=by rw[f.o.1,f.o.2,he];exact⟨rfl,rfl⟩
      obtain⟨rfl,rfl⟩:=J;have W:¬(j:Int)= -1:=aQ;by_cases hd:z.de<y
      .have r:aH (iO s.P (k+1)=some (k,z.de)):=by unfold aH;rw[b.o,he];simp only;rw[Zz hd]
       clear he b f;generalize z.de=D at *;go_wp2_with fail
       refine aR u ?_;rintro e G ⟨rfl,rfl⟩;go_wp2_with fail
       go_round
       case rel=>exact⟨k+1,k,D,by go_num,rfl,rfl,aQ,by show _/\_;rw[r.o];exact⟨rfl,rfl⟩⟩
       case measure=>simp[aL];omega
      .have r:aH (iO s.P (k+1)=some (j,y)):=by unfold aH;rw[b.o,he];simp only;rw[aaA hd]
       clear he b f;generalize z.de=D at *;have DP:decide (D<y)=false:=aaP hd;clear hd;go_wp2_with fail
       refine aR u ?_;rintro e G ⟨rfl,rfl⟩;go_wp2_with fail
       go_round
       case rel=>exact⟨k+1,j,y,by go_num,rfl,rfl,aQ,by show _/\_;rw[r.o];exact⟨rfl,rfl⟩⟩
       case measure=>simp[aL];omega
  .obtain rfl:k=n:=aQ;have Q:¬(k:Int)<(k:Int):=aQ;have K:=aP f.o.1;clear f;go_wp2_with fail
   go_ret
   exact⟨by rw[<-A.o,<-K.o];rfl,rfl⟩
end
variable{i q2 q:Nat}{T:Int}{w1 w2:aA}
section
def tN(now:Int)(P:List Pv)(k:Nat):List Pv:=P.mapIdx λi p=>if i<k then rQ now p else p
theorem n9(now:Int)(P:List Pv)(k:Nat):(tN now P k).length=P.length:=List.length_mapIdx
theorem vH{now:Int}{P:List Pv}{k:Nat}(hi:i<P.length):(tN now P k)[i]'(by rw[n9];exact hi)=if i<k then rQ now P[i] else P[i]:=List.getElem_mapIdx ..
theorem Cm(now:Int)(P:List Pv):tN now P 0=P:=ab8 (n9 ..) λi h1 a=>by rw[vH a,aaA (acH _)]
theorem Mh(now:Int)(P:List Pv):tN now P P.length=P.map (rQ now):=ab8 (by rw[n9,abB]) λi h1 a=>by
 rw[n9] at h1;rw[vH h1,Zz h1,List.getElem_map]
theorem RL{now:Int}{P:List Pv}{k:Nat}(hk:k<P.length):(tN now P k).set k (rQ now P[k])=tN now P (k+1):=ab8 (by rw[aaL,n9,n9]) λi h1 b=>by
 rw[n9] at b;rw[abA];split
 .rename_i e;subst e;rw[vH b,Zz (Nat.lt_succ_self _)]
 .rw[vH b,vH b];rename_i e;by_cases a:i<k
  .rw[Zz a,Zz aQ]
  .rw[aaA a,aaA aQ]
theorem Io{now:Int}{P:List Pv}{k:Nat}(hk:k<P.length)(h:rQ now P[k]=P[k]):tN now P (k+1)=tN now P k:=by
 rw[<-RL hk,h];refine ab8 (by rw[aaL]) λi h1 a=>?_
 rw[n9] at a;rw[abA];split
 .rename_i e;subst e;rw[vH a,aaA (abX _)]
 .rfl
section
variable{F:Nat->Prop}{w w':aA}{ow:Nat->Nat}{g q d:Nat}{s:Sd}{R:List Pm}{M:Option Nat}{B:Option aJ}
theorem iQ.O0(h:iQ F w g s ow q R M B d)(v:Int):iQ F (w.setCell (g,5) v) g {s with nw:=v} (nx w ow 1) q R M B d/\Kp F w (w.setCell (g,5) v):=by
 obtain⟨h1,a⟩:=h.bk.cells (bn':=s.b.bn) (us':=s.b.us) (nw':=v) (tu':=s.tu) (aZ (bK w g) 5 _) (by have:=h.bk.b.bX 5 v;simpa[GD] using this);exact h.JH h1 a
theorem iQ.Ux(h:iQ F w g s ow q R M B d)(v:Int):iQ F (w.setCell (g,6) v) g {s with tu:=v} (nx w ow 1) q R M B d/\Kp F w (w.setCell (g,6) v):=by
 obtain⟨h1,a⟩:=h.bk.cells (bn':=s.b.bn) (us':=s.b.us) (nw':=s.nw) (tu':=v) (aZ (bK w g) 6 _) (by have:=h.bk.b.bX 6 v;simpa[GD] using this);exact h.JH h1 a
theorem iQ.f5(h:iQ F w g s ow q R M B d):w.frozen? (g,5)=false/\w.frozen? (g,6)=false:=⟨h.bk.b.frozen 5,h.bk.b.frozen 6⟩
end
theorem rR.Ul{s:Sv}{x:Ck}{xs:List Ck}(h:rR T s)(i:T<=1048576)(hs:s.ch=x::xs):(∀r∈s.rf,r.at_<=x.de)/\(1<=x.lf/\x.lf<=1048576)/\(0<=x.us/\x.us<=1048576)/\0<=s.cg/\s.cg<=1048576:=by
 have a:x∈s.ch:=by rw[hs];simp
 have h1:=h.b.ch x a;have c:=h.b.all;have j:=h.b.bu;have k:=h.b.av;have m:=F7 h.b.rf;have n:=MC (l:=xs) λy e=>h.b.ch y (by rw[hs];simp[e])
 have o:=h.cg;rw[hs,oD] at c;exact⟨λr f=>h.b.BI r f x a,aQ,aQ,aQ⟩
theorem modify_eq{l:List Pv}{f:Pv->Pv}(hi:i<l.length):l.modify i f=l.set i (f l[i]):=ab8 (by rw[ab0,aaL]) λj h1 a=>by
 rw[List.getElem_modify,abA];split
 .rename_i e;subst e;rfl
 .rfl
def Te(F:Nat->Prop)(g:Nat)(s:Sd)(w:aA)(e:aM)(w':aA):Prop:=e= .returned (.tuple #[.agg #[.int .i64 (gH s).1.env, .bool (gH s).1.ch],true])/\lS F w' g (gH s).2/\Kp F w w'
theorem PW{s':Sd}{x:Rn}(h:lS (Fb F q2) w2 g s')(hq:¬F q2)(k:Kp F w w1)(e:Kp (Fb F q2) w1 w2)(a b:aC)(f:gH s=(x,s')):Te F g s w (.returned (.tuple #[.agg #[x.env,x.ch],true])) ((w2.setCell (q2,0) a).setCell (q2,1) b):=by
 have c:w2.grownBy ((w2.setCell (q2,0) a).setCell (q2,1) b) (some q2):=aZ (aZ (bK _ _) 0 _) 1 _;have fl:Ol F w2:=λb hb=>h.fl b (.inl hb)
 unfold Te;rw[f];exact⟨rfl,(lS.cD g s').unbox h fl c,(k.trans e.unbox).trans (fl.self hq c)⟩
theorem LX{t:TypeId}{x y:aC}(h:bF w q t #[x,y])(a b:aC):((w.setCell (q,0) a).setCell (q,1) b).cell? (q,0)=some a/\((w.setCell (q,0) a).setCell (q,1) b).cell? (q,1)=some b:=by
 have h1:=(h.bX 0 a).bX 1 b;exact⟨h1.cell 0 _ aT,h1.cell 1 _ aT⟩
theorem YX(h:lS F w g s)(hI:gQ s)(hnw:s.nw<1048576):aG prog 77 #[.pointer g] w (Te F g s w):=by
 have fl:=h.fl;have h1:=(lS.cD g s).box h fl (aI #[aU,false] 69);have xb:=bF.new w 69 #[aU,false];have kk1:=fl.below (aX w (aI #[aU,false] 69));have hFq:¬F w.heap.size:=λhf=>abX _ (fl _ hf)
 clear h fl;obtain⟨n,hn⟩:∃n,n=s.P.length:=⟨_,rfl⟩
 have hn8:n<=8/\1<=n:=by have:=hI.n;omega
 have HN:=aP hn;have hw0:=hI.nw;have HI:=aP hI;clear hn hI;go_enter func77,ntmps77
 go_upto_region 1 with(fail)
 generalize w.alloc (aI #[aU,false] 69)=w1 at *;generalize w.heap.size=q2 at *;obtain⟨ow,q,R,M,B,d,h⟩:=h1;have c5:=h.c5;obtain⟨u,hu⟩:∃u,u=s.nw:=⟨_,rfl⟩
 rw[<-hu] at c5 hw0 hnw;have HU:=aP hu;have hu1:¬(1048576:Int)<=u:=aQ;clear hu;have HH:=aP h;have HK1:=aP kk1;clear h kk1;go_upto_region 3 with(fail)
 have c:=bD c5;refine bO (bS _) (λ_=>bS) [] (λ_ _ _=>True) [7] [] 121 (bY _) (λ_ _ _ h hz=>bU h hz) (λ_ d hd _ v w w' _ h hz=>by cases hd) aV aV bL ?_;repeat refine eA ?_
 refine dC ?_;intro γ w5 hb5 hT;clear c;simp only[cO,Act.put,Zx,aaE,aaD];refine dP ?_;obtain⟨Z,k5⟩:=HH.o.keep hb5;have HA:=RE Z.bk HI.o.bk s.nw (by have:=HI.o.len;omega);rw[<-HU.o] at HA;have HA':=aP HA;have H5:=bN Z k5;clear hT HA Z k5 hb5;refine wpList_plain rfl (λK hK=>?_);go_wp2_with fail
 refine aR HA' ?_;rintro e w6 ⟨⟨v6,rfl⟩,⟨M6,B6,d6,m6⟩,k6⟩;obtain⟨h6,kk6⟩:=H5.o.1.JH m6 k6;have hk6:=H5.o.2.trans kk6;have xb6:=hk6.aY xb (.inr rfl);have H6:=aP h6;have HK6:=aP hk6;have c0:=h6.c0;clear H5 HA' m6 k6 kk6 hk6 h6 HH xb;generalize nx w5 (nx w1 ow 0) 1=ow6 at *;clear ow;rw[show({s with b:=l7 s.b u,nw:=s.nw,tu:=s.tu}:Sd).P.length=n from HN.o.symm] at c0;refine hK _ _ ?_;clear hK K;refine cI ?_;try refine dE ?_
 clear c5 w5;go_upto_region 4 with(fail)
 go_wp2_with fail
 go_loopw [31] (λv31 wr=>∃(k:Nat) (ow:Nat->Nat),v31= .int .i64 k/\k<=n/\aH (iQ (Fb F q2) wr g {s with P:=tN u s.P k,b:=l7 s.b u,nw:=u} ow q R M6 B6 d6/\Kp (Fb F q2) w6 wr)) (λv31 _=>n - (aL v31).toNat)
 case atStart=>exact⟨0,ow6,rfl,aaH _,by show _/\_;rw[Cm];exact⟨H6.o,Kp.refl _ _⟩⟩
 case round=>
  clear c0;obtain⟨k,owk,rfl,hk,S⟩:=hrel;have hRl:R.length=n:=by have:=S.o.1.len;rw[n9] at this;rw[HN.o];exact this
  have c0:=S.o.1.c0;rw[show({s with P:=tN u s.P k,b:=l7 s.b u,nw:=u}:Sd).P.length=n from(n9 ..).trans HN.o.symm] at c0;by_cases hkn:k<n
  .have U:k<s.P.length:=by rw[<-HN.o];exact hkn
   have hkR:k<R.length:=by rw[hRl];exact hkn
   have hkb:k<(tN u s.P k).length:=by rw[n9];exact U
   have c5:wr.cell? (g,5)=some (.int .i64 u):=S.o.1.c5;obtain⟨p0,p1,_,_⟩:=S.o.1.pl hkR;have k0:(0:Int)<=k:=aQ;have k1:(k:Int)<(n:Int):=aQ;have y:=S.o.1.ml k hkR hkb;have E:(tN u s.P k)[k]=s.P[k]:=by rw[vH U,aaA (abX _)]
   have L:R[k].rd=s.P[k].rd:=by rw[<-E];exact y.1
   rw[L] at p1;cases r:s.P[k].sv with
   |none=>
    rw[y.2.1 (by rw[E];exact r)] at p0;replace p0:wr.cell? (q,k *2)=some (.pointer none):=p0;have HE:aH (tN u s.P (k+1)=tN u s.P k):=Io U (by unfold rQ;rw[r];cases hp:s.P[k];rw[hp] at r;simp at r;simp[r]);clear y r E L;generalize s.P[k].rd=rd at *;go_upto_region 7 with(fail)
    have z:=bD c0;have c:=bD c5;have A:=bD p0;have C:=bD p1;refine bO (bS _) (λ_=>bS) [] (λ_ _ _=>True) [20] [[20,7,6,5,3], [20,19,18,17,15]] 121 (bY _) (λ_ _ _ h hz=>bU h hz) (λ_ d hd _ v w w' _ h hz=>by cases hd) aV aV bL ?_;repeat refine eA ?_
    refine dC ?_;intro γ w5 hb5 hT;clear z c A C;simp only[cO,Act.put,Zx,aaE,aaD];refine dP ?_;obtain⟨Z,k5⟩:=S.o.1.keep hb5;have H5:=bN Z (S.o.2.trans k5);clear hT Z k5 hb5;refine wpList_plain rfl (λK hK=>?_);go_wp2_with fail
    refine aS (XN w5 u rd) ?_;rintro e w6 ⟨rfl,rfl⟩;refine hK _ _ ?_;clear hK K;refine cI ?_;try refine dE ?_
    go_wp2_with fail
    go_roundw
    case rel=>exact⟨k+1,_,by go_num,aQ,by show _/\_;rw[HE.o];exact H5.o⟩
    case measure=>simp[aL];omega
   |some v=>
    obtain⟨a,ha,hs⟩:=y.2.2 v (by rw[E];exact r);rw[ha] at p0;replace p0:wr.cell? (q,k *2)=some (.pointer a):=p0;have G:=HI.o.sv _ (aaF U) v r;have HE:aH ((tN u s.P k).set k {(tN u s.P k)[k] with sv:=some (kH v u s.P[k].rd)}=tN u s.P (k+1)):=by
     unfold aH;rw[<-RL U,E];unfold rQ;rw[r];rfl
    have HV:=aP G;have HA:=aP ha;have HG:aH ((tN u s.P k)[k].sv=some v):=by unfold aH;rw[E];exact r
    clear y r E L ha G hs;generalize s.P[k].rd=rd at *;go_upto_region 7 with(fail)
    have z:=bD c0;have c:=bD c5;have A:=bD p0;have C:=bD p1;refine bO (bS _) (λ_=>bS) [] (λ_ _ _=>True) [20] [[20,7,6,5,3], [20,19,18,17,15]] 121 (bY _) (λ_ _ _ h hz=>bU h hz) (λ_ d hd _ v w w' _ h hz=>by cases hd) aV aV bL ?_;repeat refine eA ?_
    refine dC ?_;intro γ w5 hb5 hT;clear z c A C;simp only[cO,Act.put,Zx,aaE,aaD];refine dP ?_;obtain⟨Z,k5⟩:=S.o.1.keep hb5;obtain⟨a',ha',hs5⟩:=(Z.ml k hkR hkb).2.2 v HG.o;obtain rfl:a=a':=by have:=HA.o;rw[ha'] at this;injection this with this;exact this.symm
    have HB:=aP (Bf hs5 u rd HV.o.b (by have:=HV.o.nw;have:=HU.o;omega) aQ HV.o.nw.1 (by have:=HV.o.len;omega));have H5:=bN Z (S.o.2.trans k5);clear hT Z k5 hb5 ha' hs5;refine wpList_plain rfl (λK hK=>?_);go_wp2_with fail
    refine aR HB ?_;rintro e w6 ⟨rfl,hs6,k6⟩;obtain⟨h7,k7⟩:=H5.o.1.Jc hkb hkR HA.o HG.o hs6 k6;have H7:=bN h7 (H5.o.2.trans k7);clear h7 k7 hs6 k6 H5 HB;refine hK _ _ ?_;clear hK K;refine cI ?_;try refine dE ?_
    go_wp2_with fail
    go_roundw
    case rel=>exact⟨k+1,_,by go_num,aQ,by have:=H7.o;rw[HE.o] at this;exact this⟩
    case measure=>simp[aL];omega
  .obtain rfl:k=n:=aQ;have k1:¬(k:Int)<(k:Int):=aQ;have hall:tN u s.P k=s.P.map (rQ u):=by rw[HN.o];exact Mh _ _
   obtain⟨h8,k8⟩:=S.o;obtain⟨h9,k9⟩:=h8.O0 (u+1);have c5:wr.cell? (g,5)=some (.int .i64 u):=h8.c5;have f5:=h8.f5.1;have V:({s with P:=tN u s.P k,b:=l7 s.b u,nw:=u+1}:Sd)=dY s:=by
    rw[hall,HU.o];rfl
   rw[V] at h9;have H9:=aP h9;have HK9:=aP (k8.trans k9);have H:=(k8.trans k9).aY xb6 (.inr rfl);obtain⟨hSI,_⟩:=HI.o.step (by rw[<-HU.o];exact hnw);have HSI:=aP hSI;have f:aH ((dY s).P.length=k):=by unfold aH;rw[wW];exact HN.o.symm
   have HEa:=aP (RC (F:=Fb F q2) (w:=wr.setCell ⟨g,5,none⟩ (.int .i64 (u+1))) ⟨_,_,_,_,_,_,h9⟩ (by rw[f.o];exact hn8.1) (λp hp v r=>by have:=(hSI.sv p hp v r).len;omega));clear h8 k8 h9 k9 hall V hSI S H6 xb6 hRl;generalize nx wr owk 1=ow9 at *;clear owk;have HT:aH (gH s=match iO (dY s).P k with
    |some (i,_)=>(⟨i,true⟩,{dY s with P:=(dY s).P.modify i yT})
    |none=>match yQ (dY s).P s.tu.toNat with
     |some e=>(⟨e,false⟩,{dY s with tu:=((e+1)%k:Nat)})
     |none=>(⟨-1,false⟩,dY s)):=by
    unfold aH;rw[HN.o];rfl
   have hEL:iO (dY s).P (dY s).P.length=iO (dY s).P k:=by rw[f.o]
   rw[hEL] at HEa;clear hEL;go_upto_region 10 with(fail)
   generalize wr.setCell (g,5) (.int .i64 (u+1))=w9 at *;go_wp2_with fail
   refine aR HEa ?_;rintro e w10 ⟨rfl,rfl⟩;clear HEa c5 f5 c0;have x0:=H.cell 0 (.int .i64 0) rfl;have x1:=H.cell 1 (.bool false) rfl;have y0:=H.frozen 0;have y1:=H.frozen 1;have c0:=H9.o.c0;rw[f.o] at c0;cases he:iO (dY s).P k with
   |some jd=>
    obtain⟨i,dd⟩:=jd;rw[he] at HT;obtain⟨hik,hdd⟩:=BW _ _ _ _ he;have N:i<(dY s).P.length:=by rw[f.o];exact hik
    have hiR:i<R.length:=by rw[H9.o.len];exact N
    rw[Zv N] at hdd;cases r:(dY s).P[i].sv with
    |none=>simp[sW,r] at hdd
    |some v=>
     have I:∃x xs,v.ch=x::xs:=by
      cases I:v.ch with
      |nil=>simp[sW,r,FU,I] at hdd
      |cons x xs=>exact⟨x,xs,rfl⟩
     obtain⟨x,xs,I⟩:=I;obtain⟨p0,_,_,_⟩:=H9.o.pl hiR;obtain⟨a,ha,hs⟩:=(H9.o.ml i hiR N).2.2 v r;rw[ha] at p0;replace p0:w9.cell? (q,i *2)=some (.pointer a):=p0;have G:=HSI.o.sv _ (aaF N) v r;have hnn:(dY s).nw<=1048576:=HSI.o.nw.2;obtain⟨r1,r2,r3,r4⟩:=G.Ul hnn I;have HB:=aP (Gd hs I r1 (by have:=G.len;omega) (by have:=G.len;omega) r2 r3 r4);have HV:=aP r;have HA:=aP ha;have i0:(0:Int)<=i:=aQ;have i1:(i:Int)<(k:Int):=aQ;clear r1 r2 r3 r4 G hs ha r hdd I hnn he HSI;simp only[QZ];go_wp2_with fail
     refine aR HB ?_;rintro e w11 ⟨rfl,hs11,X⟩;obtain⟨O,J⟩:=H9.o.Jc N hiR HA.o HV.o hs11 X;have hm:(dY s).P.set i {(dY s).P[i] with sv:=some (CG v)}=(dY s).P.modify i yT:=by
      rw[modify_eq N];unfold yT;rw[HV.o];rfl
     rw[hm] at O;have D:=J.aY H (.inr rfl);have hE:=PW (s:=s) (x:=⟨i,true⟩) ⟨_,_,_,_,_,_,O⟩ hFq HK1.o (HK6.o.trans (HK9.o.trans J)) (.int .i64 i) (.bool true) HT.o;have HE:=aP hE;clear hE O J hm hs11 X x0 x1 y0 y1 H HB;have x0:=D.cell 0 (.int .i64 0) rfl;have x1:=D.cell 1 (.bool false) rfl;have y0:=D.frozen 0;have y1:=D.frozen 1;go_wp2_with fail
     have hE:=HE.o;obtain⟨z0,z1⟩:=LX D (.int .i64 i) (.bool true);clear HE;generalize (w11.setCell (q2,0) i).setCell (q2,1) (.bool true)=W at *;refine bodyPost_ret (v:= .tuple #[.agg #[i,true],true]) ?_ rfl hE;simp[z0,z1,results,results77,go_sem]
   |none=>
    rw[he] at HT;have c6:w9.cell? (g,6)=some (.int .i64 s.tu):=H9.o.c6;have f6:=H9.o.f5.2;have htu:=HI.o.tu;rw[<-HN.o] at htu;obtain⟨T,hT⟩:=aaB htu.1;rw[hT] at c6 htu HT;have hTk:T<k:=aQ;have HTT:aH ((dY s).tu=(T:Int)):=hT;clear htu hT he x0 x1 y0 y1;simp only[QZ];go_upto_region 14 with(fail)
    go_wp2_with fail
    go_loopw [83] (λv83 wz=>∃j:Nat,v83= .int .i64 j/\j<=k/\aH (∀m,m<j->AH (dY s).P ((T+m)%k)=false)/\Below w9 w9 wz) (λv83 _=>k - (aL v83).toNat)
    case atStart=>exact⟨0,rfl,aaH _,λm hm=>absurd hm (acH _),Below.refl _ _⟩
    case round=>
     clear c0 c6 f6;obtain⟨j,rfl,hj,HJ,hB⟩:=hrel;obtain⟨l,Y⟩:=H9.o.keep hB;have t:=Y.aY H (.inr rfl);have x0:=t.cell 0 (.int .i64 0) rfl;have x1:=t.cell 1 (.bool false) rfl;have y0:=t.frozen 0;have y1:=t.frozen 1;have c0:=l.c0;rw[f.o] at c0;have c6:wr.cell? (g,6)=some (.int .i64 T):=by rw[<-HTT.o];exact l.c6
     have f6:=l.f5.2;have hBB:=aP hB;clear hB;by_cases hjk:j<k
     .have j0:(0:Int)<=j:=aQ;have j1:(j:Int)<(k:Int):=aQ;obtain⟨m,hm⟩:∃m,m=(T+j)%k:=⟨_,rfl⟩
      have hmk:m<k:=by rw[hm];exact aeP _ aQ
      have hrem:Int.tmod ((T:Int)+(j:Int)) (k:Int)=(m:Int):=by rw[hm,<-Int.natCast_add,Int.ofNat_tmod]
      have y:m<(dY s).P.length:=by rw[f.o];exact hmk
      have hmR:m<R.length:=by rw[l.len];exact y
      obtain⟨_,p1,_,_⟩:=l.pl hmR;have m0:(0:Int)<=m:=aQ;have m1:(m:Int)<(k:Int):=aQ;have L:R[m].rd=AH (dY s).P m:=by
       rw[(l.ml m hmR y).1];unfold AH;rw[Zv y]
      rw[L] at p1;have HM:=aP hm;have H10:=aP l;have K10:=aP Y;clear L hm l Y;cases Q:AH (dY s).P m
      .rw[Q] at p1;have HRR:=aP Q;clear Q;go_upto_region 17 with(fail)
       go_quiet (fail)
       go_wp2_with fail
       go_roundw
       case rel=>
        refine⟨j+1,by go_num,aQ,λi hi=>?_,fD hBB.o _⟩;by_cases hij:i<j
        .exact HJ.o i hij
        .obtain rfl:i=j:=aQ;rw[<-HM.o];exact HRR.o
       case measure=>simp[aL];omega
      .rw[Q] at p1;have HRR:=aP Q;clear Q;go_upto_region 17 with(fail)
       go_quiet (fail)
       go_wp2_with fail
       have hnx:yQ (dY s).P T=some m:=by
        have:=Ci (P:=(dY s).P) (tu:=T) (k:=j) (by rw[f.o];exact hjk) (by rw[f.o];exact HJ.o) (by rw[f.o,<-HM.o];exact HRR.o);rw[f.o,<-HM.o] at this;exact this
       obtain⟨h11,X⟩:=H10.o.keep (w':=wr.drewN nq) (fD (Below.refl _ _) nq);obtain⟨O,J⟩:=h11.Ux (((m:Int)+1)%(k:Int));have hc:(((m:Int)+1)%(k:Int))=(((m+1)%k:Nat):Int):=aT;have hE:=PW (s:=s) (x:=⟨m,false⟩) ⟨_,_,_,_,_,_,O⟩ hFq HK1.o (HK6.o.trans (HK9.o.trans (K10.o.trans (X.trans J)))) (.int .i64 m) (.bool false) (by rw[HT.o];simp only[aaG];rw[hnx,hc]);obtain⟨z0,z1⟩:=LX ((X.trans J).aY t (.inr rfl)) (.int .i64 m) (.bool false);clear O J;generalize (((wr.drewN nq).setCell (g,6) (.int .i64 (((m:Int)+1)%(k:Int)))).setCell (q2,0) (.int .i64 m)).setCell (q2,1) (.bool false)=W at *;refine bodyPost_ret (v:= .tuple #[.agg #[.int .i64 m,false],true]) ?_ rfl hE;simp[z0,z1,results,results77,go_sem]
     .obtain rfl:j=k:=aQ;have j1:¬(j:Int)<(j:Int):=aQ;have H10:=aP l;have K10:=aP Y;clear l Y;go_wp2_with fail
      have hnx:yQ (dY s).P T=none:=Cl (by rw[f.o];exact HJ.o);have hE:=PW (s:=s) (x:=⟨-1,false⟩) ⟨_,_,_,_,_,_,H10.o⟩ hFq HK1.o (HK6.o.trans (HK9.o.trans K10.o)) (.int .i64 (-1)) (.bool false) (by rw[HT.o];simp only[aaG];rw[hnx]);obtain⟨z0,z1⟩:=LX t (.int .i64 (-1)) (.bool false);generalize (wr.setCell (q2,0) (.int .i64 (-1))).setCell (q2,1) (.bool false)=W at *;refine bodyPost_ret (v:= .tuple #[.agg #[.int .i64 (-1),false],true]) ?_ rfl hE;simp[z0,z1,results,results77,go_sem]
end
end
end Go.Proofs.YtacgiflhgdaeaaaGreat
