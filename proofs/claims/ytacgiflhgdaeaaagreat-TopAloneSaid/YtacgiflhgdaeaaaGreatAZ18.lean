/- Texts laid as one. -/
import Derived.Test.YtacgiflhgdaeaaaGreatAZ15
import Derived.Test.YtacgiflhgdaeaaaGreatAZ17
set_option linter.unusedVariables false
set_option linter.unusedSimpArgs false
set_option maxRecDepth 100000
set_option maxHeartbeats 20000000
namespace Go.Proofs.YtacgiflhgdaeaaaGreat
open Go.Proofs.Tryz
open Go renaming World->aA,Value->aC,Calls->aG
open Go.RowKit renaming Below->aD,Hid->aH,intOf->aL
open Go.Obj renaming cells->aI
section
open Go.RowKit Go.Lib Go.Shelf dF
variable{F:Nat->Prop}{w:aA}{g:Nat}{L:List En}
section
namespace Df
variable{F:Nat->Prop}{w:aA}{g q b1 b2:Nat}{L:List En}{h:Int}{f:FuncId}{v1 v2:aC}
theorem Mt{c:Nat}{m:Int}{gz:En->Bool}(K:R0 f gz b1 b2 v1 v2)(t:Tb w g q c L h m)(z:Ol F w)(A:¬F g)(hq:¬F q)(hl:L.length<=1000)(f1:F b1)(f2:F b2)(c1:w.cell? (b1,0)=some v1)(c2:w.cell? (b2,0)=some v2):
 aG prog 211 #[.pointer g, .func (.func f) #[] #[.pointer b1, .pointer b2]] w (XM F g gz L w):=by
 have c0:=t.1.cell 0 (.slice q L.length c) rfl;have u:g≠q:=λe=>by have:=(t.2.lt q rfl).1;omega
 have HD:=aP (Eb K w q c (g+1) L t.2 hl (λe=>hq (e ▸ f1)) (λe=>hq (e ▸ f2)) c1 c2);have B:=aP t;have b:=dA z A hq;have hle:(st gz L).length<=L.length:=ac9 _ _;obtain⟨n,l⟩:∃n,n=L.length:=⟨_,rfl⟩
 have D:=aP l;rw[<-l] at c0 hl hle;have v:aH (aG prog 247 #[.slice q n c, .func (.func f) #[] #[.pointer b1, .pointer b2]] w (OY gz L q c (g+1) w)):=by
  have:=HD.o;rw[<-l] at this;exact this
 clear HD t z A hq l f1 f2 c1 c2;go_enter func211,ntmps211
 go_upto_region 4 with(fail)
 go_wp2_with fail
 refine aR v ?_;rintro e d ⟨rfl,k,i⟩;have a:bF d g 314 #[.slice q L.length c,h,m]:=B.o.1.grown i (λe=>u (by injection e));have f0:=a.frozen 0;have d0:d.cell? (g,0)=some (.slice q L.length c):=a.cell 0 _ rfl;have j:Tb (d.setCell (g,0) (.slice q (st gz L).length c)) g q c (st gz L) h m:=Tb.slot B.o a k;have p:Kp F w d:=b.o.1.self b.o.2.2 i;have x:=(b.o.1.kp p).self b.o.2.1 (aZ (bK d g) 0 (.slice q (st gz L).length c));have E:=j.1.cell 0 (.slice q (st gz L).length c) rfl;have C:aH (jK F (d.setCell (g,0) (.slice q (st gz L).length c)) g (st gz L)/\Kp F w (d.setCell (g,0) (.slice q (st gz L).length c))):=
  ⟨⟨_,_,_,_,j,(b.o.1.kp p).kp x,b.o.2.1,λr y=>by injection y with y;rw[<-y];exact b.o.2.2⟩,p.trans x⟩
 clear k i a j p x c0;generalize (st gz L).length=s at *;go_wp2_with fail
 go_ret
 exact⟨_,rfl,C.o.1,C.o.2⟩
theorem Lm{c:Nat}{m:Int}{gz:En->Bool}(K:R0 f gz b1 b2 v1 v2)(t:Tb w g none c [] h m)(l:Ol F w)(n:¬F g)(c1:w.cell? (b1,0)=some v1)(c2:w.cell? (b2,0)=some v2):
 aG prog 211 #[.pointer g, .func (.func f) #[] #[.pointer b1, .pointer b2]] w (XM F g gz [] w):=by
 have c0:=t.1.cell 0 (.slice none 0 c) rfl;have f0:=t.1.frozen 0;have q:aH (aG prog 274 #[.slice none 0 c, .func (.func f) #[] #[.pointer b1, .pointer b2]] w λe w'=>e= .returned (.int .i64 (-1))/\aD w w w'):=tU K w none [] c (Sl.nil _ _) aT c1 c2;have j:=aP t;have i:=bN l n;have HD:aH (aG prog 247 #[.slice none 0 c, .func (.func f) #[] #[.pointer b1, .pointer b2]] w λe w'=>e= .returned (.slice none 0 c)/\aD w w w'):=by
  unfold aH;clear j i c0 f0 l n t;go_enter func247,ntmps247
  go_wp2_with fail
  refine aR q ?_;rintro e b ⟨rfl,hb⟩;go_wp2_with fail
  go_ret
  exact⟨rfl,hb⟩
 clear q t l n c1 c2;go_enter func211,ntmps211
 go_upto_region 4 with(fail)
 go_wp2_with fail
 refine aR HD ?_;rintro e b ⟨rfl,hb⟩;have a:=j.o.1.keep hb;have f0:=a.frozen 0;have d0:b.cell? (g,0)=some (.slice none 0 c):=a.cell 0 _ rfl;have d:Tb (b.setCell (g,0) (.slice none 0 c)) g none c [] h m:=Tb.slot j.o a (j.o.2.keep hb);have k:Kp F w b:=i.o.1.below hb;have p:=(i.o.1.kp k).self i.o.2 (aZ (bK b g) 0 (.slice none 0 c));have v:=d.1.cell 0 (.slice none 0 c) rfl;have s:aH (jK F (b.setCell (g,0) (.slice none 0 c)) g []/\Kp F w (b.setCell (g,0) (.slice none 0 c))):=
  ⟨⟨_,_,_,_,d,(i.o.1.kp k).kp p,i.o.2,λr u=>by cases u⟩,k.trans p⟩
 clear hb a d k p c0;go_wp2_with fail
 go_ret
 exact⟨_,rfl,s.o.1,s.o.2⟩
theorem TX{gz:En->Bool}(K:R0 f gz b1 b2 v1 v2)(t:jK F w g L)(hl:L.length<=1000)(f1:F b1)(f2:F b2)(c1:w.cell? (b1,0)=some v1)(c2:w.cell? (b2,0)=some v2):
 aG prog 211 #[.pointer g, .func (.func f) #[] #[.pointer b1, .pointer b2]] w (XM F g gz L w):=by
 obtain⟨A,c,x,m,t1,t2,t3,t4⟩:=t;rcases t1.2.shape with⟨rfl,rfl,rfl⟩|⟨q,rfl⟩
 .exact Lm K t1 t2 t3 c1 c2
 .exact Mt K t1 t2 t3 (t4 q rfl) hl f1 f2 c1 c2
end Df
theorem Ay(h:jK F w g L)(hl:L.length<=100)(a p:Int)(ha:0<=a):aG prog 193 #[.pointer g,a,p] w λe w'=>∃v:Int,e= .returned (.int .i64 v)/\jK F w' g (Df.st (Df.gz a p) L)/\Kp F w w':=by
 have fl:Ol F w:=by obtain⟨_,_,_,_,_,f,_⟩:=h;exact f
 have h1:=(jK.cD g L).box h fl (aI #[a] 3);have c:Ol (Fb F w) (w.alloc (aI #[a] 3)):=Fb.ol fl aT aT;have i:=(jK.cD g L).box h1 c (aI #[p] 3);have b1:=(bF.new w 3 #[a]).alloc (aI #[p] 3);have b2:=bF.fI (w.alloc (aI #[a] 3)) 3 #[p] (g:=w.heap.size+1) aT;have t:(w.alloc (aI #[a] 3)).heap.size=w.heap.size+1:=aT;rw[t] at i;have j:=fl.below (aX w (aI #[a] 3));have k:=(fl.kp j).below (aX (w.alloc (aI #[a] 3)) (aI #[p] 3));have l:=aP (Df.TX (Df.Tj a p ha (w.heap.size+1) w.heap.size) i aQ (.inr rfl) (.inl (.inr rfl)) (b2.cell 0 _ rfl) (b1.cell 0 _ rfl));have m:aH (∀W d,jK (Fb (Fb F w) (w.heap.size+1)) W g d->Kp (Fb (Fb F w) (w.heap.size+1)) ((w.alloc (aI #[a] 3)).alloc (aI #[p] 3)) W->jK F W g d/\Kp F w W):=λW d x u=>by
  have n:Ol (Fb (Fb F w) (w.heap.size+1)) W:=by obtain⟨_,_,_,_,_,f,_⟩:=x;exact f
  exact⟨dN.less (jK.cD g d) (dN.less (jK.cD g d) x (λb hb=>n b (.inl hb))) (λb hb=>n b (.inl (.inl hb))),(j.trans k).trans u.unbox.unbox⟩
 clear h fl h1 c i b1 b2 j k;go_enter func193,ntmps193
 go_wp2_with fail
 refine aR l ?_;rintro e y ⟨v,rfl,q,r⟩;have s:=aP (m.o _ _ q r);clear q r m l;go_wp2_with fail
 go_ret
 exact⟨_,rfl,s.o.1,s.o.2⟩
theorem Dg(h:jK F w g L)(hl:L.length<=100)(a p:Int):aG prog 168 #[.pointer g,a,p] w λe w'=>∃v:Bool,e= .returned (.bool v)/\jK F w' g (Df.st (Dr.gz a p) L)/\Kp F w w':=by
 have fl:Ol F w:=by obtain⟨_,_,_,_,_,f,_⟩:=h;exact f
 have h1:=(jK.cD g L).box h fl (aI #[a] 3);have c:Ol (Fb F w) (w.alloc (aI #[a] 3)):=Fb.ol fl aT aT;have i:=(jK.cD g L).box h1 c (aI #[p] 3);have b1:=(bF.new w 3 #[a]).alloc (aI #[p] 3);have b2:=bF.fI (w.alloc (aI #[a] 3)) 3 #[p] (g:=w.heap.size+1) aT;have t:(w.alloc (aI #[a] 3)).heap.size=w.heap.size+1:=aT;rw[t] at i;have j:=fl.below (aX w (aI #[a] 3));have k:=(fl.kp j).below (aX (w.alloc (aI #[a] 3)) (aI #[p] 3));have l:=aP (Df.TX (Dr.Tj a p w.heap.size (w.heap.size+1)) i aQ (.inl (.inr rfl)) (.inr rfl) (b1.cell 0 _ rfl) (b2.cell 0 _ rfl));have m:aH (∀W d,jK (Fb (Fb F w) (w.heap.size+1)) W g d->Kp (Fb (Fb F w) (w.heap.size+1)) ((w.alloc (aI #[a] 3)).alloc (aI #[p] 3)) W->jK F W g d/\Kp F w W):=λW d x u=>by
  have n:Ol (Fb (Fb F w) (w.heap.size+1)) W:=by obtain⟨_,_,_,_,_,f,_⟩:=x;exact f
  exact⟨dN.less (jK.cD g d) (dN.less (jK.cD g d) x (λb hb=>n b (.inl hb))) (λb hb=>n b (.inl (.inl hb))),(j.trans k).trans u.unbox.unbox⟩
 clear h fl h1 c i b1 b2 j k;go_enter func168,ntmps168
 go_wp2_with fail
 refine aR l ?_;rintro e y ⟨v,rfl,q,r⟩;have s:=aP (m.o _ _ q r);clear q r m l;go_wp2_with fail
 go_ret
 exact⟨_,rfl,s.o.1,s.o.2⟩
end
end
section
open Go.RowKit Go.Lib Go.Shelf dF Fr Up Nt
variable{F:Nat->Prop}{w wr w':aA}{g q:Nat}{L:List En}{k k':Kv}{a':Ka}{A:Option Addr}
section
theorem WB(h:jK F w g L)(hl:L.length<=100)(e o:Int)(he:0<=e):aG prog 193 #[.pointer g,e,o] w λr w'=>∃v:Int,r= .returned (.int .i64 v)/\jK F w' g (FM L e o)/\Kp F w w':=Ay h hl e o he
theorem Y1(h:jK F w g L)(hl:L.length<=100)(e p:Int):aG prog 168 #[.pointer g,e,p] w λr w'=>∃v:Bool,r= .returned (.bool v)/\jK F w' g (OV L e p)/\Kp F w w':=Dg h hl e p
theorem W9(t:List En)(L:List cM)(p:cM):iF t (L++ [p])=xX (iF t L) p:=by
 unfold iF;rw[acC];rfl
theorem Az(t:List En)(e o:Int):(FM t e o).length<=t.length:=ac9 _ _
theorem Ap(t:List En)(p:cM):(xX t p).length<=t.length:=by
 unfold xX;split
 .exact Az _ _ _
 .exact Zw _
theorem DU(t:List En)(L:List cM):(iF t L).length<=t.length:=by
 unfold iF;induction L generalizing t with
 |nil=>exact Zw _
 |cons p L a=>exact aaC (a _) (Ap _ _)
structure NC(F:Nat->Prop)(w wr:aA)(g:Nat)(a:Ka)(k:Kv)(B q c:Nat)(L:List cM):Prop where
 m:bQ F wr g a k
 k:Kp F w wr
 o:bI oH 5 wr B 156 q c L
theorem NC.keep{B c:Nat}{a:Ka}{L:List cM}(h:NC F w wr g a k B q c L)(hb:aD wr wr w'):NC F w w' g a k B q c L:=⟨(h.m.below hb).1,h.k.trans (h.m.below hb).2,h.o.keep hb⟩
theorem NC.eQ{B c:Nat}{a:Ka}{L:List cM}(h:NC F w wr g a k B q c L)(hq:F q)(m:bQ F w' g a' k')(kp:Kp F wr w'):NC F w w' g a' k' B q c L:=⟨m,h.k.trans kp,h.o.kp kp (λb hb=>by injection hb with hb;rw[<-hb];exact hq)⟩
theorem Ce{B c:Nat}{a:Ka}{L:List cM}(h:bQ F w g a k)(ht:k.t.length<=100)(ho:bI oH 5 w B 156 q c L)(hq:F q)(hl:L.length<=1000)(he:∀p∈L,0<=p.e):
 aG prog 150 #[.pointer g, .slice q L.length c] w (gJ F g {k with t:=iF k.t L} (.tuple #[]) w):=by
 have HI:aH (NC F w w g a k B q c L):=⟨h,Kp.refl _ _,ho⟩
 have HL:=aP he;obtain⟨n,hn⟩:∃n,n=L.length:=⟨_,rfl⟩
 have HN:=aP hn;rw[<-hn] at hl⊢;have HQ:=aP hq;have HT:=aP ht;clear h ho hn he hq ht;go_enter func150,ntmps150
 go_wp2_with fail
 go_loopw [9] (λv9 wr=>∃(i:Nat) (a:Ka),v9= .int .i64 i/\i<=n/\aH (NC F w wr g a {k with t:=iF k.t (L.take i)} B q c L)) (λv9 _=>n - (aL v9).toNat)
 case atStart=>exact⟨0,a,rfl,aaH _,HI.o⟩
 case round=>
  clear HI a;obtain⟨i,a,rfl,hi,X⟩:=hrel;by_cases hkn:i<n
  .have z:i<L.length:=by rw[<-HN.o];exact hkn
   have V:=X.o.o;have e0:=bM fV V z (j:=0) (v:= .int .i64 L[i].e) rfl;have e1:=bM fV V z (j:=1) (v:= .int .i64 L[i].s) rfl;have e2:=bM fV V z (j:=2) (v:= .int .i64 L[i].h.kd) rfl;have e3:=bM fV V z (j:=3) (v:= .int .i64 L[i].h.ob) rfl;have e4:=bM fV V z (j:=4) (v:= .int .i64 L[i].h.rt) rfl;rw[aaU] at e0;have k0:(0:Int)<=i:=aQ;have k1:(i:Int)<(n:Int):=aQ;clear V;have Y:L.take (i+1)=L.take i++ [L[i]]:=by rw[abE,Zv z];rfl
   have I:aH (iF k.t (L.take (i+1))=xX (iF k.t (L.take i)) L[i]):=by unfold aH;rw[Y,W9]
   have Z:=HL.o L[i] (aaF z);have HGL:aH ((iF k.t (L.take i)).length<=100):=aaC (DU _ _) HT.o;generalize iF k.t (L.take i)=t0 at *;generalize L.take i=LT at *;clear Y;generalize L[i]=y at *;obtain⟨A,y2,H,x,y5,y6,y7⟩:=y;simp only at e0 e1 e2 e3 e4 Z;have a1:=aX wr (aI #[A,y2,H,x,y5] 156);have yb:=bF.new wr 156 #[A,y2,H,x,y5];have D:=aP (X.o.keep a1);clear a1 X;by_cases hc:H=1
   .have R:aH (iF k.t (L.take (i+1))=FM t0 A x):=by unfold aH;rw[I.o];exact Zz hc
    clear I;have hc':(H==1)=true:=by simp[hc]
    clear hc;go_upto_region 5 with(fail)
    clear e0 e1 e2 e3 e4;generalize wr.alloc (aI #[A,y2,H,x,y5] 156)=w3 at *;generalize wr.heap.size=q3 at *;have x0:=yb.cell 0 A rfl;have x3:=yb.cell 3 x rfl;have pt:=D.o.m.pt;unfold pA at pt;clear yb;have J:=bD pt;have b:=bD x0;have M:=bD x3;refine bO (bS _) (λ_=>bS) [] (λ_ _ _=>True) [9] [] 67 (bY _) (λ_ _ _ h hz=>bU h hz) (λ_ d hd _ v w w' _ h hz=>by cases hd) aV aV bL ?_;repeat refine eA ?_
    refine dC ?_;intro γ w5 u hT;clear J b M;simp only[cO,Act.put,Zx,aaE,aaD];refine dP ?_;have S:=D.o.keep u;obtain⟨G,hr,back⟩:=S.m.tb;have HR:=aP (WB hr HGL.o A x Z);have T:=aP back;have N:=aP S;clear hr back S u hT D;refine wpList_plain rfl (λK hK=>?_);go_wp2_with fail
    refine aR HR ?_;rintro r w6 ⟨v,rfl,hr6,kr6⟩;obtain⟨U,k6⟩:=T.o _ _ hr6 kr6;have H6:=aP (N.o.eQ HQ.o U k6);clear U k6 hr6 kr6 T HR N;refine hK _ _ ?_;clear hK K;refine cI ?_;try refine dE ?_
    go_wp2_with fail
    go_roundw
    case rel=>exact⟨i+1,a,by go_num,aQ,by rw[R.o];exact H6.o⟩
    case measure=>simp[aL];omega
   .have R:aH (iF k.t (L.take (i+1))=t0):=by unfold aH;rw[I.o];exact aaA hc
    clear I;have hc':(H==1)=false:=by simp[hc]
    clear hc;by_cases hd:H=2
    .have hd':(H==2)=true:=by simp[hd]
     clear hd;go_upto_region 7 with(fail)
     clear e0 e1 e2 e3 e4;generalize wr.alloc (aI #[A,y2,H,x,y5] 156)=w3 at *;generalize wr.heap.size=q3 at *;have x0:=yb.cell 0 A rfl;have x3:=yb.cell 3 x rfl;have pc:=D.o.m.pc;unfold pA at pc;clear yb;go_upto_region 8 with(fail)
     have O:aH (∀W,aD w3 w3 W->aG prog 110 #[.pointer g,x] W λe w'=>e= .returned (.int .i64 (EX a x))/\W=w'):=λW hW=>B8 (D.o.m.below hW).1 x
     obtain⟨G,hcp,_⟩:=D.o.m.cp;have P:aH (∀W,aD w3 w3 W->aG prog 15 #[.pointer a.gc,A, .int .i64 2,x] W λe w'=>e= .returned (.int .i64 (OR k.c A 2 x))/\aD W.heap.size W w'):=λW hW=>Fq (hcp.keep hW) A 2 x
     clear hcp;generalize OR k.c A 2 x=fd at *;obtain⟨an,han⟩:∃an,bits .and .i64 fd 2=an:=⟨_,rfl⟩
     generalize hbv:EX a x=bv at *;clear hbv;by_cases Q:bv=A
     .have hb1':(bv !=A)=false:=by simp[Q]
      clear Q;by_cases C:an=0
      .have han':(an !=0)=false:=by simp[C]
       clear C;(have f:=bZ.cell pc;have b:=bZ.cell x0;refine dB aV aV ?_;(repeat (go_big_quiet_step ((first|(go_at_call 110;with_reducible exact pF (O.o _ (bZ.ok _)))|(go_at_call 15;with_reducible exact iL (P.o _ (bZ.ok _)))))));refine wpQuiet_nil ?_;clear f b;intro w5 l;have u:=bZ.below l;clear l)
       have S:=D.o.keep u;have N:=aP S;have HK1:=aP (MR S.m x (-1));clear S u D O P;go_wp2_with fail
       refine aR HK1 ?_;rintro r w6 ⟨rfl,⟨a6,U⟩,k6⟩;have h6':=N.o.eQ HQ.o U k6;obtain⟨G,E,back⟩:=U.ir;have HMk:=aP (PI E x true);have T:=aP back;have pi:=U.pi;unfold pA at pi;have H6:=aP h6';clear U k6 h6' E back N HK1;go_wp2_with fail
       refine aR HMk ?_;rintro r w7 ⟨v7,L7,rfl,hL7,hi7,k7⟩;obtain⟨h7,kk7⟩:=T.o L7 _ hL7 hi7 k7;have h7':=H6.o.eQ HQ.o h7 kk7;obtain⟨G,E,back⟩:=h7.ir;have HAk:=aP (S8 E x);have T:=aP back;have pi:=h7.pi;unfold pA at pi;have H7:=aP h7';clear h7 kk7 h7' E back H6 HMk hL7 hi7 k7;go_wp2_with fail
       refine aR HAk ?_;rintro r w8 ⟨v8,L8,rfl,hL8,hi8,k8⟩;obtain⟨h8,kk8⟩:=T.o L8 _ hL8 hi8 k8;have H8:=aP (H7.o.eQ HQ.o h8 kk8);clear h8 kk8 H7 HAk hL8 hi8 k8 T;go_wp2_with fail
       go_roundw
       case rel=>exact⟨i+1,_,by go_num,aQ,by rw[R.o];exact H8.o⟩
       case measure=>simp[aL];omega
      .have han':(an !=0)=true:=by simp[C]
       clear C;(have f:=bZ.cell pc;have b:=bZ.cell x0;refine dB aV aV ?_;(repeat (go_big_quiet_step ((first|(go_at_call 110;with_reducible exact pF (O.o _ (bZ.ok _)))|(go_at_call 15;with_reducible exact iL (P.o _ (bZ.ok _)))))));refine wpQuiet_nil ?_;clear f b;intro w5 l;have u:=bZ.below l;clear l)
       have N:=aP (D.o.keep u);clear u D;go_wp2_with fail
       go_roundw
       case rel=>exact⟨i+1,a,by go_num,aQ,by rw[R.o];exact N.o⟩
       case measure=>simp[aL];omega
     .have hb1':(bv !=A)=true:=by simp[Q]
      clear Q;(have f:=bZ.cell pc;have b:=bZ.cell x0;refine dB aV aV ?_;(repeat (go_big_quiet_step ((first|(go_at_call 110;with_reducible exact pF (O.o _ (bZ.ok _)))|(go_at_call 15;with_reducible exact iL (P.o _ (bZ.ok _)))))));refine wpQuiet_nil ?_;clear f b;intro w5 l;have u:=bZ.below l;clear l)
      have N:=aP (D.o.keep u);clear u D;go_wp2_with fail
      go_roundw
      case rel=>exact⟨i+1,a,by go_num,aQ,by rw[R.o];exact N.o⟩
      case measure=>simp[aL];omega
    .have hd':(H==2)=false:=by simp[hd]
     clear hd;go_wp2_with fail
     go_roundw
     case rel=>exact⟨i+1,a,by go_num,aQ,by rw[R.o];exact D.o⟩
     case measure=>simp[aL];omega
  .obtain rfl:i=n:=aQ;have k1:¬(i:Int)<(i:Int):=aQ;have R:aH (L.take i=L):=aaS (by rw[<-HN.o];exact Zw _);have HF:aH (gJ F g {k with t:=iF k.t L} (.tuple #[]) w (.returned (.tuple #[])) wr):=⟨rfl,⟨a,by have:=X.o.m;rw[R.o] at this;exact this⟩,X.o.k⟩
   go_wp2_with fail
   go_end0
   exact HF.o
theorem ZO(h:KM F w g k):aG prog 150 #[.pointer g,bH] w (gJ F g k (.tuple #[]) w):=by
 have a:aH (gJ F g k (.tuple #[]) w (.returned (.tuple #[])) w):=⟨rfl,h,Kp.refl _ _⟩
 clear h;go_enter func150,ntmps150
 go_wp2_with fail
 refine wp_loop_rounds 1 ?_;rw[rounds_succ];go_wp2_with fail
 go_end0
 exact a.o
theorem zN{B c:Nat}{a:Ka}{L:List cM}(h:bQ F w g a k)(b:k.t.length<=100)(ho:bI oH 5 w B 156 A c L)(hq:∀q,aY A=some q->F q)(hl:L.length<=1000)(he:∀p∈L,0<=p.e):
 aG prog 150 #[.pointer g,(A,L.length,c)] w (gJ F g {k with t:=iF k.t L} (.tuple #[]) w):=by
 rcases ho.shape with⟨rfl,rfl,rfl⟩|⟨q,rfl⟩
 .exact ZO ⟨a,h⟩
 .exact Ce h b ho (hq q rfl) hl he
end
variable{l:List Pt}{G:Nat->Prop}{C C':Cf}{a:Ka}
section
theorem Ob.MD(h:Ob l F w)(i:Nat)(p:Pt)(hp:l[i]?=some p):∃G,p.X G w/\(∀(n:Pt) (w':aA) (X:Nat->Prop),(∀b,X b->w.heap.size<=b)->n.X (λb=>G b\/X b) w'->Ol (λb=>G b\/X b) w'->Kp G w w'->Ob (l.set i n) (λb=>F b\/X b) w'/\Kp F w w'):=by
 obtain⟨v,h⟩:=h;refine⟨_,h.get i hp,λn w' X x y o k=>⟨⟨λb=> @ite Nat (X b) (Classical.propDecidable _) 0 (nx w v (i+1) b),λb hb=>?_,λm q hm=>?_⟩,h.1.kp k aQ⟩⟩
 .rcases hb with hb|hb
  .have h1:=h.1 b hb;refine⟨Zy h1.1 k.size,?_⟩;simp only;split
   .rfl
   .rw[yI h1.1,h1.2]
  .exact⟨o b (.inr hb),by simp only;rw[Zz hb]⟩
 .rw[abF] at hm;split at hm
  .rename_i e;subst e;split at hm
   .injection hm with hm;subst hm;refine n.cD _ (λ_=>True) _ w' w' y (Kp.refl _ _) (λ_ _ _=>trivial) (Fo.ol _ _ _) (λr d f hf=>?_);have c:=hf.2;simp only at c;have s:¬X r:=λhc=>f (.inr hc)
    rw[aaA s] at c;rcases acW r w with j|t
    .rw[yI j] at c;exact f (.inl ⟨j,c⟩)
    .exact c (KH t)
   .cases hm
  .rename_i u;refine q.cD _ _ _ w w' (h.2 m q hm) k (λr d f=>⟨d,λe=>f ⟨d,λz=>u aQ⟩⟩) (Fo.ol _ _ _) (λr d f hf=>?_);have h1:v r=m+1:=aaW λhc=>f ⟨d,hc⟩
   have c:=hf.2;simp only at c;rw[aaA (λhc=>by have:=x r hc;omega),yI d] at c;exact c h1
def cE(F:Nat->Prop)(A:Option Addr):Nat->Prop:=λb=>F b\/Go.Proofs.YtacgiflhgdaeaaaGreat.aY A=some b
section
variable{F:Nat->Prop}{w w':aA}{g:Nat}{a:Ka}{k:Kv}
theorem bQ.Qq(h:bQ F w g a k):∃G,eG G w a.gc k.c/\(∀(c:Cf) (w':aA) (A:Option Addr),(∀q,Go.Proofs.YtacgiflhgdaeaaaGreat.aY A=some q->w.heap.size<=q)->eG (cE G A) w' a.gc c->Kp G w w'->bQ (cE F A) w' g a {k with c:=c}/\Kp F w w'):=by
 obtain⟨G,e,back⟩:=h.o.MD 3 _ rfl;exact⟨G,e,λc w' A d b k'=>⟨⟨(back (TY a.gc c) w' _ d b b.fl k').1,h.al,h.bd,h.ln,h.pp⟩,(back (TY a.gc c) w' _ d b b.fl k').2⟩⟩
theorem bQ.less(h:bQ F w g a k)(c:∀b,G b->F b):bQ G w g a k:=bQ.cD g a k F (λ_=>True) G w w h (Kp.refl _ _) (λ_ _ _=>trivial) (λb hb=>h.fl b (c b hb)) (λr _ d hf=>d (c r hf))
theorem KM.less(h:KM F w g k)(c:∀b,G b->F b):KM G w g k:=by
 obtain⟨a,h⟩:=h;exact⟨a,h.less c⟩
end
theorem eG.LA{c:Nat}{L:List cM}(d:eG F w g C)(h:eG F w' g C')(ho:bI oH 5 w' w.heap.size 156 A c L):eG (cE F A) w' g C':=
 ⟨h.b,h.len,λb hb=>by
  rcases hb with hb|hb
  .exact h.fl b hb
  .exact(ho.lt b hb).2,λhc=>by
  rcases hc with hc|hc
  .exact h.fg hc
  .have:=(ho.lt g hc).1;have:=d.b.lt;omega⟩
structure KW(k:Kv):Prop where
 t:k.t.length<=100
 b:k.b.length<=400
 cn:0<=k.c.n/\k.c.n<=1000000000
 sd:gQ k.s
 be:∀x∈k.b,0<=x.dM/\x.dM<8
 n:k.n<=1000000000
theorem KW.p8(h:KW k):k.s.P.length<=8:=h.sd.n.2
theorem KF(L:List Nt)(e o:Int):(qH L e o).length<=L.length/\∀x∈qH L e o,x∈L:=by
 unfold qH;split
 .exact⟨ac3 _ _,λx b=>acU b⟩
 .exact⟨Zw _,λx b=>b⟩
theorem uR(L:List Nt)(o:Int):∀n,(qP L o n).length<=L.length/\∀x∈qP L o n,x∈L
 |0=>⟨Zw _,λx b=>b⟩
 |n+1=>⟨aaC (KF _ _ _).1 (uR L o n).1,λx b=>(uR L o n).2 x ((KF _ _ _).2 x b)⟩
theorem kC.kw{o:Int}(h:kC k o k')(w:KW k):KW k':=by
 obtain⟨L,_,rfl⟩:=h;exact⟨aaC (DU _ _) w.t,aaC (uR _ _ _).1 w.b,by show 0<=(gZ _ _).n/\(gZ _ _).n<=_;rw[FA];exact w.cn,w.sd,λx c=>w.be x ((uR _ _ _).2 x c),w.n⟩
theorem KU{p:cM}(h:p∈lC C):0<=p.e:=by
 unfold lC uI at h;obtain⟨k,_,hk⟩:=acO.1 h;unfold N0 at hk;split at hk
 .cases hk
 .injection hk with hk;subst hk;exact Int.natCast_nonneg _
theorem B0(C:Cf):(lC C).length<=128:=I9 C 128
theorem EN(h:bQ F w g a k)(hw:KW k)(o:Int):aG prog 152 #[.pointer g,o] w λe w'=>∃k',kC k o k'/\gJ F g k' (.tuple #[]) w e w':=by
 obtain⟨G,j,back⟩:=h.Qq;have I:=aP (Cb j 1 o);have d:=aP back;have J:=aP j;have K:=aP hw;have pc:=h.pc;unfold pA at pc;clear h j back hw;go_enter func152,ntmps152
 go_wp2_with fail
 refine aR I ?_;rintro e Z ⟨A,c,L,rfl,D,ho,s,u⟩;obtain⟨M,N⟩:=d.o _ _ A (λq hq=>(ho.lt q hq).1) (J.o.LA s ho) u;have hlen:(L.filter (nU 1 o)).length<=128:=aaC (ac9 _ _) (by rw[D.length_eq];exact B0 _);have O:=aP (zN M K.o.t ho (λq hq=> .inr hq) aQ (λp hp=>KU (D.mem_iff.1 (abZ.1 hp).1)));have V:=aP D;have P:=aP N;clear D ho s u M N d J I pc;generalize W:(L.filter (nU 1 o)).length=n at *;clear W;go_wp2_with fail
 refine aR O ?_;rintro e Q ⟨rfl,R,S⟩;have T:aH (KM F Q g {k with c:=gZ k.c (L.filter (nU 1 o)),t:=iF k.t (L.filter (nU 1 o))}/\Kp F w Q):=⟨R.less (λb hb=> .inl hb),P.o.trans (S.mono (λb hb=> .inl hb))⟩
 clear R S P O;go_wp2_with fail
 go_loopw [13] (λl wr=>∃i:Nat,l= .int .i64 i/\i<=8/\aH (KM F wr g {k with c:=gZ k.c (L.filter (nU 1 o)),t:=iF k.t (L.filter (nU 1 o)),b:=qP k.b o i}/\Kp F w wr)) (λl _=>8 - (aL l).toNat)
 case atStart=>exact⟨0,rfl,aQ,T.o⟩
 case round=>
  clear T;obtain⟨i,rfl,hi,E⟩:=hrel;obtain⟨X,h1⟩:=E.o.1;by_cases Y:i<8
  .have k1:(i:Int)<8:=aQ;have pb:=h1.pb;unfold pA at pb;obtain⟨G,hb,back⟩:=h1.bo;have v:=aP (VT (i:Nat) o hb (aaC (uR _ _ _).1 (aaC K.o.b aQ)));have d:=aP back;clear hb back h1;go_wp2_with fail
   refine aR v ?_;rintro e w5 ⟨rfl,x,U⟩;obtain⟨y,z⟩:=d.o _ _ _ x U;have H:aH (KM F w5 g {k with c:=gZ k.c (L.filter (nU 1 o)),t:=iF k.t (L.filter (nU 1 o)),b:=qP k.b o (i+1)}/\Kp F w w5):=⟨⟨_,y⟩,E.o.2.trans z⟩
   clear x U y z d v pb;go_wp2_with fail
   go_roundw
   case rel=>exact⟨i+1,by go_num,aQ,H.o⟩
   case measure=>simp[aL];omega
  .obtain rfl:i=8:=aQ;have pf:=h1.pf;unfold pA at pf;obtain⟨G,hf,back⟩:=h1.fr;have r:=aP (Hf k.f X.gf o wr hf.m);have B:=aP hf;generalize (if dH k.f o=true then(0:Int) else 6)=ev at r;have d:=aP back;clear hf back h1;go_wp2_with fail
   refine aR r ?_;rintro e w5 ⟨rfl,C,g5⟩;obtain⟨t1,t2⟩:=B.o.eQ C g5;obtain⟨y,z⟩:=d.o _ _ t1 t2;have H:aH (∃k',kC k o k'/\gJ F g k' (.tuple #[]) w (.returned (.tuple #[])) w5):=⟨_,⟨L,V.o,rfl⟩,rfl,⟨_,y⟩,E.o.2.trans z⟩
   clear C g5 t1 t2 y z d B r pf;go_wp2_with fail
   go_end0
   exact H.o
end
variable{X:(Nat->Prop)->aA->Prop}{k1:Kv}{i:Nat}
section
theorem dN.row(M:dN X)(h:X F w)(fl:Ol F w)(hb:aD w w w')(c:∀q,Go.Proofs.YtacgiflhgdaeaaaGreat.aY A=some q->w.heap.size<=q/\q<w'.heap.size):X (cE F A) w':=
 M F (λb=>b<w.heap.size) (cE F A) w w' h (Kp.cB hb λ_ hb=>hb) (λ_ d _=>d) (λb a=>by
  rcases a with a|a
  .exact Zy (fl b a) hb.size
  .exact(c b a).2) (λr d e hc=>by
  rcases hc with hc|hc
  .exact e hc
  .have:=(c r hc).1;omega)
theorem wO(num:Int)(self:Bool)(L:List cM):(cP num self L).2.length<=L.length/\∀p∈(cP num self L).2,p∈L:=by
 suffices h:∀(st:List Int×List cM),(L.foldl (eW num self) st).2.length<=st.2.length+L.length/\∀p∈(L.foldl (eW num self) st).2,p∈st.2\/p∈L by
  have:=h ([num], []);refine⟨by unfold cP;simpa using this.1,λp hp=>?_⟩;rcases this.2 p hp with h1|h1
  .cases h1
  .exact h1
 induction L with
 |nil=>intro st;exact⟨aT,λp hp=> .inl hp⟩
 |cons x L c=>
  intro st;have h1:=c (eW num self st x);have d:(eW num self st x).2.length<=st.2.length+1/\∀p∈(eW num self st x).2,p∈st.2\/p=x:=by
   unfold eW;split
   .split
    .exact⟨aT,λp hp=>by simpa using hp⟩
    .exact⟨aT,λp hp=> .inl hp⟩
   .split
    .exact⟨aT,λp hp=>by simpa using hp⟩
    .exact⟨aT,λp hp=> .inl hp⟩
  refine⟨by simp only[acY,aa9];omega,λp hp=>?_⟩;rcases h1.2 p hp with a|a
  .rcases d.2 p a with b|b
   .exact .inl b
   .exact .inr (by simp[b])
  .exact .inr (by simp[a])
theorem KW.nO(w:KW k)(num:Int)(self:Bool)(L:List cM):KW (iR k num self L):=⟨aaC (DU _ _) w.t,w.b,by show 0<=(gZ _ _).n/\(gZ _ _).n<=_;rw[FA];exact w.cn,w.sd,w.be,w.n⟩
theorem iZ.YU{e s:Int}{l:List Int}(h:iZ e l k k1)(b:eO k1.c e s=none):iZ e (l++ [s]) k k1:=by
 induction h with
 |nil k=>exact .no b (.nil k)
 |no h r a=>first|exact .no h (a b)|exact .no h a
 |drop h L d r a=>first|exact .drop h L d (a b)|exact .drop h L d a
theorem iZ.snoc{e s:Int}{l:List Int}(h:iZ e l k k1)(d:eO k1.c e s=some i)(L:List cM)(f:xI k1 L):iZ e (l++ [s]) k (iR k1 (bJ k1.c i).nu true L):=by
 induction h with
 |nil k=>exact .drop d L f (.nil _)
 |no h r a=>first|exact .no h (a d f)|exact .no h a
 |drop h g b r a=>first|exact .drop h g b (a d f)|exact .drop h g b a
theorem eG.mono(h:eG F w g C)(a:∀b,G b->F b):eG G w g C:=⟨h.b,h.len,λb hb=>h.fl b (a b hb),λhf=>h.fg (a _ hf)⟩
theorem IC{a:Ka}(h:bQ F w g a k)(hw:KW k)(e s:Int):aG prog 149 #[.pointer a.gc,e,s] w λx w'=>
 (eO k.c e s=none/\x= .returned (.tuple #[bH, .int .i64 23])/\bQ F w' g a k/\Kp F w w')\/
 (∃i A c L,eO k.c e s=some i/\x= .returned (.tuple #[.slice A (cP (bJ k.c i).nu true L).2.length c,aU])/\xI k L/\bI oH 5 w' w.heap.size 156 A c (cP (bJ k.c i).nu true L).2/\bQ (cE F A) w' g a {k with c:=gZ k.c (cP (bJ k.c i).nu true L).2}/\Kp F w w'):=by
 obtain⟨G,d,back⟩:=h.Qq;have hd:=Dn d e s;cases hf:eO k.c e s with
 |none=>
  rw[hf] at hd;refine hd.mono ?_;rintro x w' ⟨rfl,hc,f⟩;obtain⟨h1,j⟩:=back k.c w' none (λq hq=>by cases hq) (hc.mono (λb hb=>by
   rcases hb with hb|hb
   .exact hb
   .cases hb)) f
  exact .inl ⟨rfl,rfl,h1.less (λb hb=> .inl hb),j⟩
 |some i=>
  rw[hf] at hd;refine hd.mono ?_;rintro x w' ⟨A,c,L,rfl,l,m,ho,hc,f⟩;obtain⟨h1,j⟩:=back _ _ A (λq hq=>(ho.lt q hq).1) (d.LA hc ho) f;exact .inr ⟨i,A,c,L,rfl,rfl,⟨l,m⟩,ho,h1,j⟩
end
section
theorem iZ.kw{e:Int}{l:List Int}(h:iZ e l k k')(w:KW k):KW k':=by
 induction h with
 |nil k=>exact w
 |no h r a=>exact a w
 |drop h L b r a=>exact a (w.nO _ _ _)
theorem nH.kw{e o:Int}(h:nH e o k k')(w:KW k):KW k':=by
 cases h with
 |no h a=>rw[a];exact w
 |keep h r b=>exact r.kw w
 |gI h r b c=>exact c.kw (r.kw w)
theorem V4(k:Kv)(e o:Int):(eK k e o).length<=16:=by
 unfold eK;exact aaC (ad4 _ _) (DS _ _)
theorem Cg{a:Ka}(h:bQ F w g a k)(hw:KW k)(e o:Int):aG prog 108 #[.pointer g,e,o] w λr w'=>∃k',nH e o k k'/\gJ F g k' (.tuple #[]) w r w':=by
 have HS:=aP (B7 h e o);have HM:=aP h;have HW:=aP hw;have h16:=V4 k e o;have HR0:aH (eK k e o= []->nH e o k k):=λh=> .no h rfl
 have HR1:aH (∀k',eK k e o≠[]->iZ e (eK k e o) k k'->kY k' o=true->nH e o k k'):=λk' h r C=> .keep h r C
 have HR2:aH (∀d k',eK k e o≠[]->iZ e (eK k e o) k d->kY d o=false->kC d o k'->nH e o k k'):=λd k' h r C r2=> .gI h r C r2
 generalize eK k e o=S at *;clear h hw;go_enter func108,ntmps108
 go_wp2_with fail
 refine aR HS ?_;rintro x Y ⟨A,c,rfl,own,D⟩;obtain⟨n,Z⟩:∃n,n=S.length:=⟨_,rfl⟩
 have HN:=aP Z;rw[<-Z];rw[<-Z] at h16;have H1:=aP (dN.row (bQ.cD g a k) HM.o HM.o.fl D (λq hq=>own.lt q hq));have E:=aP (HM.o.below D).2;have HA:=aP own;clear Z own D HS;by_cases y:n=0
 .have K:((n:Int)==0)=true:=by simp[y]
  have HE:aH (∃k',nH e o k k'/\gJ F g k' (.tuple #[]) w (.returned (.tuple #[])) Y):=⟨k,HR0.o (aa5 (by rw[<-HN.o];exact y)),rfl,⟨a,H1.o.less (λb hb=> .inl hb)⟩,E.o⟩
  clear y;go_wp2_with fail
  refine bodyPost_ret (v:= .tuple #[]) (by simp[results,results108,go_sem]) rfl ?_;exact HE.o
 .have K:((n:Int)==0)=false:=by rw[aeN];omega
  have M:aH (S≠[]):=λe=>y (by rw[HN.o,e];rfl)
  go_wp2_with fail
  go_loopw [20] (λv20 wr=>∃i:Nat,v20= .int .i64 i/\i<=n/\aH (∃k',iZ e (S.take i) k k'/\KM (cE F A) wr g k'/\Kp (cE F A) Y wr)) (λv20 _=>n - (aL v20).toNat)
  case atStart=>exact⟨0,rfl,aaH _,k, .nil k,⟨a,H1.o⟩,Kp.refl _ _⟩
  case round=>
   clear H1;obtain⟨i,rfl,hi,HX⟩:=hrel;obtain⟨d,B,⟨a1,h1⟩,hK⟩:=HX.o;by_cases hkn:i<n
   .have z:i<S.length:=by rw[<-HN.o];exact hkn
    have hA:=HA.o.kp hK (λq hq=> .inr hq);obtain⟨q,rfl⟩:∃q,A=some ⟨q,0,none⟩:=by
     rcases hA.shape with⟨_,C,_⟩|C
     .rw[C] at z;simp at z
     .exact C
    have e0:=bM gK hA z (j:=0) (v:= .int .i64 S[i]) rfl;rw[acD,aaU] at e0;have k0:(0:Int)<=i:=aQ;have k2:(i:Int)<(n:Int):=aQ;have N:aH (S.take (i+1)=S.take i++ [S[i]]):=by unfold aH;rw[abE,Zv z];rfl
    generalize S[i]=s at *;have pc:=h1.pc;unfold pA at pc;have G:=aP (IC h1 (B.kw HW.o) e s);have HD:=bN B hK;have O:=B.kw HW.o;have H:=aP O;clear hA B h1 hK HX O;go_wp2_with fail
    refine aR G ?_;rintro x P (⟨hf,rfl,Q,R⟩|⟨j,A3,c3,L,hf,rfl,hO,T,Q,R⟩)
    .have u:aH (∃k',iZ e (S.take (i+1)) k k'/\KM (cE F (some ⟨q,0,none⟩)) P g k'/\Kp (cE F (some ⟨q,0,none⟩)) Y P):=⟨d,by rw[N.o];exact HD.o.1.YU hf,⟨_,Q⟩,HD.o.2.trans R⟩
     clear hf Q R G HD;go_wp2_with fail
     go_roundw
     case rel=>exact⟨i+1,by go_num,aQ,u.o⟩
     case measure=>simp[aL];omega
    .have l:=wO (bJ d.c j).nu true L;have hlen:(cP (bJ d.c j).nu true L).2.length<=128:=aaC l.1 (by rw[hO.1.length_eq];exact B0 _);have HG:=aP (zN Q H.o.t T (λq hq=> .inr hq) aQ (λp hp=>KU (hO.1.mem_iff.1 (l.2 p hp))));have u:=bN (HD.o.1.snoc hf L hO) R;clear hf hO T Q R G l;generalize hm:(cP (bJ d.c j).nu true L).2.length=m at *;clear hm;go_wp2_with fail
     refine aR HG ?_;rintro x w4 ⟨rfl,U,k4⟩;have H4:aH (∃k',iZ e (S.take (i+1)) k k'/\KM (cE F (some ⟨q,0,none⟩)) w4 g k'/\Kp (cE F (some ⟨q,0,none⟩)) Y w4):=⟨_,by rw[N.o];exact u.o.1,U.less (λb hb=> .inl hb),HD.o.2.trans (u.o.2.trans (k4.mono (λb hb=> .inl hb)))⟩
     clear U k4 u HG HD;go_wp2_with fail
     go_roundw
     case rel=>exact⟨i+1,by go_num,aQ,H4.o⟩
     case measure=>simp[aL];omega
   .obtain rfl:i=n:=aQ;have k1':¬(i:Int)<(i:Int):=aQ;have V:S.take i=S:=aaS (by rw[<-HN.o];exact Zw _);rw[V] at B;have HH:=aP (PZ h1 o);have H:=aP (B.kw HW.o);have HD:=bN B hK;have I:=aP h1;clear V B hK h1 HX;cases J:kY d o with
    |true=>
     rw[J] at HH;have HT:=aP (HR1.o d M.o HD.o.1 J);clear J;go_wp2_with fail
     refine aR HH ?_;rintro x P ⟨rfl,f⟩;have u:aH (∃k',nH e o k k'/\gJ F g k' (.tuple #[]) w (.returned (.tuple #[])) P):=⟨d,HT.o,rfl,⟨a1,(I.o.below f).1.less (λb hb=> .inl hb)⟩,E.o.trans ((HD.o.2.trans (I.o.below f).2).mono (λb hb=> .inl hb))⟩
     clear f;go_wp2_with fail
     go_end0
     exact u.o
    |false=>
     rw[J] at HH;have HT:=aP (λk'=>HR2.o d k' M.o HD.o.1 J);clear J;go_wp2_with fail
     refine aR HH ?_;rintro x P ⟨rfl,f⟩;have u:=aP (I.o.below f);have HL:=aP (EN u.o.1 H.o o);clear f;go_wp2_with fail
     refine aR HL ?_;rintro x w4 ⟨k4,W,rfl,U,X⟩;have H4:aH (∃k',nH e o k k'/\gJ F g k' (.tuple #[]) w (.returned (.tuple #[])) w4):=⟨k4,HT.o _ W,rfl,U.less (λb hb=> .inl hb),E.o.trans ((HD.o.2.trans (u.o.2.trans X)).mono (λb hb=> .inl hb))⟩
     clear W U X;go_wp2_with fail
     go_end0
     exact H4.o
end
section
theorem Al{a:Ka}(h:bQ F w g a k)(hw:KW k)(e s:Int):aG prog 164 #[.pointer g,e,s] w λr w'=>∃E k',rH k e s E k'/\gJ F g k' (.int .i64 E) w r w':=by
 obtain⟨G,j,_⟩:=h.cp;have f:=lU j e s 1 8;have pc:=h.pc;unfold pA at pc;have p:=aP h;have B:=aP hw;have i:aH (∀(E:Int) (k':Kv),(match jI k.c e s 1 8 with|none=>E=23/\k'=k|some h=>E=0/\kC k h.ob k')->rH k e s E k'):=λE k' h=>h
 clear h j hw;cases hq:jI k.c e s 1 8 with
 |none=>
  rw[hq] at f i;have f:=aP f;have i:=aP (i.o 23 k ⟨rfl,rfl⟩);clear hq;go_enter func164,ntmps164
  go_wp2_with fail
  refine aR f ?_;rintro r q ⟨rfl,b⟩;simp only[mA,ab5];have t:aH (∃E k',rH k e s E k'/\gJ F g k' (.int .i64 E) w (.returned (.int .i64 23)) (q.alloc (aI #[aU,aU,aU] 154))):=by
   have d:=b.alloc b.size (aI #[aU,aU,aU] 154);exact⟨23,k,i.o,rfl,⟨a,(p.o.below d).1⟩,(p.o.below d).2⟩
  clear b;go_wp2_with fail
  go_ret
  exact t.o
 |some x=>
  rw[hq] at f i;have f:=aP f;have i:=aP (λk' h=>i.o 0 k' ⟨rfl,h⟩);clear hq;obtain⟨u,n,v,I,J⟩:=x;go_enter func164,ntmps164
  go_wp2_with fail
  refine aR f ?_;rintro r q ⟨rfl,b⟩;simp only[mA,ab4];have d:=b.alloc b.size (aI #[u,n,v] 154);have yb:=bF.new q 154 #[u,n,v];have y:=aP (p.o.below d);have C:=yb.cell 1 n rfl;clear b d pc yb;have D:=aP (EN y.o.1 B.o n);go_wp2_with fail
  refine aR D ?_;rintro r H ⟨z,l,rfl,A,m⟩;have t:aH (∃E k',rH k e s E k'/\gJ F g k' (.int .i64 E) w (.returned (.int .i64 0)) H):=⟨0,z,i.o z l,rfl,A,y.o.2.trans m⟩
  clear l A m C;go_wp2_with fail
  go_ret
  exact t.o
theorem YB{a:Ka}(h:bQ F w g a k)(e s at_:Int):aG prog 165 #[.pointer g,e,s,at_] w (gJ F g k (.tuple #[.int .u64 (CM k e s at_).1, .int .i64 (CM k e s at_).2]) w):=by
 obtain⟨G,z,_⟩:=h.cp;have p:=lU z e s 1 1;have pc:=h.pc;unfold pA at pc;have I:=aP h;have q:aH (CM k e s at_=match jI k.c e s 1 1 with|none=>(0,23)|some h=>(if fL k.f h.ob at_≠0 then 0 else IntKind.u64.wrap (rO k.f h.ob at_),fL k.f h.ob at_)):=rfl;clear h z;generalize CM k e s at_=rk at *;cases hq:jI k.c e s 1 1 with
 |none=>
  rw[hq] at p q;have p:=aP p;clear hq;go_enter func165,ntmps165
  go_wp2_with fail
  refine aR p ?_;rintro r C ⟨rfl,j⟩;simp only[mA,ab5];have t:=aP (I.o.below (j.alloc j.size (aI #[aU,aU,aU] 154)));clear j;go_wp2_with fail
  go_ret2
  rw[q.o];exact⟨rfl,⟨a,t.o.1⟩,t.o.2⟩
 |some x=>
  rw[hq] at p q;have p:=aP p;clear hq;obtain⟨D,n,E,L,M⟩:=x;simp only at q;go_enter func165,ntmps165
  go_wp2_with fail
  refine aR p ?_;rintro r C ⟨rfl,j⟩;simp only[mA,ab4];have A:=j.alloc j.size (aI #[D,n,E] 154);have yb:=bF.new C 154 #[D,n,E];have v:=aP (I.o.below A);clear j A pc;go_upto_region 4 with(fail)
  generalize C.alloc (aI #[D,n,E] 154)=w3 at *;generalize C.heap.size=q3 at *;have J:=yb.cell 1 n rfl;have pf:=v.o.1.pf;unfold pA at pf;obtain⟨N,hf,_⟩:=v.o.1.fr;have B:aH (∀W,aD w3 w3 W->aG prog 208 #[.pointer a.gf,n,at_] W λe w'=>e= .returned (.tuple #[.int .u8 (rO k.f n at_), .int .i64 (fL k.f n at_)])/\W=w'):=λW K=>zG k.f a.gf n at_ W (hf.keep K).1.m
  clear hf yb;generalize rO k.f n at_=bv at *;generalize fL k.f n at_=be at *;by_cases y:be=0
  .have u:aH (rk=(IntKind.u64.wrap bv,0)):=by unfold aH;rw[q.o,y];rfl
   have H:(be !=0)=false:=by simp[y]
   clear y q;(have b:=bZ.cell pf;have d:=bZ.cell J;refine dB aV aV ?_;(repeat (go_big_quiet_step ((go_at_call 208;with_reducible exact pF (B.o _ (bZ.ok _))))));refine wpQuiet_nil ?_;clear b d;intro w5 i;have l:=bZ.below i;clear i)
   have t:=aP (v.o.1.below l);clear l;go_wp2_with fail
   go_ret2
   rw[u.o];exact⟨rfl,⟨a,t.o.1⟩,v.o.2.trans t.o.2⟩
  .have u:aH (rk=(0,be)):=by unfold aH;rw[q.o,Zz y]
   have H:(be !=0)=true:=by simp[y]
   clear y q;(have b:=bZ.cell pf;have d:=bZ.cell J;refine dB aV aV ?_;(repeat (go_big_quiet_step ((go_at_call 208;with_reducible exact pF (B.o _ (bZ.ok _))))));refine wpQuiet_nil ?_;clear b d;intro w5 i;have l:=bZ.below i;clear i)
   have t:=aP (v.o.1.below l);clear l;go_wp2_with fail
   go_ret2
   rw[u.o];exact⟨rfl,⟨a,t.o.1⟩,v.o.2.trans t.o.2⟩
theorem VE{a:Ka}(h:bQ F w g a k)(e s at_ v:Int):aG prog 166 #[.pointer g,e,s,at_,v] w (gJ F g (nZ k e s at_ v).2 (.int .i64 (nZ k e s at_ v).1) w):=by
 obtain⟨G,u,_⟩:=h.cp;have l:=lU u e s 1 2;have pc:=h.pc;unfold pA at pc;have H:=aP h;have n:aH (nZ k e s at_ v=match jI k.c e s 1 2 with|none=>(23,k)|some h=>if 255<v then(1,k) else(fL k.f h.ob at_,{k with f:=iW k.f h.ob at_ (v%256)})):=rfl;clear h u;generalize nZ k e s at_ v=rk at *;cases hq:jI k.c e s 1 2 with
 |none=>
  rw[hq] at l n;have l:=aP l;clear hq;go_enter func166,ntmps166
  go_wp2_with fail
  refine aR l ?_;rintro r C ⟨rfl,b⟩;simp only[mA,ab5];have I:=aP (H.o.below (b.alloc b.size (aI #[aU,aU,aU] 154)));clear b;go_wp2_with fail
  go_ret
  rw[n.o];exact⟨rfl,⟨a,I.o.1⟩,I.o.2⟩
 |some x=>
  rw[hq] at l n;have l:=aP l;clear hq;obtain⟨D,p,E,U,V⟩:=x;simp only at n;go_enter func166,ntmps166
  go_wp2_with fail
  refine aR l ?_;rintro r C ⟨rfl,b⟩;simp only[mA,ab4];have y:=b.alloc b.size (aI #[D,p,E] 154);have yb:=bF.new C 154 #[D,p,E];have t:=aP (H.o.below y);clear b y pc;by_cases J:255<v
  .have q:aH (rk=(1,k)):=by unfold aH;rw[n.o,Zz J]
   clear yb n;go_wp2_with fail
   go_ret
   rw[q.o];exact⟨rfl,⟨a,t.o.1⟩,t.o.2⟩
  .have q:aH (rk=(fL k.f p at_,{k with f:=iW k.f p at_ (v%256)})):=by unfold aH;rw[n.o,aaA J]
   clear n;go_upto_region 6 with(fail)
   generalize C.alloc (aI #[D,p,E] 154)=w3 at *;generalize C.heap.size=q3 at *;have T:=yb.cell 1 p rfl;have pf:=t.o.1.pf;unfold pA at pf;clear yb;have i:=bD pf;have j:=bD T;refine bO (bS _) (λ_=>bS) [] (λ_ _ _=>True) [9,10] [] 37 (bY _) (λ_ _ _ h L=>bU h L) (λ_ d hd _ v w w' _ h L=>by cases hd) aV aV bL ?_;repeat refine eA ?_
   refine dC ?_;intro γ w5 hb5 hT;clear i j;simp only[cO,Act.put,Zx,aaE,aaD];refine dP ?_;obtain⟨M,N⟩:=t.o.1.below hb5;obtain⟨W,hf,back⟩:=M.fr;have z:=aP (wU k.f a.gf p at_ (v%256) w5 hf.m);have A:=aP hf;have O:=aP back;have P:=aP (t.o.2.trans N);clear hf back M N hb5 hT t;generalize fL k.f p at_=be at *;refine wpList_plain rfl (λK hK=>?_);go_wp2_with fail
   refine aR z ?_;rintro r X ⟨rfl,B,g6⟩;obtain⟨t1,t2⟩:=A.o.eQ B g6;obtain⟨Q,R⟩:=O.o _ _ t1 t2;have S:=bN Q (P.o.trans R);clear B g6 t1 t2 Q R O A z P;refine hK _ _ ?_;clear hK K;refine wpList_plain rfl (λK hK=>?_);go_simp
   refine hK _ _ ?_;clear hK K;refine cI ?_;try refine dE ?_
   go_wp2_with fail
   go_ret
   rw[q.o];exact⟨rfl,⟨a,S.o.1⟩,S.o.2⟩
theorem WC{a:Ka}(h:bQ F w g a k)(hw:KW k)(e s:Int):aG prog 163 #[.pointer g,e,s] w (gJ F g (lH k e s).2.2 (.tuple #[.int .u64 (lH k e s).1, .int .i64 (lH k e s).2.1]) w):=by
 have P:=aP h;have S:=aP hw;have M:aH (lH k e s=if 16<=s then(0,1,k) else if(mH k.c e s).isSome then(0,7,k) else match jH k.f with
  |none=>(0,20,{k with f:=fQ k.f})
  |some i=>if(cY k.c e s 1 i 15 0).1≠0 then(0,(cY k.c e s 1 i 15 0).1,{k with f:=fQ k.f,c:=(cY k.c e s 1 i 15 0).2}) else((i:Int),0,{k with f:=fQ k.f,c:=(cY k.c e s 1 i 15 0).2})):=rfl
 generalize lH k e s=rk at *;by_cases B:16<=s
 .have b:aH (rk=(0,1,k)):=by unfold aH;rw[M.o,Zz B]
  clear h hw M;go_enter func163,ntmps163
  go_wp2_with fail
  go_ret2
  rw[b.o];exact⟨rfl,⟨a,P.o⟩,Kp.refl _ _⟩
 .have b:aH (rk=if(mH k.c e s).isSome then(0,7,k) else match jH k.f with
   |none=>(0,20,{k with f:=fQ k.f})
   |some i=>if(cY k.c e s 1 i 15 0).1≠0 then(0,(cY k.c e s 1 i 15 0).1,{k with f:=fQ k.f,c:=(cY k.c e s 1 i 15 0).2}) else((i:Int),0,{k with f:=fQ k.f,c:=(cY k.c e s 1 i 15 0).2})):=by unfold aH;rw[M.o,aaA B]
  clear M;obtain⟨G,C,_⟩:=h.cp;have y:=LB C e s;have pc:=h.pc;unfold pA at pc;clear h C hw;cases hq:mH k.c e s with
  |some x=>
   rw[hq] at y b;have y:=aP y;clear hq;obtain⟨X,Y,Z,x4,x5⟩:=x;go_enter func163,ntmps163
   go_wp2_with fail
   refine aR y ?_;rintro r w2 ⟨rfl,j⟩;simp only[mA,ab4];have T:=aP (P.o.below (j.alloc j.size (aI #[X,Y,Z] 154)));clear j;go_wp2_with fail
   go_ret2
   rw[b.o];exact⟨rfl,⟨a,T.o.1⟩,T.o.2⟩
  |none=>
   rw[hq] at y b;have y:=aP y;clear hq;go_enter func163,ntmps163
   go_wp2_with fail
   refine aR y ?_;rintro r w2 ⟨rfl,j⟩;simp only[mA,ab5];have N:=aP (P.o.below (j.alloc j.size (aI #[aU,aU,aU] 154)));have pf:=N.o.1.pf;unfold pA at pf;obtain⟨G2,hf,back⟩:=N.o.1.fr;have p:=Ie k.f a.gf _ hf.m;have q:=aP hf;have O:=aP back;clear hf back j pc;cases d:jH k.f with
   |none=>
    have l:aH (rk=(0,20,{k with f:=fQ k.f})):=by unfold aH;rw[b.o,d];rfl
    unfold RY at p;rw[d] at p;have p:=aP p;clear d b;go_wp2_with fail
    refine aR p ?_;rintro r w4 ⟨rfl,u,g4⟩;obtain⟨t1,t2⟩:=q.o.eQ u g4;obtain⟨z,D⟩:=O.o _ _ t1 t2;have E:=bN z (N.o.2.trans D);clear u g4 t1 t2 z D O q p pf;go_wp2_with fail
    go_ret2
    rw[l.o];exact⟨rfl,⟨a,E.o.1⟩,E.o.2⟩
   |some i=>
    have l:aH (rk=if(cY k.c e s 1 i 15 0).1≠0 then(0,(cY k.c e s 1 i 15 0).1,{k with f:=fQ k.f,c:=(cY k.c e s 1 i 15 0).2}) else((i:Int),0,{k with f:=fQ k.f,c:=(cY k.c e s 1 i 15 0).2})):=by unfold aH;rw[b.o,d];rfl
    unfold RY at p;rw[d] at p;have p:=aP p;have U:i<32:=by
     unfold jH at d;have h1:=(aaT.1 d).1;have h2:=q.o.m.t;rw[abJ] at h1;omega
    clear d b;go_wp2_with fail
    refine aR p ?_;rintro r w4 ⟨rfl,u,g4⟩;obtain⟨t1,t2⟩:=q.o.eQ u g4;obtain⟨z,D⟩:=O.o _ _ t1 t2;obtain⟨G4,H,v⟩:=z.cp;have Q:=aP (PH H ⟨S.o.cn.1,by have:=S.o.cn.2;show k.c.n<=_;omega⟩ e s 1 i 15);have I:=aP v;have pc:=z.pc;unfold pA at pc;have E:=bN z (N.o.2.trans D);clear u g4 t1 t2 z D O q p pf H v;simp only at Q;generalize cY k.c e s 1 i 15 0=pr at *;go_wp2_with fail
    refine aR Q ?_;rintro r w5 ⟨rfl,J,K⟩;obtain⟨V,W⟩:=I.o _ _ J K;have L:=bN V (E.o.2.trans W);clear J K V W I Q pc E;obtain⟨p1,p2⟩:=pr;simp only at l L;by_cases hp:p1=0
    .have A:aH (rk=((i:Int),0,{k with f:=fQ k.f,c:=p2})):=by unfold aH;rw[l.o,aaA (by simpa using hp)]
     have R:(p1 !=0)=false:=by simp[hp]
     have hwi:IntKind.u64.wrap (i:Int)=(i:Int):=by rw[IntKind.wrap_u64];omega
     clear hp l;go_wp2_with fail
     go_ret2
     rw[A.o];exact⟨rfl,⟨a,L.o.1⟩,L.o.2⟩
    .have A:aH (rk=(0,p1,{k with f:=fQ k.f,c:=p2})):=by unfold aH;rw[l.o,Zz (by simpa using hp)]
     have R:(p1 !=0)=true:=by simp[hp]
     clear hp l;go_wp2_with fail
     go_ret2
     rw[A.o];exact⟨rfl,⟨a,L.o.1⟩,L.o.2⟩
end
section
theorem KN(h:bQ F w g a k)(e s:Int):aG prog 215 #[.pointer a.gc,e,s] w λx w'=>
 (rY k.c e s=none/\x= .returned (.tuple #[bH, .int .i64 23])/\bQ F w' g a k/\Kp F w w')\/
 (∃i A c L,rY k.c e s=some i/\x= .returned (.tuple #[.slice A (cP (bJ k.c i).nu false L).2.length c,aU])/\xI k L/\bI oH 5 w' w.heap.size 156 A c (cP (bJ k.c i).nu false L).2/\bQ (cE F A) w' g a {k with c:=gZ k.c (cP (bJ k.c i).nu false L).2}/\Kp F w w'):=by
 obtain⟨G,d,back⟩:=h.Qq;have hd:=UO d e s;cases hf:rY k.c e s with
 |none=>
  rw[hf] at hd;refine hd.mono ?_;rintro x w' ⟨rfl,hc,f⟩;obtain⟨h1,j⟩:=back k.c w' none (λq hq=>by cases hq) (hc.mono (λb hb=>by
   rcases hb with hb|hb
   .exact hb
   .cases hb)) f
  exact .inl ⟨rfl,rfl,h1.less (λb hb=> .inl hb),j⟩
 |some i=>
  rw[hf] at hd;refine hd.mono ?_;rintro x w' ⟨A,c,L,rfl,l,m,ho,hc,f⟩;obtain⟨h1,j⟩:=back _ _ A (λq hq=>(ho.lt q hq).1) (d.LA hc ho) f;exact .inr ⟨i,A,c,L,rfl,rfl,⟨l,m⟩,ho,h1,j⟩
theorem U8(h:bQ F w g a k)(e s:Int)(hf:rY k.c e s=none):aG prog 215 #[.pointer a.gc,e,s] w λx w'=>x= .returned (.tuple #[bH, .int .i64 23])/\bQ F w' g a k/\Kp F w w':=by
 refine(KN h e s).mono ?_;rintro x w' (⟨_,h1⟩|⟨i,A,c,L,h1,_⟩)
 .exact h1
 .rw[hf] at h1;cases h1
theorem SJ(h:bQ F w g a k)(e s:Int)(hf:rY k.c e s=some i):aG prog 215 #[.pointer a.gc,e,s] w λx w'=>
 ∃A c L,x= .returned (.tuple #[.slice A (cP (bJ k.c i).nu false L).2.length c,aU])/\xI k L/\bI oH 5 w' w.heap.size 156 A c (cP (bJ k.c i).nu false L).2/\bQ (cE F A) w' g a {k with c:=gZ k.c (cP (bJ k.c i).nu false L).2}/\Kp F w w':=by
 refine(KN h e s).mono ?_;rintro x w' (⟨h1,_⟩|⟨j,A,c,L,h1,b⟩)
 .rw[hf] at h1;cases h1
 .rw[hf] at h1;injection h1 with h1;subst h1;exact⟨A,c,L,b⟩
theorem Fs(h:bQ F w g a k)(hw:KW k)(e s:Int)(hf:eO k.c e s=none):aG prog 149 #[.pointer a.gc,e,s] w λx w'=>x= .returned (.tuple #[bH, .int .i64 23])/\bQ F w' g a k/\Kp F w w':=by
 refine(IC h hw e s).mono ?_;rintro x w' (⟨_,h1⟩|⟨i,A,c,L,h1,_⟩)
 .exact h1
 .rw[hf] at h1;cases h1
theorem Bp(h:bQ F w g a k)(hw:KW k)(e s:Int)(hf:eO k.c e s=some i):aG prog 149 #[.pointer a.gc,e,s] w λx w'=>
 ∃A c L,x= .returned (.tuple #[.slice A (cP (bJ k.c i).nu true L).2.length c,aU])/\xI k L/\bI oH 5 w' w.heap.size 156 A c (cP (bJ k.c i).nu true L).2/\bQ (cE F A) w' g a {k with c:=gZ k.c (cP (bJ k.c i).nu true L).2}/\Kp F w w':=by
 refine(IC h hw e s).mono ?_;rintro x w' (⟨h1,_⟩|⟨j,A,c,L,h1,b⟩)
 .rw[hf] at h1;cases h1
 .rw[hf] at h1;injection h1 with h1;subst h1;exact⟨A,c,L,b⟩
def Uc(op A B C D:Int):Array aC:=#[op,A,B,C,D]
structure BxK(F:Nat->Prop)(w w1:aA)(q1 g:Nat)(a:Ka)(k:Kv)(op A B C D:Int):Prop where
 m:bQ (Fb F q1) w1 g a k
 k:Kp F w w1
 b:bF w1 q1 281 (Uc op A B C D)
theorem BxK.new(h:bQ F w g a k)(op A B C D:Int):BxK F w (w.alloc (aI #[op,A,B,C,D] 281)) w g a k op A B C D:=
 ⟨(bQ.cD g a k).box h h.fl _,h.fl.below (aX w _),bF.new w _ _⟩
section
variable{F:Nat->Prop}{w w1 w2:aA}{q1 g:Nat}{a:Ka}{k:Kv}{op A B C D:Int}
theorem BxK.xs(h:BxK F w w1 q1 g a k op A B C D):w1.cell? (q1,0)=some (.int .i64 op)/\w1.cell? (q1,1)=some (.int .i64 A)/\w1.cell? (q1,2)=some (.int .i64 B)/\w1.cell? (q1,3)=some (.int .i64 C)/\w1.cell? (q1,4)=some (.int .i64 D):=
 ⟨h.b.cell 0 _ rfl,h.b.cell 1 _ rfl,h.b.cell 2 _ rfl,h.b.cell 3 _ rfl,h.b.cell 4 _ rfl⟩
theorem BxK.below(h:BxK F w w1 q1 g a k op A B C D)(hb:aD w1 w1 w2):BxK F w w2 q1 g a k op A B C D:=⟨(h.m.below hb).1,h.k.trans (h.m.below hb).2.unbox,h.b.keep hb⟩
theorem BxK.ret(h:BxK F w w1 q1 g a k op A B C D)(hm:bQ (Fb F q1) w2 g a' k')(kp:Kp (Fb F q1) w1 w2):BxK F w w2 q1 g a' k' op A B C D:=⟨hm,h.k.trans kp.unbox,kp.aY h.b (.inr rfl)⟩
theorem BxK.o(h:BxK F w w1 q1 g a k op A B C D):KM F w1 g k/\Kp F w w1:=⟨⟨a,h.m.less (λb hb=> .inl hb)⟩,h.k⟩
end
theorem QQ(h:bQ F w g a k)(hw:KW k)(e A B C D:Int):aG prog 169 #[.pointer g,e, .agg #[.int .i64 7,A,B,C,D]] w λr w'=>∃E k',gS k e 7 A B C D E k'/\gJ F g k' (.int .i64 E) w r w':=by
 have H1:=aP (BxK.new h 7 A B C D);have s:gS k e 7 A B C D (gU k.c e A e B C 0).1 {k with c:=(gU k.c e A e B C 0).2}:=by unfold gS;rw[Zz rfl]
 have l:=aP s;have t:=aP hw;clear h hw s;go_enter func169,ntmps169
 go_upto_region 1 with(fail)
 generalize w.alloc (aI #[.int .i64 7,A,B,C,D] 281)=w1 at *;generalize w.heap.size=q1 at *;obtain⟨O,u,y,z,P⟩:=H1.o.xs;go_upto_region 3 with(fail)
 have pc:=H1.o.m.pc;unfold pA at pc;have b:=bD pc;have f:=bD u;have i:=bD y;have j:=bD z;refine bO (bS _) (λ_=>bS) [] (λ_ _ _=>True) [11,12] [] 120 (bY _) (λ_ _ _ h H=>bU h H) (λ_ d hd _ v w w' _ h H=>by cases hd) aV aV bL ?_;repeat refine eA ?_
 refine dC ?_;intro γ w5 hb5 hT;clear b f i j;simp only[cO,Act.put,Zx,aaE,aaD];refine dP ?_;have q:=H1.o.below hb5;obtain⟨G,hc,back⟩:=q.m.cp;have HD:=aP (XH hc ⟨t.o.cn.1,by have:=t.o.cn.2;omega⟩ e A B C);have I:=aP back;have J:=aP q;clear hc back q hb5 hT H1 O u y z P pc;generalize gU k.c e A e B C 0=r at *;refine wpList_plain rfl (λK hK=>?_);go_wp2_with fail
 refine aR HD ?_;rintro x Q ⟨rfl,n,p⟩;obtain⟨L,M⟩:=I.o _ _ n p;have N:=aP (J.o.ret L M).o;clear n p L M I HD J;refine hK _ _ ?_;clear hK K;refine wpList_plain rfl (λK hK=>?_);go_simp
 refine hK _ _ ?_;clear hK K;refine cI ?_;try refine dE ?_
 go_wp2_with fail
 go_ret
 exact⟨_,_,l.o,rfl,N.o.1,N.o.2⟩
theorem XQ(h:bQ F w g a k)(hw:KW k)(e A B C D:Int):aG prog 169 #[.pointer g,e, .agg #[.int .i64 8,A,B,C,D]] w λr w'=>∃E k',gS k e 8 A B C D E k'/\gJ F g k' (.int .i64 E) w r w':=by
 have H1:=aP (BxK.new h 8 A B C D);have L:nY B=true->gS k e 8 A B C D (gU k.c e A B C D 4).1 {k with c:=(gU k.c e A B C D 4).2}:=λf=>by unfold gS;rw[aaA aQ,Zz rfl,Zz f]
 have s:nY B=false->gS k e 8 A B C D 1 k:=λf=>by unfold gS;rw[aaA aQ,Zz rfl,aaA (by simp[f])];exact⟨rfl,rfl⟩
 have b:=bN L s;have M:=aP hw;have i:=BO H1.o.m B;clear h hw L s;cases f:nY B with
 |false=>
  rw[f] at i;have i:=aP i;have b:=aP (b.o.2 f);clear f;go_enter func169,ntmps169
  go_upto_region 1 with(fail)
  generalize w.alloc (aI #[.int .i64 8,A,B,C,D] 281)=w1 at *;generalize w.heap.size=q1 at *;obtain⟨N,y,z,H,I⟩:=H1.o.xs;go_wp2_with fail
  refine aR i ?_;rintro x O ⟨rfl,rfl⟩;go_wp2_with fail
  go_ret
  exact⟨_,_,b.o,rfl,H1.o.o.1,H1.o.o.2⟩
 |true=>
  rw[f] at i;have i:=aP i;have b:=aP (b.o.1 f);clear f;go_enter func169,ntmps169
  go_upto_region 1 with(fail)
  generalize w.alloc (aI #[.int .i64 8,A,B,C,D] 281)=w1 at *;generalize w.heap.size=q1 at *;obtain⟨N,y,z,H,I⟩:=H1.o.xs;go_wp2_with fail
  refine aR i ?_;rintro x O ⟨rfl,rfl⟩;have pc:=H1.o.m.pc;unfold pA at pc;go_upto_region 7 with(fail)
  have j:=bD pc;have l:=bD y;have n:=bD z;have p:=bD H;have q:=bD I;refine bO (bS _) (λ_=>bS) [] (λ_ _ _=>True) [13,14] [] 120 (bY _) (λ_ _ _ h P=>bU h P) (λ_ d hd _ v w w' _ h P=>by cases hd) aV aV bL ?_;repeat refine eA ?_
  refine dC ?_;intro γ w5 hb5 hT;clear j l n p q;simp only[cO,Act.put,Zx,aaE,aaD];refine dP ?_;have J:=H1.o.below hb5;obtain⟨G,hc,back⟩:=J.m.cp;have HD:=aP (I0 hc ⟨M.o.cn.1,by have:=M.o.cn.2;omega⟩ e A B C D);have Q:=aP back;have R:=aP J;clear hc back J hb5 hT H1 N y z H I pc i;generalize gU k.c e A B C D 4=r at *;refine wpList_plain rfl (λK hK=>?_);go_wp2_with fail
  refine aR HD ?_;rintro x O ⟨rfl,t,u⟩;obtain⟨S,T⟩:=Q.o _ _ t u;have U:=aP (R.o.ret S T).o;clear t u S T Q HD R;refine hK _ _ ?_;clear hK K;refine wpList_plain rfl (λK hK=>?_);go_simp
  refine hK _ _ ?_;clear hK K;refine cI ?_;try refine dE ?_
  go_wp2_with fail
  go_ret
  exact⟨_,_,b.o,rfl,U.o.1,U.o.2⟩
theorem QK(h:bQ F w g a k)(hw:KW k)(e A B C D:Int):aG prog 169 #[.pointer g,e, .agg #[.int .i64 9,A,B,C,D]] w λr w'=>∃E k',gS k e 9 A B C D E k'/\gJ F g k' (.int .i64 E) w r w':=by
 have H1:=aP (BxK.new h 9 A B C D);have d:aH (∀(E:Int) (k':Kv),pV k e A E k'->gS k e 9 A B C D E k'):=λE k' J=>by unfold gS;rw[aaA aQ,aaA aQ,Zz rfl];exact J
 have K:=aP hw;clear h hw;go_enter func169,ntmps169
 go_upto_region 1 with(fail)
 generalize w.alloc (aI #[.int .i64 9,A,B,C,D] 281)=w1 at *;generalize w.heap.size=q1 at *;obtain⟨R,y,S,T,U⟩:=H1.o.xs;have pc:=H1.o.m.pc;unfold pA at pc;cases hf:rY k.c e A with
 |none=>
  have l:aH (gS k e 9 A B C D 23 k):=d.o 23 k (by unfold pV;rw[hf];exact⟨rfl,rfl⟩);have HD:=aP (U8 (H1.o.below (Below.refl w1 w1).drew).m e A hf);clear hf d;go_upto_region 9 with(fail)
  go_region_held3 (λW=>W.cell? (g,2)=some (.pointer a.gc)/\W.cell? (q1,1)=some (.int .i64 A)) (first|exact⟨pc,y⟩|exact⟨‹_›,‹_›⟩) ((go_at_call 215;(refine aR HD ?_);rintro x M ⟨rfl,n,s⟩;(have u:=n.pc);(unfold pA at u);(have N:=s.cell y (.inr rfl));(have j:=aP ((H1.o.below (Below.refl w1 w1).drew).ret n s).o);clear n s))
  go_wp2_with fail
  go_ret
  exact⟨_,_,l.o,rfl,j.o.1,j.o.2⟩
 |some i=>
  have l:aH (∀L,xI k L->gS k e 9 A B C D 0 (iR k (bJ k.c i).nu false L)):=λL O=>d.o 0 _ (by unfold pV;rw[hf];exact⟨rfl,L,O,rfl⟩)
  have HD:=aP (SJ (H1.o.below (Below.refl w1 w1).drew).m e A hf);clear hf d;go_upto_region 9 with(fail)
  go_region_held3 (λW=>W.cell? (g,2)=some (.pointer a.gc)/\W.cell? (q1,1)=some (.int .i64 A)) (first|exact⟨pc,y⟩|exact⟨‹_›,‹_›⟩) ((go_at_call 215;(refine aR HD ?_);rintro x M ⟨V,c3,L,rfl,z,v,n,s⟩;(have u:=n.pc);(unfold pA at u);(have N:=s.cell y (.inr rfl));(have j:=dA z v (And.intro n s));clear z v n s))
  have f:=wO (bJ k.c i).nu false L;have hlen:(cP (bJ k.c i).nu false L).2.length<=128:=aaC f.1 (by rw[j.o.1.1.length_eq];exact B0 _);have G:=aP (zN j.o.2.2.1 K.o.t j.o.2.1 (λq hq=> .inr hq) aQ (λp hp=>KU (j.o.1.1.mem_iff.1 (f.2 p hp))));clear f;generalize hm:(cP (bJ k.c i).nu false L).2.length=m at *;clear hm;go_wp2_with fail
  refine aR G ?_;rintro x P ⟨rfl,H,I⟩;have Q:aH (∃E k',gS k e 9 A B C D E k'/\gJ F g k' (.int .i64 E) w (.returned (.int .i64 0)) P):=⟨0,_,l.o L j.o.1,rfl,H.less (λb hb=> .inl (.inl hb)),(H1.o.below (Below.refl w1 w1).drew).k.trans ((j.o.2.2.2.unbox).trans (I.mono (λb hb=> .inl (.inl hb))))⟩
  clear H I j G;go_wp2_with fail
  go_ret
  exact Q.o
theorem fX.Ae{l:List cM}(r:fX l k k'){p:cM}(h:¬(p.h.kd=1/\kY k' p.h.ob=false/\dH k'.f p.h.ob=true)):fX (l++ [p]) k k':=by
 induction r with
 |nil k=>exact .skip h (.nil k)
 |skip b r c=>first|exact .skip b (c h)|exact .skip b c
 |gI b r1 r c=>first|exact .gI b r1 (c h)|exact .gI b r1 c
theorem fX.snoc{l:List cM}(r:fX l k k1){p:cM}(h:p.h.kd=1/\kY k1 p.h.ob=false/\dH k1.f p.h.ob=true)(r1:kC k1 p.h.ob k'):fX (l++ [p]) k k':=by
 induction r with
 |nil k=>exact .gI h r1 (.nil _)
 |skip b r c=>first|exact .skip b (c h r1)|exact .skip b c
 |gI b d r c=>first|exact .gI b d (c h r1)|exact .gI b d c
theorem fX.kw{l:List cM}(r:fX l k k')(w:KW k):KW k':=by
 induction r with
 |nil k=>exact w
 |skip h r b=>exact b w
 |gI h r1 r b=>exact b (r1.kw w)
theorem XP(h:bQ F w g a k)(hw:KW k)(e A B C D:Int):aG prog 169 #[.pointer g,e, .agg #[.int .i64 10,A, .int .i64 B,C,D]] w λr w'=>∃E k',gS k e 10 A B C D E k'/\gJ F g k' (.int .i64 E) w r w':=by
 have H1:=aP (BxK.new h 10 A B C D);have P:aH (∀(E:Int) (k':Kv),wC k e A E k'->gS k e 10 A B C D E k'):=λE k' hr=>by unfold gS;rw[aaA aQ,aaA aQ,aaA aQ];exact hr
 have HW:=aP hw;clear h hw;go_enter func169,ntmps169
 go_upto_region 1 with(fail)
 generalize w.alloc (aI #[.int .i64 10,A, .int .i64 B,C,D] 281)=w1 at *;generalize w.heap.size=q1 at *;obtain⟨x0,x1,x2,x3,x4⟩:=H1.o.xs;have pc:=H1.o.m.pc;unfold pA at pc;cases hf:eO k.c e A with
 |none=>
  have HR2:aH (gS k e 10 A B C D 23 k):=P.o 23 k (by unfold wC;rw[hf];exact⟨rfl,rfl⟩);have HD:=aP (Fs (H1.o.below (Below.refl w1 w1).drew).m HW.o e A hf);clear hf P;go_upto_region 14 with(fail)
  go_region_held3 (λW=>W.cell? (g,2)=some (.pointer a.gc)/\W.cell? (q1,1)=some (.int .i64 A)) (first|exact⟨pc,x1⟩|exact⟨‹_›,‹_›⟩) ((go_at_call 149;(refine aR HD ?_);rintro x w3 ⟨rfl,h3,k3⟩;(have pc3:=h3.pc);(unfold pA at pc3);(have y1:=k3.cell x1 (.inr rfl));(have X:=aP ((H1.o.below (Below.refl w1 w1).drew).ret h3 k3).o);clear h3 k3))
  go_wp2_with fail
  go_ret
  exact⟨_,_,HR2.o,rfl,X.o.1,X.o.2⟩
 |some i=>
  have HR2:aH (∀L k',xI k L->fX (cP (bJ k.c i).nu true L).2 (iR k (bJ k.c i).nu true L) k'->gS k e 10 A B C D 0 k'):=λL k' hL hl=>P.o 0 _ (by unfold wC;rw[hf];exact⟨rfl,L,hL,hl⟩)
  have HD:=aP (Bp (H1.o.below (Below.refl w1 w1).drew).m HW.o e A hf);clear hf P;go_upto_region 14 with(fail)
  go_region_held3 (λW=>W.cell? (g,2)=some (.pointer a.gc)/\W.cell? (q1,1)=some (.int .i64 A)) (first|exact⟨pc,x1⟩|exact⟨‹_›,‹_›⟩) ((go_at_call 149;(refine aR HD ?_);rintro x w3 ⟨A3,c3,L,rfl,T,ho3,h3,k3⟩;(have pc3:=h3.pc);(unfold pA at pc3);(have y1:=k3.cell x1 (.inr rfl));(have X:=dA T ho3 (And.intro h3 k3));clear T ho3 h3 k3))
  have Y:=wO (bJ k.c i).nu true L;have hlen:(cP (bJ k.c i).nu true L).2.length<=128:=aaC Y.1 (by rw[X.o.1.1.length_eq];exact B0 _);have hge:∀p∈(cP (bJ k.c i).nu true L).2,0<=p.e:=λp hp=>KU (X.o.1.1.mem_iff.1 (Y.2 p hp))
  have HG:=aP (zN X.o.2.2.1 HW.o.t X.o.2.1 (λq hq=> .inr hq) aQ hge);have HR3:=aP (λk' hl=>HR2.o L k' X.o.1 hl);have HKW:aH (KW (iR k (bJ k.c i).nu true L)):=HW.o.nO _ _ _;have HKD:aH ({{k with c:=gZ k.c (cP (bJ k.c i).nu true L).2} with t:=iF k.t (cP (bJ k.c i).nu true L).2}=iR k (bJ k.c i).nu true L):=rfl;clear Y hge;generalize iR k (bJ k.c i).nu true L=kf at *;generalize (cP (bJ k.c i).nu true L).2=S at *;obtain⟨m,hm⟩:∃m,m=S.length:=⟨_,rfl⟩
  have HMm:=aP hm;rw[<-hm] at HG hlen;rw[<-hm];have H3o:=bN X.o.2.1 X.o.2.2.2;clear hm X HR2 HD;go_wp2_with fail
  refine aR HG ?_;rintro x w4 ⟨rfl,h4,k4⟩;rw[HKD.o] at h4;have H4:aH (KM (cE (Fb F q1) A3) w4 g kf/\Kp F w w4/\∃B,bI oH 5 w4 B 156 A3 c3 S):=⟨h4,(H1.o.below (Below.refl w1 w1).drew).k.trans ((H3o.o.2.unbox).trans (k4.mono (λb hb=> .inl (.inl hb)))),_,H3o.o.1.kp k4 (λq hq=> .inr hq)⟩
  clear h4 k4 HG HKD H3o pc3 y1;go_wp2_with fail
  go_loopw [88] (λv88 wr=>∃j:Nat,v88= .int .i64 j/\j<=m/\aH (∃k',fX (S.take j) kf k'/\KM (cE (Fb F q1) A3) wr g k'/\Kp F w wr/\∃B,bI oH 5 wr B 156 A3 c3 S)) (λv88 _=>m - (aL v88).toNat)
  case atStart=>exact⟨0,rfl,aaH _,kf, .nil kf,H4.o⟩
  case round=>
   clear H4;obtain⟨j,rfl,hj,HX⟩:=hrel;obtain⟨I,hL,⟨a1,h1⟩,hK,B1,T⟩:=HX.o;by_cases hjm:j<m
   .have N:j<S.length:=by rw[<-HMm.o];exact hjm
    obtain⟨q,rfl⟩:∃q,A3=some ⟨q,0,none⟩:=by
     rcases T.shape with⟨_,h2,_⟩|h2
     .rw[h2] at N;simp at N
     .exact h2
    have e0:=bM fV T N (j:=0) (v:= .int .i64 S[j].e) rfl;have e1:=bM fV T N (j:=1) (v:= .int .i64 S[j].s) rfl;have e2:=bM fV T N (j:=2) (v:= .int .i64 S[j].h.kd) rfl;have e3:=bM fV T N (j:=3) (v:= .int .i64 S[j].h.ob) rfl;have e4:=bM fV T N (j:=4) (v:= .int .i64 S[j].h.rt) rfl;rw[aaU] at e0;have k0:(0:Int)<=j:=aQ;have k2:(j:Int)<(m:Int):=aQ;have htk:aH (S.take (j+1)=S.take j++ [S[j]]):=by unfold aH;rw[abE,Zv N];rfl
    have HLS:aH (¬(S[j].h.kd=1/\kY I S[j].h.ob=false/\dH I.f S[j].h.ob=true)->fX (S.take j++ [S[j]]) kf I):=λhp=>hL.Ae hp
    have HLL:aH (∀k',(S[j].h.kd=1/\kY I S[j].h.ob=false/\dH I.f S[j].h.ob=true)->kC I S[j].h.ob k'->fX (S.take j++ [S[j]]) kf k'):=λk' hp r=>hL.snoc hp r
    have HKW1:=aP (hL.kw HKW.o);generalize S[j]=y at *;obtain⟨y1,y2,U,J,y5,y6,y7⟩:=y;simp only at e0 e1 e2 e3 e4 HLS HLL;have hb3:=aX wr (aI #[y1,y2,U,J,y5] 156);have yb:=bF.new wr 156 #[y1,y2,U,J,y5];have M:aH (bQ (cE (Fb F q1) (some ⟨q,0,none⟩)) (wr.alloc (aI #[y1,y2,U,J,y5] 156)) g a1 I/\Kp F w (wr.alloc (aI #[y1,y2,U,J,y5] 156))/\bI oH 5 (wr.alloc (aI #[y1,y2,U,J,y5] 156)) B1 156 (some ⟨q,0,none⟩) c3 S):=⟨(h1.below hb3).1,hK.trans ((h1.below hb3).2.mono (λb hb=> .inl (.inl hb))),T.keep hb3⟩
    clear hb3 h1 hK T hL HX;go_upto_region 21 with(fail)
    clear e0 e1 e2 e3 e4;generalize wr.alloc (aI #[y1,y2,U,J,y5] 156)=w5 at *;generalize wr.heap.size=q5 at *;have Z:=yb.cell 2 U rfl;have Q:=yb.cell 3 J rfl;have pf:=M.o.1.pf;unfold pA at pf;obtain⟨G,hfr,_⟩:=M.o.1.fr;have O:aH (∀W,aD w5 w5 W->aG prog 151 #[.pointer g,J] W λe w'=>e= .returned (.bool (kY I J))/\aD W.heap.size W w'):=λW hW=>PZ (M.o.1.below hW).1 J
    have jN:aH (∀W,aD w5 w5 W->aG prog 14 #[.pointer a1.gf,J] W λe w'=>e= .returned (.bool (dH I.f J))/\W=w'):=λW hW=>EK I.f a1.gf J W (hfr.keep hW).1.m
    clear hfr;by_cases hc:U=1/\kY I J=false/\dH I.f J=true
    .obtain⟨H,K,R⟩:=hc;have HLL2:=aP (λk' r=>HLL.o k' ⟨H,K,R⟩ r);have hc1':(U==1)=true:=by simp[H]
     rw[K] at O;rw[R] at jN;clear H K R HLS HLL;(have n:=bZ.cell pf;have d:=bZ.cell Z;have l:=bZ.cell Q;refine dB aV aV ?_;(repeat (go_big_quiet_step ((first|(go_at_call 151;with_reducible exact iL (O.o _ (bZ.ok _)))|(go_at_call 14;with_reducible exact pF (jN.o _ (bZ.ok _)))))));refine wpQuiet_nil ?_;clear n d l;intro V z;have u:=bZ.below z;clear z)
     have z3:=bG u Q;have H6:=aP (M.o.1.below u);have HO6:=aP (M.o.2.2.keep u);have HLo:=aP (EN H6.o.1 HKW1.o J);clear u O jN Z Q pf yb;go_wp2_with fail
     refine aR HLo ?_;rintro x w7 ⟨k7,hL7,rfl,h7,kp7⟩;have H7:aH (∃k',fX (S.take (j+1)) kf k'/\KM (cE (Fb F q1) (some ⟨q,0,none⟩)) w7 g k'/\Kp F w w7/\∃B,bI oH 5 w7 B 156 (some ⟨q,0,none⟩) c3 S):=⟨k7,by rw[htk.o];exact HLL2.o k7 hL7,h7,M.o.2.1.trans ((H6.o.2.trans kp7).mono (λb hb=> .inl (.inl hb))),B1,HO6.o.kp kp7 (λr hr=> .inr hr)⟩
     clear hL7 h7 kp7 z3;go_wp2_with fail
     go_roundw
     case rel=>exact⟨j+1,by go_num,aQ,H7.o⟩
     case measure=>simp[aL];omega
    .have a6:=aP (HLS.o hc);clear HLS HLL;by_cases H:U=1
     .have hc1':(U==1)=true:=by simp[H]
      cases K:kY I J with
      |true=>
       rw[K] at O;clear hc H K;(have n:=bZ.cell pf;have d:=bZ.cell Z;have l:=bZ.cell Q;refine dB aV aV ?_;(repeat (go_big_quiet_step ((first|(go_at_call 151;with_reducible exact iL (O.o _ (bZ.ok _)))|(go_at_call 14;with_reducible exact pF (jN.o _ (bZ.ok _)))))));refine wpQuiet_nil ?_;clear n d l;intro V z;have u:=bZ.below z;clear z)
       have H7:aH (∃k',fX (S.take (j+1)) kf k'/\KM (cE (Fb F q1) (some ⟨q,0,none⟩)) V g k'/\Kp F w V/\∃B,bI oH 5 V B 156 (some ⟨q,0,none⟩) c3 S):=⟨I,by rw[htk.o];exact a6.o,⟨a1,(M.o.1.below u).1⟩,M.o.2.1.trans ((M.o.1.below u).2.mono (λb hb=> .inl (.inl hb))),B1,M.o.2.2.keep u⟩
       clear u;go_wp2_with fail
       go_roundw
       case rel=>exact⟨j+1,by go_num,aQ,H7.o⟩
       case measure=>simp[aL];omega
      |false=>
       have R:dH I.f J=false:=by
        cases ht:dH I.f J with
        |false=>rfl
        |true=>exact absurd ⟨H,K,ht⟩ hc
       rw[K] at O;rw[R] at jN;clear hc H K R;(have n:=bZ.cell pf;have d:=bZ.cell Z;have l:=bZ.cell Q;refine dB aV aV ?_;(repeat (go_big_quiet_step ((first|(go_at_call 151;with_reducible exact iL (O.o _ (bZ.ok _)))|(go_at_call 14;with_reducible exact pF (jN.o _ (bZ.ok _)))))));refine wpQuiet_nil ?_;clear n d l;intro V z;have u:=bZ.below z;clear z)
       have H7:aH (∃k',fX (S.take (j+1)) kf k'/\KM (cE (Fb F q1) (some ⟨q,0,none⟩)) V g k'/\Kp F w V/\∃B,bI oH 5 V B 156 (some ⟨q,0,none⟩) c3 S):=⟨I,by rw[htk.o];exact a6.o,⟨a1,(M.o.1.below u).1⟩,M.o.2.1.trans ((M.o.1.below u).2.mono (λb hb=> .inl (.inl hb))),B1,M.o.2.2.keep u⟩
       clear u;go_wp2_with fail
       go_roundw
       case rel=>exact⟨j+1,by go_num,aQ,H7.o⟩
       case measure=>simp[aL];omega
     .have hc1':(U==1)=false:=by simp[H]
      clear hc H;(have n:=bZ.cell pf;have d:=bZ.cell Z;have l:=bZ.cell Q;refine dB aV aV ?_;(repeat (go_big_quiet_step ((first|(go_at_call 151;with_reducible exact iL (O.o _ (bZ.ok _)))|(go_at_call 14;with_reducible exact pF (jN.o _ (bZ.ok _)))))));refine wpQuiet_nil ?_;clear n d l;intro V z;have u:=bZ.below z;clear z)
      have H7:aH (∃k',fX (S.take (j+1)) kf k'/\KM (cE (Fb F q1) (some ⟨q,0,none⟩)) V g k'/\Kp F w V/\∃B,bI oH 5 V B 156 (some ⟨q,0,none⟩) c3 S):=⟨I,by rw[htk.o];exact a6.o,⟨a1,(M.o.1.below u).1⟩,M.o.2.1.trans ((M.o.1.below u).2.mono (λb hb=> .inl (.inl hb))),B1,M.o.2.2.keep u⟩
      clear u;go_wp2_with fail
      go_roundw
      case rel=>exact⟨j+1,by go_num,aQ,H7.o⟩
      case measure=>simp[aL];omega
   .obtain rfl:j=m:=aQ;have k2:¬(j:Int)<(j:Int):=aQ;have hST:S.take j=S:=aaS (by rw[<-HMm.o];exact Zw _);rw[hST] at hL;have HE:aH (∃E k',gS k e 10 A B C D E k'/\gJ F g k' (.int .i64 E) w (.returned (.int .i64 0)) wr):=⟨0,I,HR3.o I hL,rfl,⟨a1,h1.less (λb hb=> .inl (.inl hb))⟩,hK⟩
    clear hST hL h1 hK T HX;go_wp2_with fail
    go_ret
    exact HE.o
end
end
end Go.Proofs.YtacgiflhgdaeaaaGreat
