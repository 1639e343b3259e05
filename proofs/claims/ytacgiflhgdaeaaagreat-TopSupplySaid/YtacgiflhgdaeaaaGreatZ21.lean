/- Texts laid as one. -/
import Derived.Test.YtacgiflhgdaeaaaGreatZ17
import Derived.Test.YtacgiflhgdaeaaaGreatZ20
set_option linter.unusedVariables false
set_option linter.unusedSimpArgs false
set_option maxRecDepth 100000
set_option maxHeartbeats 20000000
namespace Go.Proofs.YtacgiflhgdaeaaaGreat
open Go.Proofs.Tryz
open Go renaming World->aA,Calls->aG
open Go.RowKit renaming Below->aD,Hid->aH,intOf->aL
open Go.Obj renaming cells->aI
section
open Go.RowKit Go.Lib Go.Shelf dH
variable{F:Nat->Prop}{w:aA}{g:Nat}{L:List En}
section
namespace Df
variable{F:Nat->Prop}{w:aA}{g q:Nat}{L:List En}{h:Int}
theorem MG{c:Nat}{m:Int}(a p:Int)(b1 b2:Nat)(G:0<=a)(t:Tb w g q c L h m)(A:Ol F w)(B:¬F g)(hq:¬F q)(C:L.length<=1000)(f1:F b1)(f2:F b2)(c1:w.cell? (b1,0)=some (.int .i64 p))(c2:w.cell? (b2,0)=some (.int .i64 a)):
 aG prog 211 #[.pointer g, .func (.func 237) #[] #[.pointer b1, .pointer b2]] w (CJ F g L a p w):=by
 have c0:=t.1.cell 0 (.slice q L.length c) rfl;have u:g≠q:=λe=>by have:=(t.2.lt q rfl).1;omega
 have HD:=aP (I9 q c (g+1) L a p b1 b2 w G t.2 C (λe=>hq (e ▸ f1)) (λe=>hq (e ▸ f2)) c1 c2);have D:=aP t;have d:=cZ A B hq;have hle:(st L a p).length<=L.length:=ac6 _ _;obtain⟨n,v⟩:∃n,n=L.length:=⟨_,rfl⟩
 rw[<-v] at c0 C hle;have x:aH (aG prog 247 #[.slice q n c, .func (.func 237) #[] #[.pointer b1, .pointer b2]] w (yE L a p q c (g+1) w)):=by
  have:=HD.o;rw[<-v] at this;exact this
 clear HD t A B hq v f1 f2 c1 c2;go_enter func211,ntmps211
 go_upto_region 4 with(fail)
 go_wp2_with fail
 refine aR x ?_;rintro e f ⟨rfl,k,i⟩;have b:bC f g 314 #[.slice q L.length c,h,m]:=D.o.1.grown i (λe=>u (by injection e));have f0:=b.frozen 0;have d0:f.cell? (g,0)=some (.slice q L.length c):=b.cell 0 _ rfl;have j:Tb (f.setCell (g,0) (.slice q (st L a p).length c)) g q c (st L a p) h m:=Tb.slot D.o b k;have l:Kp F w f:=d.o.1.self d.o.2.2 i;have y:=(d.o.1.kp l).self d.o.2.1 (aY (bE f g) 0 (.slice q (st L a p).length c));have H:=j.1.cell 0 (.slice q (st L a p).length c) rfl;have E:aH (iJ F (f.setCell (g,0) (.slice q (st L a p).length c)) g (st L a p)/\Kp F w (f.setCell (g,0) (.slice q (st L a p).length c))):=
  ⟨⟨_,_,_,_,j,(d.o.1.kp l).kp y,d.o.2.1,λr z=>by injection z with z;rw[<-z];exact d.o.2.2⟩,l.trans y⟩
 clear k i b j l y c0;generalize (st L a p).length=s at *;go_wp2_with fail
 go_ret
 exact⟨_,rfl,E.o.1,E.o.2⟩
theorem MQ{c:Nat}{m:Int}(a p:Int)(b1 b2:Nat)(x:0<=a)(t:Tb w g none c [] h m)(n:Ol F w)(q:¬F g)(c1:w.cell? (b1,0)=some (.int .i64 p))(c2:w.cell? (b2,0)=some (.int .i64 a)):
 aG prog 211 #[.pointer g, .func (.func 237) #[] #[.pointer b1, .pointer b2]] w (CJ F g [] a p w):=by
 have c0:=t.1.cell 0 (.slice none 0 c) rfl;have f0:=t.1.frozen 0;have u:aH (aG prog 274 #[.slice none 0 c, .func (.func 237) #[] #[.pointer b1, .pointer b2]] w λe w'=>e= .returned (.int .i64 (-1))/\aD w w w'):=nD none [] c a p b1 b2 w x (Sl.nil _ _) aT c1 c2;have k:=aP t;have i:=bH n q;have HD:aH (aG prog 247 #[.slice none 0 c, .func (.func 237) #[] #[.pointer b1, .pointer b2]] w λe w'=>e= .returned (.slice none 0 c)/\aD w w w'):=by
  unfold aH;clear k i c0 f0 n q t;go_enter func247,ntmps247
  go_wp2_with fail
  refine aR u ?_;rintro e d ⟨rfl,j⟩;go_wp2_with fail
  go_ret
  exact⟨rfl,j⟩
 clear u t n q c1 c2;go_enter func211,ntmps211
 go_upto_region 4 with(fail)
 go_wp2_with fail
 refine aR HD ?_;rintro e d ⟨rfl,j⟩;have b:=k.o.1.keep j;have f0:=b.frozen 0;have d0:d.cell? (g,0)=some (.slice none 0 c):=b.cell 0 _ rfl;have f:Tb (d.setCell (g,0) (.slice none 0 c)) g none c [] h m:=Tb.slot k.o b (k.o.2.keep j);have l:Kp F w d:=i.o.1.below j;have s:=(i.o.1.kp l).self i.o.2 (aY (bE d g) 0 (.slice none 0 c));have z:=f.1.cell 0 (.slice none 0 c) rfl;have v:aH (iJ F (d.setCell (g,0) (.slice none 0 c)) g []/\Kp F w (d.setCell (g,0) (.slice none 0 c))):=
  ⟨⟨_,_,_,_,f,(i.o.1.kp l).kp s,i.o.2,λr y=>by cases y⟩,l.trans s⟩
 clear j b f l s c0;go_wp2_with fail
 go_ret
 exact⟨_,rfl,v.o.1,v.o.2⟩
theorem L0(a p:Int)(b1 b2:Nat)(b:0<=a)(t:iJ F w g L)(d:L.length<=1000)(f1:F b1)(f2:F b2)(c1:w.cell? (b1,0)=some (.int .i64 p))(c2:w.cell? (b2,0)=some (.int .i64 a)):
 aG prog 211 #[.pointer g, .func (.func 237) #[] #[.pointer b1, .pointer b2]] w (CJ F g L a p w):=by
 obtain⟨A,c,x,m,t1,t2,t3,t4⟩:=t;rcases t1.2.shape with⟨rfl,rfl,rfl⟩|⟨q,rfl⟩
 .exact MQ a p b1 b2 b t1 t2 t3 c1 c2
 .exact MG a p b1 b2 b t1 t2 t3 (t4 q rfl) d f1 f2 c1 c2
end Df
namespace Dr
variable{F:Nat->Prop}{w:aA}{g q:Nat}{L:List En}{h:Int}
theorem MG{c:Nat}{m:Int}(a p:Int)(b1 b2:Nat)(t:Tb w g q c L h m)(A:Ol F w)(B:¬F g)(hq:¬F q)(C:L.length<=1000)(f1:F b1)(f2:F b2)(c1:w.cell? (b1,0)=some (.int .i64 a))(c2:w.cell? (b2,0)=some (.int .i64 p)):
 aG prog 211 #[.pointer g, .func (.func 212) #[] #[.pointer b1, .pointer b2]] w (CJ F g L a p w):=by
 have c0:=t.1.cell 0 (.slice q L.length c) rfl;have u:g≠q:=λe=>by have:=(t.2.lt q rfl).1;omega
 have HD:=aP (I9 q c (g+1) L a p b1 b2 w t.2 C (λe=>hq (e ▸ f1)) (λe=>hq (e ▸ f2)) c1 c2);have D:=aP t;have d:=cZ A B hq;have hle:(st L a p).length<=L.length:=ac6 _ _;obtain⟨n,v⟩:∃n,n=L.length:=⟨_,rfl⟩
 rw[<-v] at c0 C hle;have x:aH (aG prog 247 #[.slice q n c, .func (.func 212) #[] #[.pointer b1, .pointer b2]] w (yE L a p q c (g+1) w)):=by
  have:=HD.o;rw[<-v] at this;exact this
 clear HD t A B hq v f1 f2 c1 c2;go_enter func211,ntmps211
 go_upto_region 4 with(fail)
 go_wp2_with fail
 refine aR x ?_;rintro e f ⟨rfl,k,i⟩;have b:bC f g 314 #[.slice q L.length c,h,m]:=D.o.1.grown i (λe=>u (by injection e));have f0:=b.frozen 0;have d0:f.cell? (g,0)=some (.slice q L.length c):=b.cell 0 _ rfl;have j:Tb (f.setCell (g,0) (.slice q (st L a p).length c)) g q c (st L a p) h m:=Tb.slot D.o b k;have l:Kp F w f:=d.o.1.self d.o.2.2 i;have y:=(d.o.1.kp l).self d.o.2.1 (aY (bE f g) 0 (.slice q (st L a p).length c));have G:=j.1.cell 0 (.slice q (st L a p).length c) rfl;have E:aH (iJ F (f.setCell (g,0) (.slice q (st L a p).length c)) g (st L a p)/\Kp F w (f.setCell (g,0) (.slice q (st L a p).length c))):=
  ⟨⟨_,_,_,_,j,(d.o.1.kp l).kp y,d.o.2.1,λr z=>by injection z with z;rw[<-z];exact d.o.2.2⟩,l.trans y⟩
 clear k i b j l y c0;generalize (st L a p).length=s at *;go_wp2_with fail
 go_ret
 exact⟨_,rfl,E.o.1,E.o.2⟩
theorem MQ{c:Nat}{m:Int}(a p:Int)(b1 b2:Nat)(t:Tb w g none c [] h m)(n:Ol F w)(q:¬F g)(c1:w.cell? (b1,0)=some (.int .i64 a))(c2:w.cell? (b2,0)=some (.int .i64 p)):
 aG prog 211 #[.pointer g, .func (.func 212) #[] #[.pointer b1, .pointer b2]] w (CJ F g [] a p w):=by
 have c0:=t.1.cell 0 (.slice none 0 c) rfl;have f0:=t.1.frozen 0;have u:aH (aG prog 274 #[.slice none 0 c, .func (.func 212) #[] #[.pointer b1, .pointer b2]] w λe w'=>e= .returned (.int .i64 (-1))/\aD w w w'):=nD none [] c a p b1 b2 w (Sl.nil _ _) aT c1 c2;have k:=aP t;have i:=bH n q;have HD:aH (aG prog 247 #[.slice none 0 c, .func (.func 212) #[] #[.pointer b1, .pointer b2]] w λe w'=>e= .returned (.slice none 0 c)/\aD w w w'):=by
  unfold aH;clear k i c0 f0 n q t;go_enter func247,ntmps247
  go_wp2_with fail
  refine aR u ?_;rintro e d ⟨rfl,j⟩;go_wp2_with fail
  go_ret
  exact⟨rfl,j⟩
 clear u t n q c1 c2;go_enter func211,ntmps211
 go_upto_region 4 with(fail)
 go_wp2_with fail
 refine aR HD ?_;rintro e d ⟨rfl,j⟩;have b:=k.o.1.keep j;have f0:=b.frozen 0;have d0:d.cell? (g,0)=some (.slice none 0 c):=b.cell 0 _ rfl;have f:Tb (d.setCell (g,0) (.slice none 0 c)) g none c [] h m:=Tb.slot k.o b (k.o.2.keep j);have l:Kp F w d:=i.o.1.below j;have s:=(i.o.1.kp l).self i.o.2 (aY (bE d g) 0 (.slice none 0 c));have y:=f.1.cell 0 (.slice none 0 c) rfl;have v:aH (iJ F (d.setCell (g,0) (.slice none 0 c)) g []/\Kp F w (d.setCell (g,0) (.slice none 0 c))):=
  ⟨⟨_,_,_,_,f,(i.o.1.kp l).kp s,i.o.2,λr x=>by cases x⟩,l.trans s⟩
 clear j b f l s c0;go_wp2_with fail
 go_ret
 exact⟨_,rfl,v.o.1,v.o.2⟩
theorem L0(a p:Int)(b1 b2:Nat)(t:iJ F w g L)(b:L.length<=1000)(f1:F b1)(f2:F b2)(c1:w.cell? (b1,0)=some (.int .i64 a))(c2:w.cell? (b2,0)=some (.int .i64 p)):
 aG prog 211 #[.pointer g, .func (.func 212) #[] #[.pointer b1, .pointer b2]] w (CJ F g L a p w):=by
 obtain⟨A,c,x,m,t1,t2,t3,t4⟩:=t;rcases t1.2.shape with⟨rfl,rfl,rfl⟩|⟨q,rfl⟩
 .exact MQ a p b1 b2 t1 t2 t3 c1 c2
 .exact MG a p b1 b2 t1 t2 t3 (t4 q rfl) b f1 f2 c1 c2
end Dr
theorem Ek(h:iJ F w g L)(A:L.length<=100)(a p:Int)(u:0<=a):aG prog 193 #[.pointer g,a,p] w λe w'=>∃v:Int,e= .returned (.int .i64 v)/\iJ F w' g (Df.st L a p)/\Kp F w w':=by
 have fl:Ol F w:=by obtain⟨_,_,_,_,_,f,_⟩:=h;exact f
 have h1:=(iJ.bX g L).box h fl (aI #[a] 3);have c:Ol (Fb F w) (w.alloc (aI #[a] 3)):=Fb.ol fl aT aT;have i:=(iJ.bX g L).box h1 c (aI #[p] 3);have b1:=(bC.new w 3 #[a]).alloc (aI #[p] 3);have b2:=bC.gK (w.alloc (aI #[a] 3)) 3 #[p] (g:=w.heap.size+1) aT;have y:(w.alloc (aI #[a] 3)).heap.size=w.heap.size+1:=aT;rw[y] at i;have j:=fl.below (aX w (aI #[a] 3));have l:=(fl.kp j).below (aX (w.alloc (aI #[a] 3)) (aI #[p] 3));have m:=aP (Df.L0 a p (w.heap.size+1) w.heap.size u i aQ (.inr rfl) (.inl (.inr rfl)) (b2.cell 0 _ rfl) (b1.cell 0 _ rfl));have n:aH (∀W d,iJ (Fb (Fb F w) (w.heap.size+1)) W g d->Kp (Fb (Fb F w) (w.heap.size+1)) ((w.alloc (aI #[a] 3)).alloc (aI #[p] 3)) W->iJ F W g d/\Kp F w W):=λW d x z=>by
  have q:Ol (Fb (Fb F w) (w.heap.size+1)) W:=by obtain⟨_,_,_,_,_,f,_⟩:=x;exact f
  exact⟨dV.less (iJ.bX g d) (dV.less (iJ.bX g d) x (λb k=>q b (.inl k))) (λb k=>q b (.inl (.inl k))),(j.trans l).trans z.unbox.unbox⟩
 clear h fl h1 c i b1 b2 j l;go_enter func193,ntmps193
 go_wp2_with fail
 refine aR m ?_;rintro e B ⟨v,rfl,r,s⟩;have t:=aP (n.o _ _ r s);clear r s n m;go_wp2_with fail
 go_ret
 exact⟨_,rfl,t.o.1,t.o.2⟩
theorem Fj(h:iJ F w g L)(z:L.length<=100)(a p:Int):aG prog 168 #[.pointer g,a,p] w λe w'=>∃v:Bool,e= .returned (.bool v)/\iJ F w' g (Dr.st L a p)/\Kp F w w':=by
 have fl:Ol F w:=by obtain⟨_,_,_,_,_,f,_⟩:=h;exact f
 have h1:=(iJ.bX g L).box h fl (aI #[a] 3);have c:Ol (Fb F w) (w.alloc (aI #[a] 3)):=Fb.ol fl aT aT;have i:=(iJ.bX g L).box h1 c (aI #[p] 3);have b1:=(bC.new w 3 #[a]).alloc (aI #[p] 3);have b2:=bC.gK (w.alloc (aI #[a] 3)) 3 #[p] (g:=w.heap.size+1) aT;have u:(w.alloc (aI #[a] 3)).heap.size=w.heap.size+1:=aT;rw[u] at i;have j:=fl.below (aX w (aI #[a] 3));have l:=(fl.kp j).below (aX (w.alloc (aI #[a] 3)) (aI #[p] 3));have m:=aP (Dr.L0 a p w (w.heap.size+1) i aQ (.inl (.inr rfl)) (.inr rfl) (b1.cell 0 _ rfl) (b2.cell 0 _ rfl));have n:aH (∀W d,iJ (Fb (Fb F w) (w.heap.size+1)) W g d->Kp (Fb (Fb F w) (w.heap.size+1)) ((w.alloc (aI #[a] 3)).alloc (aI #[p] 3)) W->iJ F W g d/\Kp F w W):=λW d x y=>by
  have q:Ol (Fb (Fb F w) (w.heap.size+1)) W:=by obtain⟨_,_,_,_,_,f,_⟩:=x;exact f
  exact⟨dV.less (iJ.bX g d) (dV.less (iJ.bX g d) x (λb k=>q b (.inl k))) (λb k=>q b (.inl (.inl k))),(j.trans l).trans y.unbox.unbox⟩
 clear h fl h1 c i b1 b2 j l;go_enter func168,ntmps168
 go_wp2_with fail
 refine aR m ?_;rintro e A ⟨v,rfl,r,s⟩;have t:=aP (n.o _ _ r s);clear r s n m;go_wp2_with fail
 go_ret
 exact⟨_,rfl,t.o.1,t.o.2⟩
end
end
section
open Go.RowKit Go.Lib Go.Shelf dH Fr Up Nt
variable{F:Nat->Prop}{w wr w':aA}{g q:Nat}{L:List En}{a':Ka}{k':Kv}{A:Option Addr}
section
theorem WT(h:iJ F w g L)(a:L.length<=100)(e o:Int)(he:0<=e):aG prog 193 #[.pointer g,e,o] w λr w'=>∃v:Int,r= .returned (.int .i64 v)/\iJ F w' g (PK L e o)/\Kp F w w':=Ek h a e o he
theorem Dd(h:iJ F w g L)(a:L.length<=100)(e p:Int):aG prog 168 #[.pointer g,e,p] w λr w'=>∃v:Bool,r= .returned (.bool v)/\iJ F w' g (PF L e p)/\Kp F w w':=Fj h a e p
theorem VV(t:List En)(L:List dK)(p:dK):jO t (L++ [p])=CZ (jO t L) p:=by
 unfold jO;rw[acQ];rfl
theorem De(t:List En)(e o:Int):(PK t e o).length<=t.length:=ac6 _ _
theorem Ei(t:List En)(p:dK):(CZ t p).length<=t.length:=by
 unfold CZ;split
 .exact De _ _ _
 .exact aaH _
theorem FK(t:List En)(L:List dK):(jO t L).length<=t.length:=by
 unfold jO;induction L generalizing t with
 |nil=>exact aaH _
 |cons p L a=>exact aaR (a _) (Ei _ _)
structure NI(F:Nat->Prop)(w wr:aA)(g:Nat)(a:Ka)(k:Kv)(B q c:Nat)(L:List dK):Prop where
 m:bJ F wr g a k
 k:Kp F w wr
 o:bB oP 5 wr B 156 q c L
theorem NI.keep{B c:Nat}{a:Ka}{k:Kv}{L:List dK}(h:NI F w wr g a k B q c L)(b:aD wr wr w'):NI F w w' g a k B q c L:=⟨(h.m.below b).1,h.k.trans (h.m.below b).2,h.o.keep b⟩
theorem NI.eV{B c:Nat}{a:Ka}{k:Kv}{L:List dK}(h:NI F w wr g a k B q c L)(hq:F q)(m:bJ F w' g a' k')(kp:Kp F wr w'):NI F w w' g a' k' B q c L:=⟨m,h.k.trans kp,h.o.kp kp (λb d=>by injection d with d;rw[<-d];exact hq)⟩
theorem Co{B c:Nat}{a:Ka}{k:Kv}{L:List dK}(h:bJ F w g a k)(ht:k.t.length<=100)(ho:bB oP 5 w B 156 q c L)(hq:F q)(hl:L.length<=1000)(he:∀p∈L,0<=p.e):
 aG prog 150 #[.pointer g, .slice q L.length c] w (gD F g {k with t:=jO k.t L} (.tuple #[]) w):=by
 have HI:aH (NI F w w g a k B q c L):=⟨h,Kp.refl _ _,ho⟩
 have HL:=aP he;obtain⟨n,hn⟩:∃n,n=L.length:=⟨_,rfl⟩
 have HN:=aP hn;rw[<-hn] at hl⊢;have HQ:=aP hq;have HT:=aP ht;clear h ho hn he hq ht;go_enter func150,ntmps150
 go_wp2_with fail
 go_loopw [9] (λv9 wr=>∃(i:Nat) (a:Ka),v9= .int .i64 i/\i<=n/\aH (NI F w wr g a {k with t:=jO k.t (L.take i)} B q c L)) (λv9 _=>n - (aL v9).toNat)
 case atStart=>exact⟨0,a,rfl,aaQ _,HI.o⟩
 case round=>
  clear HI a;obtain⟨i,a,rfl,hi,X⟩:=hrel;by_cases hkn:i<n
  .have z:i<L.length:=by rw[<-HN.o];exact hkn
   have V:=X.o.o;have e0:=bG fR V z (j:=0) (v:= .int .i64 L[i].e) rfl;have e1:=bG fR V z (j:=1) (v:= .int .i64 L[i].s) rfl;have e2:=bG fR V z (j:=2) (v:= .int .i64 L[i].h.kd) rfl;have e3:=bG fR V z (j:=3) (v:= .int .i64 L[i].h.ob) rfl;have e4:=bG fR V z (j:=4) (v:= .int .i64 L[i].h.rt) rfl;rw[aa3] at e0;have k0:(0:Int)<=i:=aQ;have k1:(i:Int)<(n:Int):=aQ;clear V;have Y:L.take (i+1)=L.take i++ [L[i]]:=by rw[abN,aaG z];rfl
   have I:aH (jO k.t (L.take (i+1))=CZ (jO k.t (L.take i)) L[i]):=by unfold aH;rw[Y,VV]
   have Z:=HL.o L[i] (aaM z);have HGL:aH ((jO k.t (L.take i)).length<=100):=aaR (FK _ _) HT.o;generalize jO k.t (L.take i)=t0 at *;generalize L.take i=LT at *;clear Y;generalize L[i]=y at *;obtain⟨A,y2,H,x,y5,y6,y7⟩:=y;simp only at e0 e1 e2 e3 e4 Z;have a1:=aX wr (aI #[A,y2,H,x,y5] 156);have yb:=bC.new wr 156 #[A,y2,H,x,y5];have D:=aP (X.o.keep a1);clear a1 X;by_cases hc:H=1
   .have R:aH (jO k.t (L.take (i+1))=PK t0 A x):=by unfold aH;rw[I.o];exact aaK hc
    clear I;have hc':(H==1)=true:=by simp[hc]
    clear hc;go_upto_region 5 with(fail)
    clear e0 e1 e2 e3 e4;generalize wr.alloc (aI #[A,y2,H,x,y5] 156)=w3 at *;generalize wr.heap.size=q3 at *;have x0:=yb.cell 0 A rfl;have x3:=yb.cell 3 x rfl;have pt:=D.o.m.pt;unfold pA at pt;clear yb;have J:=bF pt;have b:=bF x0;have M:=bF x3;refine bS (bV _) (λ_=>bV) [] (λ_ _ _=>True) [9] [] 67 (cM _) (λ_ _ _ h hz=>bZ h hz) (λ_ d hd _ v w w' _ h hz=>by cases hd) aV aV bK ?_;repeat refine fQ ?_
    refine eL ?_;intro γ w5 u hT;clear J b M;simp only[dG,Act.put,aaI,aaP,aaN];refine eT ?_;have S:=D.o.keep u;obtain⟨G,hr,back⟩:=S.m.tb;have HR:=aP (WT hr HGL.o A x Z);have T:=aP back;have N:=aP S;clear hr back S u hT D;refine wpList_plain rfl (λK hK=>?_);go_wp2_with fail
    refine aR HR ?_;rintro r w6 ⟨v,rfl,hr6,kr6⟩;obtain⟨U,k6⟩:=T.o _ _ hr6 kr6;have H6:=aP (N.o.eV HQ.o U k6);clear U k6 hr6 kr6 T HR N;refine hK _ _ ?_;clear hK K;refine cP ?_;try refine dB ?_
    go_wp2_with fail
    go_roundw
    case rel=>exact⟨i+1,a,by go_num,aQ,by rw[R.o];exact H6.o⟩
    case measure=>simp[aL];omega
   .have R:aH (jO k.t (L.take (i+1))=t0):=by unfold aH;rw[I.o];exact aaL hc
    clear I;have hc':(H==1)=false:=by simp[hc]
    clear hc;by_cases hd:H=2
    .have hd':(H==2)=true:=by simp[hd]
     clear hd;go_upto_region 7 with(fail)
     clear e0 e1 e2 e3 e4;generalize wr.alloc (aI #[A,y2,H,x,y5] 156)=w3 at *;generalize wr.heap.size=q3 at *;have x0:=yb.cell 0 A rfl;have x3:=yb.cell 3 x rfl;have pc:=D.o.m.pc;unfold pA at pc;clear yb;go_upto_region 8 with(fail)
     have O:aH (∀W,aD w3 w3 W->aG prog 110 #[.pointer g,x] W λe w'=>e= .returned (.int .i64 (EP a x))/\W=w'):=λW hW=>CM (D.o.m.below hW).1 x
     obtain⟨G,hcp,_⟩:=D.o.m.cp;have P:aH (∀W,aD w3 w3 W->aG prog 15 #[.pointer a.gc,A, .int .i64 2,x] W λe w'=>e= .returned (.int .i64 (PJ k.c A 2 x))/\aD W.heap.size W w'):=λW hW=>Hk (hcp.keep hW) A 2 x
     clear hcp;generalize PJ k.c A 2 x=fd at *;obtain⟨an,han⟩:∃an,bits .and .i64 fd 2=an:=⟨_,rfl⟩
     generalize hbv:EP a x=bv at *;clear hbv;by_cases Q:bv=A
     .have hb1':(bv !=A)=false:=by simp[Q]
      clear Q;by_cases C:an=0
      .have han':(an !=0)=false:=by simp[C]
       clear C;(have f:=bR.cell pc;have b:=bR.cell x0;refine dA aV aV ?_;(repeat (go_big_quiet_step ((first|(go_at_call 110;with_reducible exact pR (O.o _ (bR.ok _)))|(go_at_call 15;with_reducible exact gR (P.o _ (bR.ok _)))))));refine wpQuiet_nil ?_;clear f b;intro w5 l;have u:=bR.below l;clear l)
       have S:=D.o.keep u;have N:=aP S;have HK1:=aP (OC S.m x (-1));clear S u D O P;go_wp2_with fail
       refine aR HK1 ?_;rintro r w6 ⟨rfl,⟨a6,U⟩,k6⟩;have h6':=N.o.eV HQ.o U k6;obtain⟨G,E,back⟩:=U.ir;have HMk:=aP (P7 E x true);have T:=aP back;have pi:=U.pi;unfold pA at pi;have H6:=aP h6';clear U k6 h6' E back N HK1;go_wp2_with fail
       refine aR HMk ?_;rintro r w7 ⟨v7,L7,rfl,hL7,hi7,k7⟩;obtain⟨h7,kk7⟩:=T.o L7 _ hL7 hi7 k7;have h7':=H6.o.eV HQ.o h7 kk7;obtain⟨G,E,back⟩:=h7.ir;have HAk:=aP (UQ E x);have T:=aP back;have pi:=h7.pi;unfold pA at pi;have H7:=aP h7';clear h7 kk7 h7' E back H6 HMk hL7 hi7 k7;go_wp2_with fail
       refine aR HAk ?_;rintro r w8 ⟨v8,L8,rfl,hL8,hi8,k8⟩;obtain⟨h8,kk8⟩:=T.o L8 _ hL8 hi8 k8;have H8:=aP (H7.o.eV HQ.o h8 kk8);clear h8 kk8 H7 HAk hL8 hi8 k8 T;go_wp2_with fail
       go_roundw
       case rel=>exact⟨i+1,_,by go_num,aQ,by rw[R.o];exact H8.o⟩
       case measure=>simp[aL];omega
      .have han':(an !=0)=true:=by simp[C]
       clear C;(have f:=bR.cell pc;have b:=bR.cell x0;refine dA aV aV ?_;(repeat (go_big_quiet_step ((first|(go_at_call 110;with_reducible exact pR (O.o _ (bR.ok _)))|(go_at_call 15;with_reducible exact gR (P.o _ (bR.ok _)))))));refine wpQuiet_nil ?_;clear f b;intro w5 l;have u:=bR.below l;clear l)
       have N:=aP (D.o.keep u);clear u D;go_wp2_with fail
       go_roundw
       case rel=>exact⟨i+1,a,by go_num,aQ,by rw[R.o];exact N.o⟩
       case measure=>simp[aL];omega
     .have hb1':(bv !=A)=true:=by simp[Q]
      clear Q;(have f:=bR.cell pc;have b:=bR.cell x0;refine dA aV aV ?_;(repeat (go_big_quiet_step ((first|(go_at_call 110;with_reducible exact pR (O.o _ (bR.ok _)))|(go_at_call 15;with_reducible exact gR (P.o _ (bR.ok _)))))));refine wpQuiet_nil ?_;clear f b;intro w5 l;have u:=bR.below l;clear l)
      have N:=aP (D.o.keep u);clear u D;go_wp2_with fail
      go_roundw
      case rel=>exact⟨i+1,a,by go_num,aQ,by rw[R.o];exact N.o⟩
      case measure=>simp[aL];omega
    .have hd':(H==2)=false:=by simp[hd]
     clear hd;go_wp2_with fail
     go_roundw
     case rel=>exact⟨i+1,a,by go_num,aQ,by rw[R.o];exact D.o⟩
     case measure=>simp[aL];omega
  .obtain rfl:i=n:=aQ;have k1:¬(i:Int)<(i:Int):=aQ;have R:aH (L.take i=L):=aa7 (by rw[<-HN.o];exact aaH _);have HF:aH (gD F g {k with t:=jO k.t L} (.tuple #[]) w (.returned (.tuple #[])) wr):=⟨rfl,⟨a,by have:=X.o.m;rw[R.o] at this;exact this⟩,X.o.k⟩
   go_wp2_with fail
   go_end0
   exact HF.o
theorem Di{k:Kv}(h:KM F w g k):aG prog 150 #[.pointer g,bA] w (gD F g k (.tuple #[]) w):=by
 have a:aH (gD F g k (.tuple #[]) w (.returned (.tuple #[])) w):=⟨rfl,h,Kp.refl _ _⟩
 clear h;go_enter func150,ntmps150
 go_wp2_with fail
 refine wp_loop_rounds 1 ?_;rw[rounds_succ];go_wp2_with fail
 go_end0
 exact a.o
theorem zS{B c:Nat}{a:Ka}{k:Kv}{L:List dK}(h:bJ F w g a k)(b:k.t.length<=100)(ho:bB oP 5 w B 156 A c L)(hq:∀q,aZ A=some q->F q)(d:L.length<=1000)(he:∀p∈L,0<=p.e):
 aG prog 150 #[.pointer g,(A,L.length,c)] w (gD F g {k with t:=jO k.t L} (.tuple #[]) w):=by
 rcases ho.shape with⟨rfl,rfl,rfl⟩|⟨q,rfl⟩
 .exact Di ⟨a,h⟩
 .exact Co h b ho (hq q rfl) d he
end
variable{G:Nat->Prop}{C C':Cf}{a:Ka}
section
theorem Ob.MR{l:List Pt}(h:Ob l F w)(i:Nat)(p:Pt)(hp:l[i]?=some p):∃G,p.X G w/\(∀(o:Pt) (w':aA) (X:Nat->Prop),(∀b,X b->w.heap.size<=b)->o.X (λb=>G b\/X b) w'->Ol (λb=>G b\/X b) w'->Kp G w w'->Ob (l.set i o) (λb=>F b\/X b) w'/\Kp F w w'):=by
 obtain⟨y,h⟩:=h;refine⟨_,h.get i hp,λo w' X z A s k=>⟨⟨λb=> @ite Nat (X b) (Classical.propDecidable _) 0 (nx w y (i+1) b),λb d=>?_,λm q hm=>?_⟩,h.1.kp k aQ⟩⟩
 .rcases d with d|d
  .have h1:=h.1 b d;refine⟨aaJ h1.1 k.size,?_⟩;simp only;split
   .rfl
   .rw[yO h1.1,h1.2]
  .exact⟨s b (.inr d),by simp only;rw[aaK d]⟩
 .rw[adA] at hm;split at hm
  .rename_i e;subst e;split at hm
   .injection hm with hm;subst hm;refine o.bX _ (λ_=>True) _ w' w' A (Kp.refl _ _) (λ_ _ _=>trivial) (Fo.ol _ _ _) (λr f j t=>?_);have c:=t.2;simp only at c;have u:¬X r:=λhc=>j (.inr hc)
    rw[aaL u] at c;rcases ac0 r w with n|v
    .rw[yO n] at c;exact j (.inl ⟨n,c⟩)
    .exact c (KQ v)
   .cases hm
  .rename_i x;refine q.bX _ _ _ w w' (h.2 m q hm) k (λr f j=>⟨f,λe=>j ⟨f,λB=>x aQ⟩⟩) (Fo.ol _ _ _) (λr f j t=>?_);have h1:y r=m+1:=aa4 λhc=>j ⟨f,hc⟩
   have c:=t.2;simp only at c;rw[aaL (λhc=>by have:=z r hc;omega),yO f] at c;exact c h1
def cB(F:Nat->Prop)(A:Option Addr):Nat->Prop:=λb=>F b\/Go.Proofs.YtacgiflhgdaeaaaGreat.aZ A=some b
section
variable{F:Nat->Prop}{w w':aA}{g:Nat}{a:Ka}{k:Kv}
theorem bJ.Ts(h:bJ F w g a k):∃G,eJ G w a.gc k.c/\(∀(c:Cf) (w':aA) (A:Option Addr),(∀q,Go.Proofs.YtacgiflhgdaeaaaGreat.aZ A=some q->w.heap.size<=q)->eJ (cB G A) w' a.gc c->Kp G w w'->bJ (cB F A) w' g a {k with c:=c}/\Kp F w w'):=by
 obtain⟨G,e,back⟩:=h.o.MR 3 _ rfl;exact⟨G,e,λc w' A d b k'=>⟨⟨(back (TY a.gc c) w' _ d b b.fl k').1,h.al,h.bd,h.ln,h.pp⟩,(back (TY a.gc c) w' _ d b b.fl k').2⟩⟩
theorem bJ.less(h:bJ F w g a k)(c:∀b,G b->F b):bJ G w g a k:=bJ.bX g a k F (λ_=>True) G w w h (Kp.refl _ _) (λ_ _ _=>trivial) (λb d=>h.fl b (c b d)) (λr _ e f=>e (c r f))
theorem KM.less(h:KM F w g k)(c:∀b,G b->F b):KM G w g k:=by
 obtain⟨a,h⟩:=h;exact⟨a,h.less c⟩
end
theorem eJ.LS{c:Nat}{L:List dK}(e:eJ F w g C)(h:eJ F w' g C')(ho:bB oP 5 w' w.heap.size 156 A c L):eJ (cB F A) w' g C':=
 ⟨h.b,h.len,λb d=>by
  rcases d with d|d
  .exact h.fl b d
  .exact(ho.lt b d).2,λhc=>by
  rcases hc with hc|hc
  .exact h.fg hc
  .have:=(ho.lt g hc).1;have:=e.b.lt;omega⟩
structure KW(k:Kv):Prop where
 t:k.t.length<=100
 b:k.b.length<=400
 cn:0<=k.c.n/\k.c.n<=1000000000
 sd:gE k.s
 be:∀x∈k.b,0<=x.eO/\x.eO<8
 n:k.n<=1000000000
theorem KW.p8{k:Kv}(h:KW k):k.s.P.length<=8:=h.sd.n.2
theorem KJ(L:List Nt)(e o:Int):(qX L e o).length<=L.length/\∀x∈qX L e o,x∈L:=by
 unfold qX;split
 .exact⟨adO _ _,λx b=>ad2 b⟩
 .exact⟨aaH _,λx b=>b⟩
theorem vI(L:List Nt)(o:Int):∀n,(rM L o n).length<=L.length/\∀x∈rM L o n,x∈L
 |0=>⟨aaH _,λx b=>b⟩
 |n+1=>⟨aaR (KJ _ _ _).1 (vI L o n).1,λx b=>(vI L o n).2 x ((KJ _ _ _).2 x b)⟩
theorem pE.kw{k:Kv}{o:Int}(h:pE k o k')(w:KW k):KW k':=by
 obtain⟨L,_,rfl⟩:=h;exact⟨aaR (FK _ _) w.t,aaR (vI _ _ _).1 w.b,by show 0<=(jW _ _).n/\(jW _ _).n<=_;rw[KB];exact w.cn,w.sd,λx c=>w.be x ((vI _ _ _).2 x c),w.n⟩
theorem KY{p:dK}(h:p∈vH C):0<=p.e:=by
 unfold vH vR at h;obtain⟨k,_,hk⟩:=adV.1 h;unfold SF at hk;split at hk
 .cases hk
 .injection hk with hk;subst hk;exact Int.natCast_nonneg _
theorem C0(C:Cf):(vH C).length<=128:=I1 C 128
theorem FB{k:Kv}(h:bJ F w g a k)(hw:KW k)(o:Int):aG prog 152 #[.pointer g,o] w λe w'=>∃k',pE k o k'/\gD F g k' (.tuple #[]) w e w':=by
 obtain⟨G,j,back⟩:=h.Ts;have M:=aP (Dt j 1 o);have d:=aP back;have N:=aP j;have O:=aP hw;have pc:=h.pc;unfold pA at pc;clear h j back hw;go_enter func152,ntmps152
 go_wp2_with fail
 refine aR M ?_;rintro e w2 ⟨A,c,L,rfl,E,ho,u,v⟩;obtain⟨P,Q⟩:=d.o _ _ A (λq hq=>(ho.lt q hq).1) (N.o.LS u ho) v;have hlen:(L.filter (rS 1 o)).length<=128:=aaR (ac6 _ _) (by rw[E.length_eq];exact C0 _);have R:=aP (zS P O.o.t ho (λq hq=> .inr hq) aQ (λp hp=>KY (E.mem_iff.1 (acW.1 hp).1)));have Y:=aP E;have S:=aP Q;clear E ho u v P Q d N M pc;generalize Z:(L.filter (rS 1 o)).length=n at *;clear Z;go_wp2_with fail
 refine aR R ?_;rintro e T ⟨rfl,U,V⟩;have W:aH (KM F T g {k with c:=jW k.c (L.filter (rS 1 o)),t:=jO k.t (L.filter (rS 1 o))}/\Kp F w T):=⟨U.less (λb s=> .inl s),S.o.trans (V.mono (λb s=> .inl s))⟩
 clear U V S R;go_wp2_with fail
 go_loopw [13] (λl wr=>∃i:Nat,l= .int .i64 i/\i<=8/\aH (KM F wr g {k with c:=jW k.c (L.filter (rS 1 o)),t:=jO k.t (L.filter (rS 1 o)),b:=rM k.b o i}/\Kp F w wr)) (λl _=>8 - (aL l).toNat)
 case atStart=>exact⟨0,rfl,aQ,W.o⟩
 case round=>
  clear W;obtain⟨i,rfl,hi,I⟩:=hrel;obtain⟨a1,h1⟩:=I.o.1;by_cases hi8:i<8
  .have k1:(i:Int)<8:=aQ;have pb:=h1.pb;unfold pA at pb;obtain⟨G,s,back⟩:=h1.bo;have x:=aP (YR (i:Nat) o s (aaR (vI _ _ _).1 (aaR O.o.b aQ)));have d:=aP back;clear s back h1;go_wp2_with fail
   refine aR x ?_;rintro e H ⟨rfl,y,X⟩;obtain⟨z,B⟩:=d.o _ _ _ y X;have J:aH (KM F H g {k with c:=jW k.c (L.filter (rS 1 o)),t:=jO k.t (L.filter (rS 1 o)),b:=rM k.b o (i+1)}/\Kp F w H):=⟨⟨_,z⟩,I.o.2.trans B⟩
   clear y X z B d x pb;go_wp2_with fail
   go_roundw
   case rel=>exact⟨i+1,by go_num,aQ,J.o⟩
   case measure=>simp[aL];omega
  .obtain rfl:i=8:=aQ;have pf:=h1.pf;unfold pA at pf;obtain⟨G,K,back⟩:=h1.fr;have r:=aP (Ge k.f a1.gf o wr K.m);have C:=aP K;generalize (if gI k.f o=true then(0:Int) else 6)=ev at r;have d:=aP back;clear K back h1;go_wp2_with fail
   refine aR r ?_;rintro e H ⟨rfl,D,g5⟩;obtain⟨t1,t2⟩:=C.o.eV D g5;obtain⟨z,B⟩:=d.o _ _ t1 t2;have J:aH (∃k',pE k o k'/\gD F g k' (.tuple #[]) w (.returned (.tuple #[])) H):=⟨_,⟨L,Y.o,rfl⟩,rfl,⟨_,z⟩,I.o.2.trans B⟩
   clear D g5 t1 t2 z B d C r pf;go_wp2_with fail
   go_end0
   exact J.o
end
variable{X:(Nat->Prop)->aA->Prop}{e:Int}{k1:Kv}{i:Nat}
section
theorem dV.row(M:dV X)(h:X F w)(fl:Ol F w)(c:aD w w w')(d:∀q,Go.Proofs.YtacgiflhgdaeaaaGreat.aZ A=some q->w.heap.size<=q/\q<w'.heap.size):X (cB F A) w':=
 M F (λb=>b<w.heap.size) (cB F A) w w' h (Kp.dD c λ_ c=>c) (λ_ e _=>e) (λb a=>by
  rcases a with a|a
  .exact aaJ (fl b a) c.size
  .exact(d b a).2) (λr e f hc=>by
  rcases hc with hc|hc
  .exact f hc
  .have:=(d r hc).1;omega)
theorem FL(num:Int)(self:Bool)(L:List dK):(dF num self L).2.length<=L.length/\∀p∈(dF num self L).2,p∈L:=by
 suffices h:∀(st:List Int×List dK),(L.foldl (sE num self) st).2.length<=st.2.length+L.length/\∀p∈(L.foldl (sE num self) st).2,p∈st.2\/p∈L by
  have:=h ([num], []);refine⟨by unfold dF;simpa using this.1,λp hp=>?_⟩;rcases this.2 p hp with h1|h1
  .cases h1
  .exact h1
 induction L with
 |nil=>intro st;exact⟨aT,λp hp=> .inl hp⟩
 |cons x L c=>
  intro st;have h1:=c (sE num self st x);have d:(sE num self st x).2.length<=st.2.length+1/\∀p∈(sE num self st x).2,p∈st.2\/p=x:=by
   unfold sE;split
   .split
    .exact⟨aT,λp hp=>by simpa using hp⟩
    .exact⟨aT,λp hp=> .inl hp⟩
   .split
    .exact⟨aT,λp hp=>by simpa using hp⟩
    .exact⟨aT,λp hp=> .inl hp⟩
  refine⟨by simp only[ac7,abM];omega,λp hp=>?_⟩;rcases h1.2 p hp with a|a
  .rcases d.2 p a with b|b
   .exact .inl b
   .exact .inr (by simp[b])
  .exact .inr (by simp[a])
theorem KW.Fh{k:Kv}(w:KW k)(num:Int)(self:Bool)(L:List dK):KW (vK k num self L):=⟨aaR (FK _ _) w.t,w.b,by show 0<=(jW _ _).n/\(jW _ _).n<=_;rw[KB];exact w.cn,w.sd,w.be,w.n⟩
theorem iU.Bl{s:Int}{l:List Int}{k:Kv}(h:iU e l k k1)(b:fW k1.c e s=none):iU e (l++ [s]) k k1:=by
 induction h with
 |nil k=>exact .no b (.nil k)
 |no h r a=>first|exact .no h (a b)|exact .no h a
 |drop h L d r a=>first|exact .drop h L d (a b)|exact .drop h L d a
theorem iU.snoc{s:Int}{l:List Int}{k:Kv}(h:iU e l k k1)(d:fW k1.c e s=some i)(L:List dK)(f:AK k1 L):iU e (l++ [s]) k (vK k1 (cN k1.c i).nu true L):=by
 induction h with
 |nil k=>exact .drop d L f (.nil _)
 |no h r a=>first|exact .no h (a d f)|exact .no h a
 |drop h g b r a=>first|exact .drop h g b (a d f)|exact .drop h g b a
theorem eJ.mono(h:eJ F w g C)(a:∀b,G b->F b):eJ G w g C:=⟨h.b,h.len,λb c=>h.fl b (a b c),λd=>h.fg (a _ d)⟩
theorem I4{a:Ka}{k:Kv}(h:bJ F w g a k)(hw:KW k)(e s:Int):aG prog 149 #[.pointer a.gc,e,s] w λx w'=>
 (fW k.c e s=none/\x= .returned (.tuple #[bA, .int .i64 23])/\bJ F w' g a k/\Kp F w w')\/
 (∃i A c L,fW k.c e s=some i/\x= .returned (.tuple #[.slice A (dF (cN k.c i).nu true L).2.length c,aU])/\AK k L/\bB oP 5 w' w.heap.size 156 A c (dF (cN k.c i).nu true L).2/\bJ (cB F A) w' g a {k with c:=jW k.c (dF (cN k.c i).nu true L).2}/\Kp F w w'):=by
 obtain⟨G,f,back⟩:=h.Ts;have hd:=Gz f e s;cases m:fW k.c e s with
 |none=>
  rw[m] at hd;refine hd.mono ?_;rintro x w' ⟨rfl,hc,j⟩;obtain⟨h1,l⟩:=back k.c w' none (λq hq=>by cases hq) (hc.mono (λb d=>by
   rcases d with d|d
   .exact d
   .cases d)) j
  exact .inl ⟨rfl,rfl,h1.less (λb d=> .inl d),l⟩
 |some i=>
  rw[m] at hd;refine hd.mono ?_;rintro x w' ⟨A,c,L,rfl,n,o,ho,hc,j⟩;obtain⟨h1,l⟩:=back _ _ A (λq hq=>(ho.lt q hq).1) (f.LS hc ho) j;exact .inr ⟨i,A,c,L,rfl,rfl,⟨n,o⟩,ho,h1,l⟩
end
section
theorem iU.kw{l:List Int}{k:Kv}(h:iU e l k k')(w:KW k):KW k':=by
 induction h with
 |nil k=>exact w
 |no h r a=>exact a w
 |drop h L b r a=>exact a (w.Fh _ _ _)
theorem pH.kw{o:Int}{k:Kv}(h:pH e o k k')(w:KW k):KW k':=by
 cases h with
 |no h a=>rw[a];exact w
 |keep h r b=>exact r.kw w
 |rH h r b c=>exact c.kw (r.kw w)
theorem V0(k:Kv)(e o:Int):(fG k e o).length<=16:=by
 unfold fG;exact aaR (ae3 _ _) (F9 _ _)
theorem Bq{a:Ka}{k:Kv}(h:bJ F w g a k)(hw:KW k)(e o:Int):aG prog 108 #[.pointer g,e,o] w λr w'=>∃k',pH e o k k'/\gD F g k' (.tuple #[]) w r w':=by
 have HS:=aP (C8 h e o);have HM:=aP h;have HW:=aP hw;have h16:=V0 k e o;have HR0:aH (fG k e o= []->pH e o k k):=λh=> .no h rfl
 have HR1:aH (∀k',fG k e o≠[]->iU e (fG k e o) k k'->mJ k' o=true->pH e o k k'):=λk' h r D=> .keep h r D
 have HR2:aH (∀d k',fG k e o≠[]->iU e (fG k e o) k d->mJ d o=false->pE d o k'->pH e o k k'):=λd k' h r D r2=> .rH h r D r2
 generalize fG k e o=S at *;clear h hw;go_enter func108,ntmps108
 go_wp2_with fail
 refine aR HS ?_;rintro x w1 ⟨A,c,rfl,own,E⟩;obtain⟨n,hn⟩:∃n,n=S.length:=⟨_,rfl⟩
 have HN:=aP hn;rw[<-hn];rw[<-hn] at h16;have H1:=aP (dV.row (bJ.bX g a k) HM.o HM.o.fl E (λq hq=>own.lt q hq));have G:=aP (HM.o.below E).2;have HA:=aP own;clear hn own E HS;by_cases z:n=0
 .have M:((n:Int)==0)=true:=by simp[z]
  have HE:aH (∃k',pH e o k k'/\gD F g k' (.tuple #[]) w (.returned (.tuple #[])) w1):=⟨k,HR0.o (abO (by rw[<-HN.o];exact z)),rfl,⟨a,H1.o.less (λb f=> .inl f)⟩,G.o⟩
  clear z;go_wp2_with fail
  refine bodyPost_ret (v:= .tuple #[]) (by simp[results,results108,go_sem]) rfl ?_;exact HE.o
 .have M:((n:Int)==0)=false:=by rw[ae1];omega
  have N:aH (S≠[]):=λe=>z (by rw[HN.o,e];rfl)
  go_wp2_with fail
  go_loopw [20] (λv20 wr=>∃i:Nat,v20= .int .i64 i/\i<=n/\aH (∃k',iU e (S.take i) k k'/\KM (cB F A) wr g k'/\Kp (cB F A) w1 wr)) (λv20 _=>n - (aL v20).toNat)
  case atStart=>exact⟨0,rfl,aaQ _,k, .nil k,⟨a,H1.o⟩,Kp.refl _ _⟩
  case round=>
   clear H1;obtain⟨i,rfl,hi,HX⟩:=hrel;obtain⟨d,C,⟨a1,h1⟩,hK⟩:=HX.o;by_cases hkn:i<n
   .have B:i<S.length:=by rw[<-HN.o];exact hkn
    have hA:=HA.o.kp hK (λq hq=> .inr hq);obtain⟨q,rfl⟩:∃q,A=some ⟨q,0,none⟩:=by
     rcases hA.shape with⟨_,D,_⟩|D
     .rw[D] at B;simp at B
     .exact D
    have e0:=bG fX hA B (j:=0) (v:= .int .i64 S[i]) rfl;rw[acI,aa3] at e0;have k0:(0:Int)<=i:=aQ;have k2:(i:Int)<(n:Int):=aQ;have O:aH (S.take (i+1)=S.take i++ [S[i]]):=by unfold aH;rw[abN,aaG B];rfl
    generalize S[i]=s at *;have pc:=h1.pc;unfold pA at pc;have H:=aP (I4 h1 (C.kw HW.o) e s);have HD:=bH C hK;have P:=C.kw HW.o;have I:=aP P;clear hA C h1 hK HX P;go_wp2_with fail
    refine aR H ?_;rintro x Q (⟨R,rfl,T,U⟩|⟨j,A3,c3,L,R,rfl,hO,V,T,U⟩)
    .have y:aH (∃k',iU e (S.take (i+1)) k k'/\KM (cB F (some ⟨q,0,none⟩)) Q g k'/\Kp (cB F (some ⟨q,0,none⟩)) w1 Q):=⟨d,by rw[O.o];exact HD.o.1.Bl R,⟨_,T⟩,HD.o.2.trans U⟩
     clear R T U H HD;go_wp2_with fail
     go_roundw
     case rel=>exact⟨i+1,by go_num,aQ,y.o⟩
     case measure=>simp[aL];omega
    .have u:=FL (cN d.c j).nu true L;have hlen:(dF (cN d.c j).nu true L).2.length<=128:=aaR u.1 (by rw[hO.1.length_eq];exact C0 _);have HG:=aP (zS T I.o.t V (λq hq=> .inr hq) aQ (λp hp=>KY (hO.1.mem_iff.1 (u.2 p hp))));have y:=bH (HD.o.1.snoc R L hO) U;clear R hO V T U H u;generalize hm:(dF (cN d.c j).nu true L).2.length=m at *;clear hm;go_wp2_with fail
     refine aR HG ?_;rintro x w4 ⟨rfl,W,k4⟩;have H4:aH (∃k',iU e (S.take (i+1)) k k'/\KM (cB F (some ⟨q,0,none⟩)) w4 g k'/\Kp (cB F (some ⟨q,0,none⟩)) w1 w4):=⟨_,by rw[O.o];exact y.o.1,W.less (λb f=> .inl f),HD.o.2.trans (y.o.2.trans (k4.mono (λb f=> .inl f)))⟩
     clear W k4 y HG HD;go_wp2_with fail
     go_roundw
     case rel=>exact⟨i+1,by go_num,aQ,H4.o⟩
     case measure=>simp[aL];omega
   .obtain rfl:i=n:=aQ;have k1':¬(i:Int)<(i:Int):=aQ;have X:S.take i=S:=aa7 (by rw[<-HN.o];exact aaH _);rw[X] at C;have HH:=aP (RO h1 o);have I:=aP (C.kw HW.o);have HD:=bH C hK;have J:=aP h1;clear X C hK h1 HX;cases K:mJ d o with
    |true=>
     rw[K] at HH;have HT:=aP (HR1.o d N.o HD.o.1 K);clear K;go_wp2_with fail
     refine aR HH ?_;rintro x Q ⟨rfl,l⟩;have y:aH (∃k',pH e o k k'/\gD F g k' (.tuple #[]) w (.returned (.tuple #[])) Q):=⟨d,HT.o,rfl,⟨a1,(J.o.below l).1.less (λb f=> .inl f)⟩,G.o.trans ((HD.o.2.trans (J.o.below l).2).mono (λb f=> .inl f))⟩
     clear l;go_wp2_with fail
     go_end0
     exact y.o
    |false=>
     rw[K] at HH;have HT:=aP (λk'=>HR2.o d k' N.o HD.o.1 K);clear K;go_wp2_with fail
     refine aR HH ?_;rintro x Q ⟨rfl,l⟩;have y:=aP (J.o.below l);have HL:=aP (FB y.o.1 I.o o);clear l;go_wp2_with fail
     refine aR HL ?_;rintro x w4 ⟨k4,Y,rfl,W,Z⟩;have H4:aH (∃k',pH e o k k'/\gD F g k' (.tuple #[]) w (.returned (.tuple #[])) w4):=⟨k4,HT.o _ Y,rfl,W.less (λb f=> .inl f),G.o.trans ((HD.o.2.trans (y.o.2.trans Z)).mono (λb f=> .inl f))⟩
     clear Y W Z;go_wp2_with fail
     go_end0
     exact H4.o
end
section
theorem Cs{a:Ka}{k:Kv}(h:bJ F w g a k)(hw:KW k)(e s:Int):aG prog 164 #[.pointer g,e,s] w λr w'=>∃E k',yA k e s E k'/\gD F g k' (.int .i64 E) w r w':=by
 obtain⟨G,j,_⟩:=h.cp;have f:=oK j e s 1 8;have pc:=h.pc;unfold pA at pc;have p:=aP h;have B:=aP hw;have i:aH (∀(E:Int) (k':Kv),(match jY k.c e s 1 8 with|none=>E=23/\k'=k|some h=>E=0/\pE k h.ob k')->yA k e s E k'):=λE k' h=>h
 clear h j hw;cases hq:jY k.c e s 1 8 with
 |none=>
  rw[hq] at f i;have f:=aP f;have i:=aP (i.o 23 k ⟨rfl,rfl⟩);clear hq;go_enter func164,ntmps164
  go_wp2_with fail
  refine aR f ?_;rintro r q ⟨rfl,b⟩;simp only[mC,acF];have t:aH (∃E k',yA k e s E k'/\gD F g k' (.int .i64 E) w (.returned (.int .i64 23)) (q.alloc (aI #[aU,aU,aU] 154))):=by
   have d:=b.alloc b.size (aI #[aU,aU,aU] 154);exact⟨23,k,i.o,rfl,⟨a,(p.o.below d).1⟩,(p.o.below d).2⟩
  clear b;go_wp2_with fail
  go_ret
  exact t.o
 |some x=>
  rw[hq] at f i;have f:=aP f;have i:=aP (λk' h=>i.o 0 k' ⟨rfl,h⟩);clear hq;obtain⟨u,n,v,I,J⟩:=x;go_enter func164,ntmps164
  go_wp2_with fail
  refine aR f ?_;rintro r q ⟨rfl,b⟩;simp only[mC,acE];have d:=b.alloc b.size (aI #[u,n,v] 154);have yb:=bC.new q 154 #[u,n,v];have y:=aP (p.o.below d);have C:=yb.cell 1 n rfl;clear b d pc yb;have D:=aP (FB y.o.1 B.o n);go_wp2_with fail
  refine aR D ?_;rintro r H ⟨z,l,rfl,A,m⟩;have t:aH (∃E k',yA k e s E k'/\gD F g k' (.int .i64 E) w (.returned (.int .i64 0)) H):=⟨0,z,i.o z l,rfl,A,y.o.2.trans m⟩
  clear l A m C;go_wp2_with fail
  go_ret
  exact t.o
theorem ZO{a:Ka}{k:Kv}(h:bJ F w g a k)(e s at_:Int):aG prog 165 #[.pointer g,e,s,at_] w (gD F g k (.tuple #[.int .u64 (C9 k e s at_).1, .int .i64 (C9 k e s at_).2]) w):=by
 obtain⟨G,z,_⟩:=h.cp;have p:=oK z e s 1 1;have pc:=h.pc;unfold pA at pc;have I:=aP h;have q:aH (C9 k e s at_=match jY k.c e s 1 1 with|none=>(0,23)|some h=>(if gX k.f h.ob at_≠0 then 0 else IntKind.u64.wrap (tG k.f h.ob at_),gX k.f h.ob at_)):=rfl;clear h z;generalize C9 k e s at_=rk at *;cases hq:jY k.c e s 1 1 with
 |none=>
  rw[hq] at p q;have p:=aP p;clear hq;go_enter func165,ntmps165
  go_wp2_with fail
  refine aR p ?_;rintro r C ⟨rfl,j⟩;simp only[mC,acF];have t:=aP (I.o.below (j.alloc j.size (aI #[aU,aU,aU] 154)));clear j;go_wp2_with fail
  go_ret2
  rw[q.o];exact⟨rfl,⟨a,t.o.1⟩,t.o.2⟩
 |some x=>
  rw[hq] at p q;have p:=aP p;clear hq;obtain⟨D,n,E,N,O⟩:=x;simp only at q;go_enter func165,ntmps165
  go_wp2_with fail
  refine aR p ?_;rintro r C ⟨rfl,j⟩;simp only[mC,acE];have A:=j.alloc j.size (aI #[D,n,E] 154);have yb:=bC.new C 154 #[D,n,E];have v:=aP (I.o.below A);clear j A pc;go_upto_region 4 with(fail)
  generalize C.alloc (aI #[D,n,E] 154)=w3 at *;generalize C.heap.size=q3 at *;have J:=yb.cell 1 n rfl;have pf:=v.o.1.pf;unfold pA at pf;obtain⟨P,K,_⟩:=v.o.1.fr;have B:aH (∀W,aD w3 w3 W->aG prog 208 #[.pointer a.gf,n,at_] W λe w'=>e= .returned (.tuple #[.int .u8 (tG k.f n at_), .int .i64 (gX k.f n at_)])/\W=w'):=λW L=>JU k.f a.gf n at_ W (K.keep L).1.m
  clear K yb;generalize tG k.f n at_=bv at *;generalize gX k.f n at_=be at *;by_cases y:be=0
  .have u:aH (rk=(IntKind.u64.wrap bv,0)):=by unfold aH;rw[q.o,y];rfl
   have H:(be !=0)=false:=by simp[y]
   clear y q;(have b:=bR.cell pf;have d:=bR.cell J;refine dA aV aV ?_;(repeat (go_big_quiet_step ((go_at_call 208;with_reducible exact pR (B.o _ (bR.ok _))))));refine wpQuiet_nil ?_;clear b d;intro M i;have l:=bR.below i;clear i)
   have t:=aP (v.o.1.below l);clear l;go_wp2_with fail
   go_ret2
   rw[u.o];exact⟨rfl,⟨a,t.o.1⟩,v.o.2.trans t.o.2⟩
  .have u:aH (rk=(0,be)):=by unfold aH;rw[q.o,aaK y]
   have H:(be !=0)=true:=by simp[y]
   clear y q;(have b:=bR.cell pf;have d:=bR.cell J;refine dA aV aV ?_;(repeat (go_big_quiet_step ((go_at_call 208;with_reducible exact pR (B.o _ (bR.ok _))))));refine wpQuiet_nil ?_;clear b d;intro M i;have l:=bR.below i;clear i)
   have t:=aP (v.o.1.below l);clear l;go_wp2_with fail
   go_ret2
   rw[u.o];exact⟨rfl,⟨a,t.o.1⟩,v.o.2.trans t.o.2⟩
theorem XS{a:Ka}{k:Kv}(h:bJ F w g a k)(e s at_ v:Int):aG prog 166 #[.pointer g,e,s,at_,v] w (gD F g (sY k e s at_ v).2 (.int .i64 (sY k e s at_ v).1) w):=by
 obtain⟨G,u,_⟩:=h.cp;have l:=oK u e s 1 2;have pc:=h.pc;unfold pA at pc;have I:=aP h;have n:aH (sY k e s at_ v=match jY k.c e s 1 2 with|none=>(23,k)|some h=>if 255<v then(1,k) else(gX k.f h.ob at_,{k with f:=mV k.f h.ob at_ (v%256)})):=rfl;clear h u;generalize sY k e s at_ v=rk at *;cases hq:jY k.c e s 1 2 with
 |none=>
  rw[hq] at l n;have l:=aP l;clear hq;go_enter func166,ntmps166
  go_wp2_with fail
  refine aR l ?_;rintro r C ⟨rfl,b⟩;simp only[mC,acF];have J:=aP (I.o.below (b.alloc b.size (aI #[aU,aU,aU] 154)));clear b;go_wp2_with fail
  go_ret
  rw[n.o];exact⟨rfl,⟨a,J.o.1⟩,J.o.2⟩
 |some x=>
  rw[hq] at l n;have l:=aP l;clear hq;obtain⟨D,p,E,V,W⟩:=x;simp only at n;go_enter func166,ntmps166
  go_wp2_with fail
  refine aR l ?_;rintro r C ⟨rfl,b⟩;simp only[mC,acE];have y:=b.alloc b.size (aI #[D,p,E] 154);have yb:=bC.new C 154 #[D,p,E];have t:=aP (I.o.below y);clear b y pc;by_cases L:255<v
  .have q:aH (rk=(1,k)):=by unfold aH;rw[n.o,aaK L]
   clear yb n;go_wp2_with fail
   go_ret
   rw[q.o];exact⟨rfl,⟨a,t.o.1⟩,t.o.2⟩
  .have q:aH (rk=(gX k.f p at_,{k with f:=mV k.f p at_ (v%256)})):=by unfold aH;rw[n.o,aaL L]
   clear n;go_upto_region 6 with(fail)
   generalize C.alloc (aI #[D,p,E] 154)=w3 at *;generalize C.heap.size=q3 at *;have U:=yb.cell 1 p rfl;have pf:=t.o.1.pf;unfold pA at pf;clear yb;have i:=bF pf;have j:=bF U;refine bS (bV _) (λ_=>bV) [] (λ_ _ _=>True) [9,10] [] 37 (cM _) (λ_ _ _ h M=>bZ h M) (λ_ d hd _ v w w' _ h M=>by cases hd) aV aV bK ?_;repeat refine fQ ?_
   refine eL ?_;intro γ w5 hb5 hT;clear i j;simp only[dG,Act.put,aaI,aaP,aaN];refine eT ?_;obtain⟨N,O⟩:=t.o.1.below hb5;obtain⟨X,H,back⟩:=N.fr;have z:=aP (EO k.f a.gf p at_ (v%256) w5 H.m);have A:=aP H;have P:=aP back;have Q:=aP (t.o.2.trans O);clear H back N O hb5 hT t;generalize gX k.f p at_=be at *;refine wpList_plain rfl (λK hK=>?_);go_wp2_with fail
   refine aR z ?_;rintro r Y ⟨rfl,B,g6⟩;obtain⟨t1,t2⟩:=A.o.eV B g6;obtain⟨R,S⟩:=P.o _ _ t1 t2;have T:=bH R (Q.o.trans S);clear B g6 t1 t2 R S P A z Q;refine hK _ _ ?_;clear hK K;refine wpList_plain rfl (λK hK=>?_);go_simp
   refine hK _ _ ?_;clear hK K;refine cP ?_;try refine dB ?_
   go_wp2_with fail
   go_ret
   rw[q.o];exact⟨rfl,⟨a,T.o.1⟩,T.o.2⟩
theorem XZ{a:Ka}{k:Kv}(h:bJ F w g a k)(hw:KW k)(e s:Int):aG prog 163 #[.pointer g,e,s] w (gD F g (pS k e s).2.2 (.tuple #[.int .u64 (pS k e s).1, .int .i64 (pS k e s).2.1]) w):=by
 have P:=aP h;have T:=aP hw;have M:aH (pS k e s=if 16<=s then(0,1,k) else if(tQ k.c e s).isSome then(0,7,k) else match n9 k.f with
  |none=>(0,20,{k with f:=kG k.f})
  |some i=>if(dM k.c e s 1 i 15 0).1≠0 then(0,(dM k.c e s 1 i 15 0).1,{k with f:=kG k.f,c:=(dM k.c e s 1 i 15 0).2}) else((i:Int),0,{k with f:=kG k.f,c:=(dM k.c e s 1 i 15 0).2})):=rfl
 generalize pS k e s=rk at *;by_cases B:16<=s
 .have b:aH (rk=(0,1,k)):=by unfold aH;rw[M.o,aaK B]
  clear h hw M;go_enter func163,ntmps163
  go_wp2_with fail
  go_ret2
  rw[b.o];exact⟨rfl,⟨a,P.o⟩,Kp.refl _ _⟩
 .have b:aH (rk=if(tQ k.c e s).isSome then(0,7,k) else match n9 k.f with
   |none=>(0,20,{k with f:=kG k.f})
   |some i=>if(dM k.c e s 1 i 15 0).1≠0 then(0,(dM k.c e s 1 i 15 0).1,{k with f:=kG k.f,c:=(dM k.c e s 1 i 15 0).2}) else((i:Int),0,{k with f:=kG k.f,c:=(dM k.c e s 1 i 15 0).2})):=by unfold aH;rw[M.o,aaL B]
  clear M;obtain⟨G,C,_⟩:=h.cp;have y:=L9 C e s;have pc:=h.pc;unfold pA at pc;clear h C hw;cases hq:tQ k.c e s with
  |some x=>
   rw[hq] at y b;have y:=aP y;clear hq;obtain⟨Y,Z,x3,x4,x5⟩:=x;go_enter func163,ntmps163
   go_wp2_with fail
   refine aR y ?_;rintro r w2 ⟨rfl,j⟩;simp only[mC,acE];have U:=aP (P.o.below (j.alloc j.size (aI #[Y,Z,x3] 154)));clear j;go_wp2_with fail
   go_ret2
   rw[b.o];exact⟨rfl,⟨a,U.o.1⟩,U.o.2⟩
  |none=>
   rw[hq] at y b;have y:=aP y;clear hq;go_enter func163,ntmps163
   go_wp2_with fail
   refine aR y ?_;rintro r w2 ⟨rfl,j⟩;simp only[mC,acF];have N:=aP (P.o.below (j.alloc j.size (aI #[aU,aU,aU] 154)));have pf:=N.o.1.pf;unfold pA at pf;obtain⟨G2,Q,back⟩:=N.o.1.fr;have p:=Jd k.f a.gf _ Q.m;have q:=aP Q;have O:=aP back;clear Q back j pc;cases d:n9 k.f with
   |none=>
    have l:aH (rk=(0,20,{k with f:=kG k.f})):=by unfold aH;rw[b.o,d];rfl
    unfold R2 at p;rw[d] at p;have p:=aP p;clear d b;go_wp2_with fail
    refine aR p ?_;rintro r w4 ⟨rfl,u,g4⟩;obtain⟨t1,t2⟩:=q.o.eV u g4;obtain⟨z,D⟩:=O.o _ _ t1 t2;have E:=bH z (N.o.2.trans D);clear u g4 t1 t2 z D O q p pf;go_wp2_with fail
    go_ret2
    rw[l.o];exact⟨rfl,⟨a,E.o.1⟩,E.o.2⟩
   |some i=>
    have l:aH (rk=if(dM k.c e s 1 i 15 0).1≠0 then(0,(dM k.c e s 1 i 15 0).1,{k with f:=kG k.f,c:=(dM k.c e s 1 i 15 0).2}) else((i:Int),0,{k with f:=kG k.f,c:=(dM k.c e s 1 i 15 0).2})):=by unfold aH;rw[b.o,d];rfl
    unfold R2 at p;rw[d] at p;have p:=aP p;have V:i<32:=by
     unfold n9 at d;have h1:=(aa5.1 d).1;have h2:=q.o.m.t;rw[aa9] at h1;omega
    clear d b;go_wp2_with fail
    refine aR p ?_;rintro r w4 ⟨rfl,u,g4⟩;obtain⟨t1,t2⟩:=q.o.eV u g4;obtain⟨z,D⟩:=O.o _ _ t1 t2;obtain⟨G4,H,v⟩:=z.cp;have R:=aP (P3 H ⟨T.o.cn.1,by have:=T.o.cn.2;show k.c.n<=_;omega⟩ e s 1 i 15);have I:=aP v;have pc:=z.pc;unfold pA at pc;have E:=bH z (N.o.2.trans D);clear u g4 t1 t2 z D O q p pf H v;simp only at R;generalize dM k.c e s 1 i 15 0=pr at *;go_wp2_with fail
    refine aR R ?_;rintro r w5 ⟨rfl,J,K⟩;obtain⟨W,X⟩:=I.o _ _ J K;have L:=bH W (E.o.2.trans X);clear J K W X I R pc E;obtain⟨p1,p2⟩:=pr;simp only at l L;by_cases hp:p1=0
    .have A:aH (rk=((i:Int),0,{k with f:=kG k.f,c:=p2})):=by unfold aH;rw[l.o,aaL (by simpa using hp)]
     have S:(p1 !=0)=false:=by simp[hp]
     have hwi:IntKind.u64.wrap (i:Int)=(i:Int):=by rw[IntKind.wrap_u64];omega
     clear hp l;go_wp2_with fail
     go_ret2
     rw[A.o];exact⟨rfl,⟨a,L.o.1⟩,L.o.2⟩
    .have A:aH (rk=(0,p1,{k with f:=kG k.f,c:=p2})):=by unfold aH;rw[l.o,aaK (by simpa using hp)]
     have S:(p1 !=0)=true:=by simp[hp]
     clear hp l;go_wp2_with fail
     go_ret2
     rw[A.o];exact⟨rfl,⟨a,L.o.1⟩,L.o.2⟩
end
end
end Go.Proofs.YtacgiflhgdaeaaaGreat
