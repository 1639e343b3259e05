/- Texts laid as one. -/
import Derived.Lib.Hide
import Derived.Deep.MidRow
import Derived.Lib.SliceRun
import Derived.Test.YtacgiflhgdaeaaaGreatZ1
import Derived.Test.YtacgiflhgdaeaaaGreatZ2
import Derived.Test.YtacgiflhgdaeaaaGreatZ8
import Derived.Test.YtacgiflhgdaeaaaGreatZ9
import Derived.Test.YtacgiflhgdaeaaaGreatZ10
import Derived.Test.YtacgiflhgdaeaaaGreatZ11
set_option linter.unusedVariables false
set_option linter.unusedSimpArgs false
set_option maxRecDepth 100000
set_option maxHeartbeats 20000000
namespace Go.Proofs.YtacgiflhgdaeaaaGreat
open Go.Proofs.Tryz
open Go renaming World->aA,Addr->aJ,Calls->aG
open Go.RowKit renaming Below->aD,Hid->aH,intOf->aL
open Go.Obj renaming cells->aI
section
open Go.RowKit Go.Lib Go.Shelf
theorem Yn:jM prog 123 199 3 24:=gA (z:= .agg #[aU,aU,aU]) underlying123 aV (by simp[Value.cells]) aQ
theorem Tl:jM prog 102 125 5 56:=gA (z:= .agg #[aU,aU,aU,bA,aU]) underlying102 aV (by simp[Value.cells]) aQ
theorem Wx:jM prog 34 75 1 8:=gA (z:= .int .u64 0) underlying34 aV rfl aQ
def C1{α:Type}(enc:α->List Value)(sz:Nat)(e:TypeId)(L:List α)(w:aA)(r:Ending)(w':aA):Prop:=∃(B:Option aJ) (d:Nat),r= .returned (.slice B L.length d)/\bB enc sz w' w e B d L/\aD w w w'
theorem PO(A:Option aJ)(L:List Sc)(c:Nat)(w:aA)(h:Sl qP 3 w A L)(o:L.length<=4000000000):
 aG prog 53 #[(A,L.length,c)] w (C1 qP 3 199 L w):=by
 cases A with
 |none=>
  have e:L= []:=by
   cases L with
   |nil=>rfl
   |cons x xs=>obtain⟨_,_,f,_⟩:=h aT;cases f
  subst e;simp only[ab5];have hq:=λw=>Lib.run_eql_slice_nil (P:=prog) w 123 199 none 0 c 0 0 underlying123
  clear h;go_enter func53,ntmps53
  go_wp2_with fail
  go_ret
  exact⟨none,0,rfl,bB.nil _ _ _,Below.refl _ _⟩
 |some a=>
  have g:=λw=>Lib.run_eql_slice_nil (P:=prog) w 123 199 (some a) L.length c 0 0 underlying123
  go_enter func53,ntmps53
  go_wp2_with(at_builtin;refine bN _ rfl _ _ rfl Yn R1 (bB.empty w 199 (base:=w.heap.size) (aaH _)) (n:=0) rfl rfl (m:=L.length) rfl (ys:=L) rfl (h.alloc _) dT aQ aT _ rfl L.length aT ?_;intro i j p b d l;simp only[aeK] at b)
  go_ret
  exact⟨i,j,rfl,b,(aX _ _).grown d aT (λk hk=>by simp[aZ] at hk;omega)⟩
theorem Gd(A:Option aJ)(L:List Tm)(c:Nat)(w:aA)(h:Sl sI 5 w A L)(o:L.length<=4000000000):
 aG prog 68 #[(A,L.length,c)] w (C1 sI 5 125 L w):=by
 cases A with
 |none=>
  have e:L= []:=by
   cases L with
   |nil=>rfl
   |cons x xs=>obtain⟨_,_,f,_⟩:=h aT;cases f
  subst e;simp only[ab5];have hq:=λw=>Lib.run_eql_slice_nil (P:=prog) w 102 125 none 0 c 0 0 underlying102
  clear h;go_enter func68,ntmps68
  go_wp2_with fail
  go_ret
  exact⟨none,0,rfl,bB.nil _ _ _,Below.refl _ _⟩
 |some a=>
  have g:=λw=>Lib.run_eql_slice_nil (P:=prog) w 102 125 (some a) L.length c 0 0 underlying102
  go_enter func68,ntmps68
  go_wp2_with(at_builtin;refine bN _ rfl _ _ rfl Tl oI (bB.empty w 125 (base:=w.heap.size) (aaH _)) (n:=0) rfl rfl (m:=L.length) rfl (ys:=L) rfl (h.alloc _) dT aQ aT _ rfl L.length aT ?_;intro i j p b d l;simp only[aeK] at b)
  go_ret
  exact⟨i,j,rfl,b,(aX _ _).grown d aT (λk hk=>by simp[aZ] at hk;omega)⟩
theorem Ji(A:Option aJ)(L:List Ev)(c:Nat)(w:aA)(h:Sl rD 4 w A L)(o:L.length<=4000000000):
 aG prog 120 #[(A,L.length,c)] w (C1 rD 4 165 L w):=by
 cases A with
 |none=>
  have e:L= []:=by
   cases L with
   |nil=>rfl
   |cons x xs=>obtain⟨_,_,f,_⟩:=h aT;cases f
  subst e;simp only[ab5];have hq:=λw=>Lib.run_eql_slice_nil (P:=prog) w 162 165 none 0 c 0 0 underlying162
  clear h;go_enter func120,ntmps120
  go_wp2_with fail
  go_ret
  exact⟨none,0,rfl,bB.nil _ _ _,Below.refl _ _⟩
 |some a=>
  have g:=λw=>Lib.run_eql_slice_nil (P:=prog) w 162 165 (some a) L.length c 0 0 underlying162
  go_enter func120,ntmps120
  go_wp2_with(at_builtin;refine bN _ rfl _ _ rfl Sk wU (bB.empty w 165 (base:=w.heap.size) (aaH _)) (n:=0) rfl rfl (m:=L.length) rfl (ys:=L) rfl (h.alloc _) dT aQ aT _ rfl L.length aT ?_;intro i j p b d l;simp only[aeK] at b)
  go_ret
  exact⟨i,j,rfl,b,(aX _ _).grown d aT (λk hk=>by simp[aZ] at hk;omega)⟩
variable{w:aA}{A:Option aJ}
section
def tH(P:List Int)(n k:Nat):List Int:=(List.range k).foldl (λR i=>R.set (P.getD i 0).toNat (i:Int)) (List.replicate n 0)
theorem KX(P:List Int)(n k:Nat):tH P n (k+1)=(tH P n k).set (P.getD k 0).toNat (k:Int):=by unfold tH;rw[acT,acQ];rfl
theorem EM(P:List Int)(n:Nat):∀k,(tH P n k).length=n
 |0=>by simp[tH]
 |k+1=>by rw[KX,aaV];exact EM P n k
def sW(L:List Tk)(od:Int):List Int:=tH (mO L od) L.length L.length
theorem DK(L:List Tk)(od:Int):(sW L od).length=L.length:=EM _ _ _
theorem KT{L:List Tm}(h:wS w A L)(U:L.length<=20)(c:Nat)(od:Int):
 aG prog 51 #[(A,L.length,c),od] w λe w'=>∃q,e= .returned (.slice (some ⟨q,0,none⟩) L.length L.length)/\bB eI 1 w' w.heap.size 3 (some ⟨q,0,none⟩) L.length (sW (L.map Tm.t) od)/\aD w w w':=by
 obtain⟨i0,M,N,O,Q⟩:=info_parts JL;have Z:=aP h;clear h;go_enter func51,ntmps51
 go_wp2_with(at_make;refine wpList_make_full _ rfl _ _ 35 rfl w.heap.size 3 i0 _ 1 underlying35 M N O _ _ _ _ L.length rfl rfl rfl rfl (by rw[Q];omega) dT aT ?_;intro V a z)
 rw[FV] at a;have yR:bB eI 1 V w.heap.size 3 (some ⟨w.heap.size,0,none⟩) L.length (List.replicate L.length 0):=by
  unfold bB;rw[acZ];exact a
 have v:aD w w V:=(Below.refl _ _).grown z aT (λk hk=>by cases hk);have W:=aP (SX (Z.o.keep v) U c od);have C:=bH yR v;clear yR v a z;generalize hq:w.heap.size=q at *;go_wp2_with fail
 refine aR W ?_;rintro e w4 ⟨B,d,rfl,D,x,E⟩;have s:=C.o.1.keep x;have F:aH (∀r,some q=some r->aZ B≠some r):=λr G e=>by injection G with G;have h1:=E r e;have h2:=(C.o.1.lt q rfl).2;omega
 have I:=aP (And.intro D (And.intro s (C.o.2.trans (x.mono (by have:=C.o.2.size;omega)))));have g:=aP (S8 (L.map Tm.t) od);have i:=aP (XE (L.map Tm.t) od);have f:aH (sW (L.map Tm.t) od=tH (mO (L.map Tm.t) od) (L.map Tm.t).length (L.map Tm.t).length):=rfl;clear s D x E W C;obtain⟨P,X⟩:∃P,P=mO (L.map Tm.t) od:=⟨_,rfl⟩
 rw[<-X] at I g i f;rw[abT] at g i f;obtain⟨n,J⟩:∃n,n=L.length:=⟨_,rfl⟩
 rw[<-J] at I g i f U;rw[<-J];have R:=aP J;clear X J;go_wp2_with fail
 go_loopw [6,7,15] (λ_ _ y wr=>∃k:Nat,k<=n/\y= .int .i64 k/\aH (Sl eI 1 wr B P/\bB eI 1 wr q 3 (some ⟨q,0,none⟩) n (tH P n k)/\aD q w wr)) (λ_ _ y _=>n - (aL y).toNat)
 case atStart=>exact⟨0,aaQ _,rfl,I.o⟩
 case round=>
  clear I;obtain⟨k,hk,rfl,l⟩:=hrel;by_cases S:k<n
  .have k0:(0:Int)<=k:=aQ;have k1:(k:Int)<(n:Int):=aQ;have p:k<P.length:=by rw[g.o];exact S
   obtain⟨b,off,Y,c0⟩:=l.o.1.EJ p;obtain⟨p0,p1⟩:=i.o P[k] (aaM p);obtain⟨m,hm⟩:=aaO p0;have T:m<n:=aQ;have m0:(0:Int)<=m:=aQ;have m1:(m:Int)<(n:Int):=aQ;obtain⟨r1,r2⟩:=cH l.o.2.1 m aQ;obtain⟨v0,r1⟩:=ae2.1 r1;have H:m<(tH P n k).length:=by rw[EM];exact T
   obtain⟨o1,o2⟩:=qR LN l.o.2.1 H (j:=0) aQ (k:Int) (.int .i64 k) rfl;rw[acI,aa3] at o1 o2;have u:(tH P n k).set m (k:Int)=tH P n (k+1):=by
    rw[KX,aaU,aaG p];simp[hm]
   rw[u] at o1;have K:aH (Sl eI 1 (wr.setCell ⟨q,m,none⟩ k) B P/\bB eI 1 (wr.setCell ⟨q,m,none⟩ k) q 3 (some ⟨q,0,none⟩) n (tH P n (k+1))/\aD q w (wr.setCell ⟨q,m,none⟩ k)):=
    ⟨l.o.1.grown o2 F.o,o1,l.o.2.2.grown o2 (by rw[<-hq];exact l.o.2.2.size) (λr G=>by injection G with G;omega)⟩
   rw[hm] at c0;clear l o1 o2 u H p0 p1 p hm;rw[Y];rw[Y] at K F;go_wp2_with fail
   refine⟨⟨k+1,aQ,rfl,K.o⟩,by simp only[aL];omega⟩
  .obtain rfl:k=n:=aQ;have K:aH (bB eI 1 wr q 3 (some ⟨q,0,none⟩) k (sW (L.map Tm.t) od)/\aD q w wr):=by rw[f.o];exact l.o.2
   clear l f;go_wp2_with fail
   go_ret
   rw[show L.length=k from R.o.symm,hq];exact⟨_,rfl,K.o⟩
def Ly(t:Tk)(lock:Int):Bool:=t.se.any λs=>decide (s.lk=lock)
def zV(L:List Tk)(R:List Int)(lock:Int)(n:Int):Nat->Int
 |0=>n
 |k+1=>if Ly (L.getD k nO) lock then min (zV L R lock n k) (R.getD k 0) else zV L R lock n k
def mS(L:List Tk)(od lock:Int):Int:=zV L (sW L od) lock L.length L.length
theorem Ed{L:List Tm}(h:wS w A L)(hl:L.length<=20)(W:∀x∈L,x.t.se.length<=20)(c:Nat)(od lock:Int):
 aG prog 54 #[(A,L.length,c),od,lock] w λe w'=>e= .returned (.int .i64 (mS (L.map Tm.t) od lock))/\aD w w w':=by
 have X:=aP (KT h hl c od);have Y:=aP h;have H8:=aP W;clear h W;go_enter func54,ntmps54
 go_wp2_with fail
 refine aR X ?_;rintro e w2 ⟨q,rfl,FC,B⟩;have g:=DK (L.map Tm.t) od;rw[abT] at g;have C:aH (mS (L.map Tm.t) od lock=zV (L.map Tm.t) (sW (L.map Tm.t) od) lock L.length L.length):=by unfold aH mS;rw[abT]
 generalize sW (L.map Tm.t) od=R at *;have Z:=bH (FC.sl fX) B;have N:=aP g;clear FC B X g;go_wp2_with fail
 go_loopw [7,8,9,11,18] (λO _ _ _ j wr=>∃k:Nat,k<=L.length/\j= .int .i64 k/\(∃m:Int,O= .int .i64 m/\aH (zV (L.map Tm.t) R lock L.length k=m))/\aH (Sl eI 1 wr q R/\aD w w wr)) (λ_ _ _ _ j _=>L.length - (aL j).toNat)
 case atStart=>exact⟨0,aaQ _,rfl,⟨_,rfl,rfl⟩,Z.o⟩
 case round=>
  clear Z;obtain⟨k,hk,rfl,⟨m,rfl,K⟩,HQ⟩:=hrel;by_cases f:k<L.length
  .have k0:(0:Int)<=k:=aQ;have k1:(k:Int)<(L.length:Int):=aQ;have l:k<R.length:=by rw[N.o];exact f
   obtain⟨b,off,P,c0⟩:=HQ.o.1.EJ l;injection P with P;injection P with Q S;subst Q S;rw[abQ] at c0;obtain⟨b,off,T,t0,t1,t2,t3,t4⟩:=(Y.o.keep HQ.o.2).at_ f;have D:=(Y.o.keep HQ.o.2).sl _ (aaM f);have h8x:=H8.o _ (aaM f);have E:aH (zV (L.map Tm.t) R lock L.length (k+1)=if Ly L[k].t lock then min m R[k] else m):=by
    unfold aH;rw[zV,K.o,aaU,ab7,aaG f,aaU,aaG l];rfl
   generalize L[k]=x at *;generalize R[k]=r at *;have n:=aP D;have U:=aP T;clear D l t0 t1 t2 t4;rw[T];obtain⟨wz,F⟩:∃z,z=wr:=⟨_,rfl⟩
   rw[<-F] at n HQ;go_upto_region 6 with(fail)
   rw[<-F];clear t3 c0 T;go_loopw [7,11,29] (λO _ p wi=>∃i:Nat,i<=x.t.se.length/\p= .int .i64 i/\(∃u:Int,O= .int .i64 u/\aH (u=if(x.t.se.take i).any (λs=>decide (s.lk=lock)) then min m r else m))/\aH (aD wz wz wi)) (λ_ _ p _=>x.t.se.length - (aL p).toNat)
   case atStart=>exact⟨0,aaQ _,rfl,⟨m,rfl,by simp[aH]⟩,Below.refl _ _⟩
   case round=>
    obtain⟨i,hi,rfl,⟨u,rfl,a⟩,v⟩:=hrel;by_cases G:i<x.t.se.length
    .obtain⟨b2,off2,y,s0,s1,s2⟩:=(n.o.keep v.o).LB G;have i0:(0:Int)<=i:=aQ;have i1:(i:Int)<(x.t.se.length:Int):=aQ;have M:aH ((x.t.se.take (i+1)).any (λs=>decide (s.lk=lock))=((x.t.se.take i).any (λs=>decide (s.lk=lock)) || decide ((x.t.se[i]).lk=lock))):=by
      unfold aH;rw[<-abS G,List.any_append];simp
     generalize x.t.se[i]=sv at *;have H:=v.o.alloc v.o.size (aI #[sv.lk,sv.fr,sv.gZ] 199);have x0:=(bC.new wr 199 #[sv.lk,sv.fr,sv.gZ]).cell 0 _ rfl;have I:=aP H;clear H v;rw[y];go_upto_region 8 with(fail)
     generalize wr.alloc (aI #[sv.lk,sv.fr,sv.gZ] 199)=w8 at *;clear s0 s1 s2;by_cases d:sv.lk=lock
     .have he:(sv.lk==lock)=true:=by simpa using d
      have J:aH (min u r=if(x.t.se.take (i+1)).any (λs=>decide (s.lk=lock)) then min m r else m):=by
       unfold aH;rw[M.o,a.o];simp only[d,decide_true,Bool.or_true,acY];split <;> omega
      clear d a M;go_wp2_with fail
      try rw[<-y]
      refine⟨⟨i+1,aQ,rfl,⟨_,rfl,J.o⟩,I.o⟩,by simp only[aL];omega⟩
     .have he:(sv.lk==lock)=false:=by simpa using d
      have J:aH (u=if(x.t.se.take (i+1)).any (λs=>decide (s.lk=lock)) then min m r else m):=by
       unfold aH;rw[M.o,a.o];simp only[d,decide_false,Bool.or_false]
      clear d a M;go_wp2_with fail
      try rw[<-y]
      refine⟨⟨i+1,aQ,rfl,⟨_,rfl,J.o⟩,I.o⟩,by simp only[aL];omega⟩
    .obtain rfl:i=x.t.se.length:=aQ;have J:aH (zV (L.map Tm.t) R lock L.length (k+1)=u):=by
      unfold aH;rw[E.o,a.o,aa7 (aaH _)];rfl
     have V:aH (Sl eI 1 wr q R/\aD w w wr):=⟨HQ.o.1.keep v.o,HQ.o.2.trans (v.o.mono HQ.o.2.size)⟩
     clear a E v HQ n K;go_wp2_with fail
     try rw[<-U.o]
     refine⟨⟨k+1,aQ,rfl,⟨u,rfl,J.o⟩,V.o⟩,by simp only[aL];omega⟩
  .obtain rfl:k=L.length:=aQ;have HE:aH (mS (L.map Tm.t) od lock=m):=C.o.trans K.o;clear C K;go_wp2_with fail
   go_ret
   rw[HE.o];exact⟨rfl,HQ.o.2⟩
end
def KC(t:Tk):Bool:=decide (1<=t.co/\t.co<=t.de/\t.de<=t.pe/\t.pe<=1048576)
def pZ(a b:Sc):Bool:=decide (b.fr<=a.fr/\a.gZ<=b.gZ)
def lZ(a b:Sc):Bool:=decide (a.gZ<=b.fr\/b.gZ<=a.fr) || ((pZ a b || pZ b a)&&decide (a.lk≠b.lk))
def pJ(t:Tk)(s:Sc):Bool:=decide (0<=s.lk/\s.lk<8/\0<=s.fr/\s.fr<s.gZ/\s.gZ<=t.co)
def Cu:Sc:=⟨0,0,0⟩
def r9(t:Tk)(i:Nat):Nat->Bool
 |0=>true
 |j+1=>r9 t i j&&lZ (t.se.getD i Cu) (t.se.getD j Cu)
def tB(t:Tk):Nat->Bool
 |0=>true
 |i+1=>tB t i&&(pJ t (t.se.getD i Cu)&&r9 t i i)
def yD(t:Tk):Bool:=KC t&&decide (0<=t.po/\t.po<=2/\t.se.length<=8)
def fN(t:Tk):Bool:=yD t&&tB t t.se.length
def qD(L:List Tk):Bool:=decide (L.length<=8)&&L.all fN
theorem ZN{L:List Tk}(h:qD L=true):L.length<=8/\∀t∈L,Cz t:=by
 unfold qD at h;rw[abJ,afE,abR] at h;refine⟨h.1,λt a=>?_⟩;have h1:=h.2 t a;unfold fN yD KC at h1;simp only[abJ,afE] at h1;exact⟨aQ,aQ,aQ,aQ,aQ⟩
theorem XP(t:Tk)(w:aA):aG prog 122 #[.agg #[t.co,t.pe,t.de]] w λe w'=>e= .returned (.bool (KC t))/\aD w w w':=by
 have b:=aP (aX w (aI #[t.co,t.pe,t.de] 122));have c:=bC.new w 122 #[t.co,t.pe,t.de];have h:=c.cell 0 _ rfl;have i:=c.cell 1 _ rfl;have j:=c.cell 2 _ rfl;clear c;by_cases h1:¬(1<=t.co)
 .have a:aH (KC t=false):=by exact aa0 aQ
  go_enter func122,ntmps122
  go_wp2_with fail
  go_ret
  rw[a.o];exact⟨rfl,b.o⟩
 replace h1:=ab8.1 h1;by_cases d:¬(t.co<=t.de)
 .have a:aH (KC t=false):=by exact aa0 aQ
  go_enter func122,ntmps122
  go_wp2_with fail
  go_ret
  rw[a.o];exact⟨rfl,b.o⟩
 replace d:=ab8.1 d;by_cases f:¬(t.de<=t.pe)
 .have a:aH (KC t=false):=by exact aa0 aQ
  go_enter func122,ntmps122
  go_wp2_with fail
  go_ret
  rw[a.o];exact⟨rfl,b.o⟩
 replace f:=ab8.1 f;by_cases g:¬(t.pe<=1048576)
 .have a:aH (KC t=false):=by exact aa0 aQ
  go_enter func122,ntmps122
  go_wp2_with fail
  go_ret
  rw[a.o];exact⟨rfl,b.o⟩
 replace g:=ab8.1 g;have a:aH (KC t=true):=by exact abD aQ
 go_enter func122,ntmps122
 go_wp2_with fail
 go_ret
 rw[a.o];exact⟨rfl,b.o⟩
theorem II(a b:Sc)(w:aA):aG prog 178 #[.agg #[a.lk,a.fr,a.gZ], .agg #[b.lk,b.fr,b.gZ]] w λe w'=>e= .returned (.bool (pZ a b))/\aD w w w':=by
 have d:=aP ((aX w (aI #[a.lk,a.fr,a.gZ] 199)).alloc aT (aI #[b.lk,b.fr,b.gZ] 199));have f:=(bC.new w 199 #[a.lk,a.fr,a.gZ]).alloc (aI #[b.lk,b.fr,b.gZ] 199);have h:=bC.gK (w.alloc (aI #[a.lk,a.fr,a.gZ] 199)) 199 #[b.lk,b.fr,b.gZ] (g:=w.heap.size+1) aT;have j:=f.cell 1 _ rfl;have a2:=f.cell 2 _ rfl;have b1:=h.cell 1 _ rfl;have b2:=h.cell 2 _ rfl;clear f h;by_cases h1:¬(b.fr<=a.fr)
 .have c:aH (pZ a b=false):=by exact aa0 aQ
  go_enter func178,ntmps178
  go_wp2_with fail
  go_ret
  rw[c.o];exact⟨rfl,d.o⟩
 replace h1:=ab8.1 h1;by_cases i:¬(a.gZ<=b.gZ)
 .have c:aH (pZ a b=false):=by exact aa0 aQ
  go_enter func178,ntmps178
  go_wp2_with fail
  go_ret
  rw[c.o];exact⟨rfl,d.o⟩
 replace i:=ab8.1 i;have c:aH (pZ a b=true):=by exact abD aQ
 go_enter func178,ntmps178
 go_wp2_with fail
 go_ret
 rw[c.o];exact⟨rfl,d.o⟩
theorem VJ(a b:Sc)(w:aA):aG prog 123 #[.agg #[a.lk,a.fr,a.gZ], .agg #[b.lk,b.fr,b.gZ]] w λe w'=>e= .returned (.bool (lZ a b))/\aD w w w':=by
 have n:=aP ((aX w (aI #[a.lk,a.fr,a.gZ] 199)).alloc aT (aI #[b.lk,b.fr,b.gZ] 199));have p:=(bC.new w 199 #[a.lk,a.fr,a.gZ]).alloc (aI #[b.lk,b.fr,b.gZ] 199);have q:=bC.gK (w.alloc (aI #[a.lk,a.fr,a.gZ] 199)) 199 #[b.lk,b.fr,b.gZ] (g:=w.heap.size+1) aT;have a0:=p.cell 0 _ rfl;have m:=p.cell 1 _ rfl;have a2:=p.cell 2 _ rfl;have b0:=q.cell 0 _ rfl;have b1:=q.cell 1 _ rfl;have b2:=q.cell 2 _ rfl;clear p q;have j:=aP (λW=>II a b W);have k:=aP (λW=>II b a W);by_cases h1:a.gZ<=b.fr
 .have i:aH (lZ a b=true):=by unfold aH lZ;rw[abD (.inl h1)];rfl
  clear j k;go_enter func123,ntmps123
  go_wp2_with fail
  go_ret
  rw[i.o];exact⟨rfl,n.o⟩
 by_cases r:b.gZ<=a.fr
 .have i:aH (lZ a b=true):=by unfold aH lZ;rw[abD (.inr r)];rfl
  clear j k;go_enter func123,ntmps123
  go_wp2_with fail
  go_ret
  rw[i.o];exact⟨rfl,n.o⟩
 have i:aH (lZ a b=((pZ a b || pZ b a)&&decide (a.lk≠b.lk))):=by unfold aH lZ;rw[aa0 (λh=>h.elim h1 r)];rfl
 generalize s:pZ a b=u at *;generalize t:pZ b a=x at *;have c:aH (∀v,(v=true↔a.lk≠b.lk)->decide (a.lk≠b.lk)=v):=λv h=>by
  cases v
  .exact aa0 (λr=>by have:=h.2 r;cases this)
  .exact abD (h.1 rfl)
 clear s t;go_enter func123,ntmps123
 go_wp2_with fail
 refine aS (j.o _) ?_;rintro e y ⟨rfl,d⟩;replace a0:=bD d a0;replace b0:=bD d b0;replace m:=bD d m;replace a2:=bD d a2;replace b1:=bD d b1;replace b2:=bD d b2;have f:=aP (n.o.trans (d.mono n.o.size));clear d j n;cases u
 .go_wp2_with fail
  refine aS (k.o _) ?_;rintro e z ⟨rfl,d⟩;replace a0:=bD d a0;replace b0:=bD d b0;replace m:=bD d m;replace a2:=bD d a2;replace b1:=bD d b1;replace b2:=bD d b2;replace f:=aP (f.o.trans (d.mono f.o.size));clear d k;cases x
  .have l:aH (lZ a b=false):=by rw[i.o];rfl
   clear i c;go_wp2_with fail
   go_ret
   rw[l.o];exact⟨rfl,f.o⟩
  .clear m a2 b1 b2;by_cases hk:a.lk=b.lk
   .have hq:(a.lk !=b.lk)=false:=by simp[hk]
    have l:aH (lZ a b=false):=by rw[i.o,c.o false (by simp[hk])];simp[aH]
    clear hk i c;go_wp2_with fail
    go_ret
    rw[l.o];exact⟨rfl,f.o⟩
   .have hq:(a.lk !=b.lk)=true:=by simpa using hk
    have l:aH (lZ a b=true):=by rw[i.o,c.o true (by simp[hk])];simp[aH]
    clear hk i c;go_wp2_with fail
    go_ret
    rw[l.o];exact⟨rfl,f.o⟩
 .clear m a2 b1 b2;by_cases hk:a.lk=b.lk
  .have hq:(a.lk !=b.lk)=false:=by simp[hk]
   have l:aH (lZ a b=false):=by rw[i.o,c.o false (by simp[hk])];simp[aH]
   clear hk i c;go_wp2_with fail
   go_ret
   rw[l.o];exact⟨rfl,f.o⟩
  .have hq:(a.lk !=b.lk)=true:=by simpa using hk
   have l:aH (lZ a b=true):=by rw[i.o,c.o true (by simp[hk])];simp[aH]
   clear hk i c;go_wp2_with fail
   go_ret
   rw[l.o];exact⟨rfl,f.o⟩
variable{i j:Nat}
section
theorem NG{t:Tk}(h:tB t i=false):∀n,i<=n->tB t n=false
 |0,hn=>by
  obtain rfl:i=0:=aQ;exact h
 |n+1,hn=>by
  by_cases he:i=n+1
  .rw[<-he];exact h
  .rw[tB,NG h n aQ];rfl
theorem Q9{t:Tk}(h:r9 t i j=false):∀n,j<=n->r9 t i n=false
 |0,hn=>by
  obtain rfl:j=0:=aQ;exact h
 |n+1,hn=>by
  by_cases he:j=n+1
  .rw[<-he];exact h
  .rw[r9,Q9 h n aQ];rfl
theorem u9{t:Tk}(h:yD t=false):fN t=false:=by unfold fN;rw[h];rfl
theorem S4{t:Tk}(h:tB t (i+1)=false)(hi:i<t.se.length):fN t=false:=by unfold fN;rw[NG h _ hi,afV]
theorem X8(x:Tm)(w:aA)(hs:Sl qP 3 w x.A x.t.se)(hl:x.t.se.length<=1000000)(hcap:x.t.se.length<=x.c):
 aG prog 85 #[.agg #[.int .i64 x.t.co,x.t.pe,x.t.de,(x.A,x.t.se.length,x.c),x.t.po]] w λe w'=>e= .returned (.bool (fN x.t))/\aD w w w':=by
 have T:=aX w (aI #[.int .i64 x.t.co,x.t.pe,x.t.de,(x.A,x.t.se.length,x.c),x.t.po] 125);have U:=bC.new w 125 #[.int .i64 x.t.co,x.t.pe,x.t.de,(x.A,x.t.se.length,x.c),x.t.po];have x0:=U.cell 0 _ rfl;have x1:=U.cell 1 _ rfl;have x2:=U.cell 2 _ rfl;have HT:=aP (XP x.t (w.alloc (aI #[.int .i64 x.t.co,x.t.pe,x.t.de,(x.A,x.t.se.length,x.c),x.t.po] 125)));have HS:aH (Sl qP 3 w x.A x.t.se):=hs;have H1:=bH T U;clear T U hs;go_enter func85,ntmps85
 go_wp2_with fail
 refine aR HT ?_;rintro e w2 ⟨rfl,hb⟩;have J:aH (aD w w w2/\bC w2 w.heap.size 125 #[.int .i64 x.t.co,x.t.pe,x.t.de,(x.A,x.t.se.length,x.c),x.t.po]):=⟨H1.o.1.trans (hb.mono H1.o.1.size),H1.o.2.keep hb⟩
 have y1:=J.o.2.cell 3 (.slice x.A x.t.se.length x.c) rfl;have y2:=J.o.2.cell 4 x.t.po rfl;clear hb HT H1 x0 x1 x2;generalize m:x.t.po=po at *;generalize z:x.t.se.length=n at *;cases r:KC x.t
 .have f:aH (fN x.t=false):=u9 (by unfold yD;rw[r];rfl);go_wp2_with fail
  go_ret
  rw[f.o];exact⟨rfl,J.o.1⟩
 .by_cases h1:¬(0<=po)
  .have f:aH (fN x.t=false):=u9 (by unfold yD;rw[r,m,z];exact aa0 aQ);clear m z;go_wp2_with fail
   go_ret
   rw[f.o];exact⟨rfl,J.o.1⟩
  replace h1:=ab8.1 h1;by_cases R:¬(po<=2)
  .have f:aH (fN x.t=false):=u9 (by unfold yD;rw[r,m,z];exact aa0 aQ);clear m z;go_wp2_with fail
   go_ret
   rw[f.o];exact⟨rfl,J.o.1⟩
  replace R:=ab8.1 R;by_cases K:¬(n<=8)
  .have f:aH (fN x.t=false):=u9 (by unfold yD;rw[r,m,z];exact aa0 aQ);clear m z;go_wp2_with fail
   go_ret
   rw[f.o];exact⟨rfl,J.o.1⟩
  replace K:=ab8.1 K;have HH:aH (yD x.t=true):=by
   unfold aH yD;rw[r,m,z];exact abD aQ
  have p:=aP z;have hn8:n<=8:=aQ;clear m r z;go_wp2_with fail
  clear y2 h1 R K;have V:aH (∀W,aD w w W->Sl qP 3 W x.A x.t.se):=λW h=>HS.o.keep h
  clear HS;generalize k:w.heap.size=g at *;go_loopw [3,4,6,30] (λ_ _ _ v30 wr=>∃i:Nat,i<=n/\v30= .int .i64 i/\aH (tB x.t i=true)/\aH (aD g w wr/\bC wr g 125 #[.int .i64 x.t.co,x.t.pe,x.t.de,(x.A,n,x.c),po])) (λ_ _ _ v30 _=>n - (aL v30).toNat)
  case atStart=>exact⟨0,aaQ _,rfl,rfl,J.o⟩
  case round=>
   clear J y1;obtain⟨i,hi,rfl,HK,HQ⟩:=hrel;by_cases B:i<n
   .obtain⟨b,off,hA,s0,s1,s2⟩:=(V.o _ HQ.o.1).LB (i:=i) (by rw[p.o];exact B);have i0:(0:Int)<=i:=aQ;have i1:(i:Int)<(n:Int):=aQ;obtain⟨s,C⟩:∃s,s=x.t.se.getD i Cu:=⟨_,rfl⟩
    have v:x.t.se[i]'(by rw[p.o];exact B)=s:=by rw[C,aaU,aaG (by rw[p.o];exact B)];rfl
    rw[v] at s0 s1 s2;have L:aH (tB x.t (i+1)=(tB x.t i&&(pJ x.t s&&r9 x.t i i))):=by unfold aH;rw[C];rfl
    have u:aH ((pJ x.t s&&r9 x.t i i)=false->fN x.t=false):=λh=>S4 (i:=i) (by rw[L.o,h,afV]) (by rw[p.o];exact B)
    have HSD:=aP C;have M:=hA;have q0:=HQ.o.2.cell 0 x.t.co rfl;have X:=HQ.o.1;have hgl:=HQ.o.2.lt;have l:=aX wr (aI #[s.lk,s.fr,s.gZ] 199);have y:=bC.new wr 199 #[s.lk,s.fr,s.gZ];have z0:=y.cell 0 _ rfl;have z1:=y.cell 1 _ rfl;have z2:=y.cell 2 _ rfl;have q1:=bD l q0;have a:aH (aD g w (wr.alloc (aI #[s.lk,s.fr,s.gZ] 199))):=X.trans (l.mono aQ);have D:=cZ l (HQ.o.2.keep l) y;obtain⟨co,d⟩:∃co,x.t.co=co:=⟨_,rfl⟩
    rw[d] at q1;clear C v X l y q0;rw[hA];go_upto_region 6 with(fail)
    generalize wr.alloc (aI #[s.lk,s.fr,s.gZ] 199)=S at *;generalize wr.heap.size=gs at *;clear s0 s1 s2;by_cases h1:¬(0<=s.lk)
    .have f:aH (fN x.t=false):=by
      have E:pJ x.t s=false:=by unfold pJ;rw[d];exact aa0 aQ
      exact u.o (by rw[E];rfl)
     clear d u;go_wp2_with fail
     go_ret
     rw[f.o];exact⟨rfl,by first|exact a.o|(rw[k];exact a.o)⟩
    replace h1:=ab8.1 h1;by_cases R:¬(s.lk<8)
    .have f:aH (fN x.t=false):=by
      have E:pJ x.t s=false:=by unfold pJ;rw[d];exact aa0 aQ
      exact u.o (by rw[E];rfl)
     clear d u;go_wp2_with fail
     go_ret
     rw[f.o];exact⟨rfl,by first|exact a.o|(rw[k];exact a.o)⟩
    replace R:=ab8.1 R;by_cases K:¬(0<=s.fr)
    .have f:aH (fN x.t=false):=by
      have E:pJ x.t s=false:=by unfold pJ;rw[d];exact aa0 aQ
      exact u.o (by rw[E];rfl)
     clear d u;go_wp2_with fail
     go_ret
     rw[f.o];exact⟨rfl,by first|exact a.o|(rw[k];exact a.o)⟩
    replace K:=ab8.1 K;by_cases h4:¬(s.fr<s.gZ)
    .have f:aH (fN x.t=false):=by
      have E:pJ x.t s=false:=by unfold pJ;rw[d];exact aa0 aQ
      exact u.o (by rw[E];rfl)
     clear d u;go_wp2_with fail
     go_ret
     rw[f.o];exact⟨rfl,by first|exact a.o|(rw[k];exact a.o)⟩
    replace h4:=ab8.1 h4;by_cases h5:¬(s.gZ<=co)
    .have f:aH (fN x.t=false):=by
      have E:pJ x.t s=false:=by unfold pJ;rw[d];exact aa0 aQ
      exact u.o (by rw[E];rfl)
     clear d u;go_wp2_with fail
     go_ret
     rw[f.o];exact⟨rfl,by first|exact a.o|(rw[k];exact a.o)⟩
    replace h5:=ab8.1 h5;have Y:aH (pJ x.t s=true):=by unfold aH pJ;rw[d];exact abD aQ
    have Z:aH (r9 x.t i i=false->fN x.t=false):=λh=>u.o (by rw[h,afV])
    have a1:aH (r9 x.t i i=true->tB x.t (i+1)=true):=λh=>by rw[L.o,Y.o,h,HK.o];rfl
    have k1:(i:Int)<=(n:Int):=aQ;have k3:(i:Int)<=(x.c:Int):=aQ;have K:=D.o.2.1.cell 3 (.slice (some ⟨b,off,none⟩) n x.c) (by rw[M];rfl);have a6:=aP d;clear d u L Y;go_upto_region 9 with(fail)
    go_loopw [6,68] (λ_ N wi=>∃j:Nat,j<=i/\N= .int .i64 j/\aH (r9 x.t i j=true)/\aH (aD S S wi)) (λ_ N _=>i - (aL N).toNat)
    case atStart=>exact⟨0,aaQ _,rfl,rfl,Below.refl _ _⟩
    case round=>
     obtain⟨j,hj,rfl,O,q⟩:=hrel;clear z0 z1 z2 q1 K;by_cases hji:j<i
     .have HB6:aH (aD g w wr):=a.o.trans (q.o.mono (by rw[<-k];exact a.o.size));obtain⟨b',off',F,s0,s1,s2⟩:=(V.o _ HB6.o).LB (i:=j) (by rw[p.o];omega);rw[M] at F;injection F with F;injection F with hA1 hA2;subst hA1 hA2;have j0:(0:Int)<=j:=aQ;have j1:(j:Int)<(i:Int):=aQ;obtain⟨o,P⟩:∃o,o=x.t.se.getD j Cu:=⟨_,rfl⟩
      have v:x.t.se[j]'(by rw[p.o];omega)=o:=by rw[P,aaU,aaG (by rw[p.o];omega)];rfl
      rw[v] at s0 s1 s2;have G:aH (r9 x.t i (j+1)=(r9 x.t i j&&lZ s o)):=by unfold aH;rw[HSD.o,P];rfl
      have l:=aX wr (aI #[o.lk,o.fr,o.gZ] 199);have bo:=bC.new wr 199 #[o.lk,o.fr,o.gZ];have y:=(D.o.2.2.keep q.o).keep l;have z0:=y.cell 0 _ rfl;have z1:=y.cell 1 _ rfl;have z2:=y.cell 2 _ rfl;have o0:=bo.cell 0 _ rfl;have o1:=bo.cell 1 _ rfl;have o2:=bo.cell 2 _ rfl;have Q:aH (aD S S (wr.alloc (aI #[o.lk,o.fr,o.gZ] 199))):=q.o.trans (l.mono q.o.size);clear v P l bo y;go_upto_region 11 with(fail)
      generalize wr.alloc (aI #[o.lk,o.fr,o.gZ] 199)=w7 at *;generalize wr.heap.size=go at *;have a7:=aP (VJ s o w7);clear s0 s1 s2;go_wp2_with fail
      refine aR a7 ?_;rintro e w8 ⟨rfl,a8⟩;have aa:aH (aD S S w8):=Q.o.trans (a8.mono Q.o.size);clear a8 a7 Q z0 z1 z2 o0 o1 o2;cases H:lZ s o
      .have f:aH (fN x.t=false):=Z.o (Q9 (j:=j+1) (by rw[G.o,H,afV]) i aQ);have I:aH (aD g w w8):=a.o.trans (aa.o.mono (by rw[<-k];exact a.o.size));clear G H;go_wp2_with fail
       go_ret
       rw[f.o];exact⟨rfl,by first|exact I.o|(rw[k];exact I.o)⟩
      .have f:aH (r9 x.t i (j+1)=true):=by rw[G.o,O.o,H];rfl
       clear G H;go_wp2_with fail
       refine⟨⟨j+1,aQ,rfl,f.o,aa.o⟩,by simp only[aL];omega⟩
     .obtain rfl:j=i:=aQ;have f:=aP (a1.o O.o);have I:aH (aD g w wr/\bC wr g 125 #[.int .i64 co,x.t.pe,x.t.de,(x.A,n,x.c),po]):=⟨a.o.trans (q.o.mono (by rw[<-k];exact a.o.size)),by have h9:=D.o.2.1.keep q.o;rw[a6.o] at h9;exact h9⟩
      have ab:=M;clear D a q O a1 Z;go_wp2_with fail
      rw[<-ab,<-a6.o] at *;refine⟨⟨j+1,aQ,rfl,f.o,I.o⟩,by simp only[aL];omega⟩
   .obtain rfl:i=n:=aQ;have f:aH (fN x.t=true):=by unfold aH fN;rw[HH.o,p.o,HK.o];rfl
    clear HK HH;go_wp2_with fail
    go_ret
    rw[f.o];exact⟨rfl,by first|exact HQ.o.1|(rw[k];exact HQ.o.1)⟩
theorem Jg{L:List Tm}(h:wS w A L)(O:L.length<=1000)(D:∀x∈L,x.t.se.length<=1000000)(c:Nat):
 aG prog 50 #[(A,L.length,c)] w λe w'=>e= .returned (.bool (qD (L.map Tm.t)))/\aD w w w':=by
 have v:=aP h;have F:=aP D;clear h D;by_cases m:¬(L.length<=8)
 .have d:aH (qD (L.map Tm.t)=false):=by unfold aH qD;rw[aa0 (by simpa using m)];rfl
  have y:(8:Int)<(L.length:Int):=aQ;clear m;go_enter func50,ntmps50
  go_wp2_with fail
  go_ret
  rw[d.o];exact⟨rfl,Below.refl _ _⟩
 .replace m:=ab8.1 m;have d:aH (qD (L.map Tm.t)=(L.all λx=>fN x.t)):=by unfold aH qD;rw[abD (by simpa using m),List.all_map];rfl
  have y:¬(8:Int)<(L.length:Int):=aQ;go_enter func50,ntmps50
  go_wp2_with fail
  go_loopw [4,10] (λ_ v10 wr=>∃k:Nat,k<=L.length/\v10= .int .i64 k/\aH ((L.take k).all (λx=>fN x.t)=true)/\aH (aD w w wr)) (λ_ v10 _=>L.length - (aL v10).toNat)
  case atStart=>exact⟨0,aaQ _,rfl,by simp[aH],Below.refl _ _⟩
  case round=>
   obtain⟨k,hk,rfl,z,j⟩:=hrel;by_cases a:k<L.length
   .obtain⟨b,off,G,t0,t1,t2,t3,t4⟩:=(v.o.keep j.o).at_ a;have P:(0:Int)<=k:=aQ;have Q:(k:Int)<(L.length:Int):=aQ;have n:=(v.o.keep j.o).sl _ (aaM a);have p:=v.o.cp _ (aaM a);have B:=F.o _ (aaM a);have C:aH ((L.take (k+1)).all (λx=>fN x.t)=fN L[k].t):=by
     unfold aH;rw[<-abS a,List.all_append,z.o];simp
    have f:aH (fN L[k].t=false->(L.all λx=>fN x.t)=false):=λh=>List.all_eq_false.2 ⟨_,aaM a,by rw[h];simp⟩
    generalize L[k]=x at *;have g:=aX wr (aI #[x.t.co,x.t.pe,x.t.de,(x.A,x.t.se.length,x.c),x.t.po] 125);have l:=bC.new wr 125 #[x.t.co,x.t.pe,x.t.de,(x.A,x.t.se.length,x.c),x.t.po];have H:=l.cell 0 _ rfl;have I:=l.cell 1 _ rfl;have J:=l.cell 2 _ rfl;have K:=l.cell 3 _ rfl;have M:=l.cell 4 _ rfl;have E:=aP (X8 x (wr.alloc (aI #[x.t.co,x.t.pe,x.t.de,(x.A,x.t.se.length,x.c),x.t.po] 125)) (n.keep g) B p);have i:aH (aD w w (wr.alloc (aI #[x.t.co,x.t.pe,x.t.de,(x.A,x.t.se.length,x.c),x.t.po] 125))):=j.o.trans (g.mono j.o.size);clear l n p g j;rw[G];go_upto_region 6 with(fail)
    generalize wr.alloc (aI #[x.t.co,x.t.pe,x.t.de,(x.A,x.t.se.length,x.c),x.t.po] 125)=w6 at *;generalize wr.heap.size=gx at *;clear t0 t1 t2 t3 t4;go_wp2_with fail
    refine aR E ?_;rintro e N ⟨rfl,q⟩;have r:aH (aD w w N):=i.o.trans (q.mono i.o.size);clear q E i H I J K M;cases u:fN x.t
    .have s:aH (qD (L.map Tm.t)=false):=d.o.trans (f.o u);clear C f u d;go_wp2_with fail
     go_ret
     rw[s.o];exact⟨rfl,r.o⟩
    .have s:aH ((L.take (k+1)).all (λx=>fN x.t)=true):=C.o.trans u;clear C f u d;go_wp2_with fail
     refine⟨⟨k+1,aQ,rfl,s.o,r.o⟩,by simp only[aL];omega⟩
   .obtain rfl:k=L.length:=aQ;have s:aH (qD (L.map Tm.t)=true):=by
     have h1:=z.o;rw[aa7 (aaH _)] at h1;exact d.o.trans h1
    clear z d;go_wp2_with fail
    go_ret
    rw[s.o];exact⟨rfl,j.o⟩
end
variable{ow:Nat->Nat}{F:Nat->Prop}{g:Nat}{x:Lb}{y:La}
section
def Da(ow:Nat->Nat)(s i:Nat):Nat->Nat:=λb=>if b=s then i else ow b
theorem Kz(a:Nat->Nat)(s i:Nat):Da a s i s=i:=aaK rfl
theorem RF{s b:Nat}(h:b≠s):Da ow s i b=ow b:=aaL h
theorem Ob.Lu{l:List Pt}{s:Nat}(h:Ob l (Fb F s) w)(hF:¬F s)(i:Nat)(p d:Pt)(hp:l[i]?=some p)(g:∀G,¬G s->p.X (Fb G s) w->d.X G w):Ob (l.set i d) F w:=by
 obtain⟨c,h1,f⟩:=h;have hs:=h1 s (.inr rfl);have k:∀j,j≠i+1->j≠0->Fo w (Da c s (i+1)) j=Fo w c j:=λj n o=>by
  funext b
  unfold Fo;by_cases a:b=s
  .rw[a,Kz,hs.2];exact propext ⟨λh=>⟨h.1,λe=>o e.symm⟩,λh=>⟨h.1,λe=>n e.symm⟩⟩
  .rw[RF a]
 have r:Fb (Fo w (Da c s (i+1)) (i+1)) s=Fo w c (i+1):=by
  funext b
  unfold Fb Fo;by_cases a:b=s
  .rw[a,hs.2];exact propext ⟨λ_=>⟨hs.1,aQ⟩,λ_=> .inr rfl⟩
  .rw[RF a];exact propext ⟨λh=>h.elim id (λe=>absurd e a), .inl⟩
 refine⟨Da c s (i+1),λb a=>?_,λm q hq=>?_⟩
 .have:=h1 b (.inl a);exact⟨this.1,(RF (λe=>hF (by rw[<-e];exact a))).trans this.2⟩
 .rw[adA] at hq;split at hq
  .rename_i e;split at hq
   .injection hq with hq;rw[<-hq,<-e];exact g _ (λhc=>hc.2 (Kz _ _ _)) (by rw[r];exact f i p hp)
   .cases hq
  .rename_i e;rw[k (m+1) (λt=>e aQ) aQ];exact f m q hq
def AY(x:Lb)(n:Int):List Ev:=if n<0 then [] else x.lg.drop n.toNat
theorem Gw(h:bP F w g x y)(t:x.lg.length<=4000000000)(n:Int):
 aG prog 80 #[.pointer g,n] w (C1 rD 4 165 (AY x n) w):=by
 have i:=h.c 16 (.slice y.G x.lg.length y.cG) rfl;have a:bB rD 4 w 0 165 y.G y.cG x.lg:=by
  obtain⟨u,h1⟩:=h.o;exact(h1.get 8 (p:=PR rD 4 165 y.G y.cG x.lg) rfl).o
 have j:C1 rD 4 165 ([]:List Ev) w (.returned (.slice none 0 0)) w:=⟨none,0,rfl,bB.nil _ _ _,Below.refl _ _⟩
 clear h;by_cases h1:n<0
 .have b:aH (AY x n= []):=aaK h1;clear a;go_enter func80,ntmps80
  go_wp2_with fail
  go_ret
  rw[b.o];exact j
 .obtain⟨k,rfl⟩:=aaO (by omega:0<=n);by_cases v:(x.lg.length:Int)<=(k:Int)
  .have b:aH (AY x k= []):=by unfold aH AY;rw[aaL h1,aaW];exact aeG aQ
   clear a;go_enter func80,ntmps80
   go_wp2_with fail
   go_ret
   rw[b.o];exact j
  .have hk:k<x.lg.length:=aQ;obtain⟨q,hq⟩:=wC a aQ;rw[hq] at a i;have m:=a.cap;have b:aH (AY x k=x.lg.drop k):=by unfold aH AY;rw[aaL h1,aaW]
   have hs:=(a.sl wU).drop hk;have f:(x.lg.drop k).length=x.lg.length - k:=abY;have l:=aP (λc=>Ji (some ⟨q,0+k *4,none⟩) (x.lg.drop k) c w hs aQ);rw[f,abQ] at l;have z:(0:Int)<=k:=aQ;have A:(k:Int)<=(x.lg.length:Int):=aQ;have C:¬y.cG=k:=aQ;clear hs a j f hq;go_enter func80,ntmps80
   go_wp2_with fail
   refine aS (l.o _) ?_;rintro e D ⟨B,d,rfl,own,r⟩;have s:=bH own r;clear own r l;go_wp2_with fail
   go_ret
   rw[b.o];exact⟨B,d,by rw[abY];rfl,s.o⟩
end
end
section
open Go.RowKit
namespace Fr
def xN(n:Nat):fO:=⟨n,List.replicate 32 false,List.replicate 512 0⟩
def Mm(n:Nat)(w:aA)(e:Ending)(w':aA):Prop:=e= .returned (.tuple #[.pointer w.heap.size,aU])/\Fm w' w (xN n)/\aD w w w'
theorem Ot(n:Nat)(w:aA)(h1:1<=n)(b:n<=32):aG prog 137 #[n] w (Mm n w):=by
 have f:¬(n:Int)<1:=aQ;have a2:¬(32:Int)<(n:Int):=aQ;obtain⟨Z,a⟩:∃Z,Z=(fc (xN 0)).toArray:=⟨_,rfl⟩
 have c:∀w,(zeroValue 150).run prog w= .ok (.agg Z) w:=λw=>by rw[a];kernel_rfl
 have d:¬Z=#[]:=by rw[a];simp[fc]
 have e:aH (Z.setIfInBounds 0 (.int .i64 (n:Int))=(fc (xN n)).toArray):=by unfold aH;rw[a];rfl
 clear a;go_enter func137,ntmps137
 go_wp2
 go_ret2
 refine⟨rfl,⟨b,rfl,rfl,?_⟩,aX _ _⟩;rw[<-e.o];exact bC.new w _ _
end Fr
section
namespace Fr
def n9(s:fO):Option Nat:=(s.T.take s.n).findIdx? (λb=>!b)
def Gx(B:List Int):Nat->List Int->List Int
 |_, []=>B
 |m,v::r=>Gx (B.set m v) (m+1) r
def Qt(B:List Int)(i:Nat):List Int:=Gx B (i *16) [0,0,0,0,0,0,0,0,0,0,0,0,0,0,0,0]
variable{g:Nat}
theorem Fm.lay:∀(a:List Int) (m:Nat) (w:aA) (s:fO),Fm w g s->Fm (w.setCells g (33+m) (a.map (Value.int .u8))) g {s with B:=Gx s.B m a}/\w.grownBy (w.setCells g (33+m) (a.map (Value.int .u8))) (some g)
 | [],_,w,_,h=>⟨h,bE w g⟩
 |v::r,m,w,s,h=>by
  have b:=Fm.lay r (m+1) _ _ (h.Un m v);exact⟨b.1,lG (aY (bE w g) _ _) b.2⟩
variable{w:aA}{j:Nat}
theorem Fm.lC{s:fO}(h:Fm w g s){k:Nat}(hk:k<32)(a:j<16):∃v,w.cell? (g,33+k *16+j)=some (.int .u8 v)/\w.frozen? (g,33+k *16+j)=false:=by
 rw[abV];exact⟨_,h.cb (m:=k *16+j) aQ,h.at_.frozen _⟩
def kG(s:fO):fO:=match n9 s with
 |some i=>{s with T:=s.T.set i true,B:=Qt s.B i}
 |none=>s
theorem Eb{s:fO}{k:Nat}(c:s.n<=s.T.length)(hk:k<s.n)(h:s.T[k]=false)(b:∀j,(a:j<k)->s.T[j]=true):n9 s=some k:=by
 unfold n9;refine aa5.2 ⟨bL,by simp[h],λj a=>?_⟩;simp[b j a]
theorem XV{s:fO}(e:s.n<=s.T.length)(c:∀j,(b:j<s.n)->s.T[j]=true):n9 s=none:=by
 unfold n9;refine abP.2 (λx d=>?_);obtain⟨j,b,rfl⟩:=aa2 d;have a:j<s.n:=by simp at b;omega
 rw[ad1,c j a];rfl
def R2(s:fO)(g:Nat)(w:aA)(e:Ending)(w':aA):Prop:=e= .returned (.tuple #[.int .i64 ((n9 s).getD 0:Nat), .int .i64 (if(n9 s).isSome then 0 else 20)])/\Fm w' g (kG s)/\w.grownBy w' (some g)
theorem Jd(s:fO)(g:Nat)(w:aA)(h:Fm w g s):aG prog 206 #[.pointer g] w (R2 s g w):=by
 have c0:=h.cn;have l:=aP h;have x:=h.n0;have d:s.n<=s.T.length:=by rw[h.t];exact x
 clear h;go_enter func206,ntmps206
 go_wp2_with fail
 go_loop [2,3,4,11] (λs2 y _ m=>∃k:Nat,k<=s.n/\m= .int .i64 k/\s2= .int .i64 0/\y= .int .i64 0/\aH (∀j,(c:j<s.T.length)->j<k->s.T[j]=true)) (λ_ _ _ i=>s.n - (aL i).toNat)
 case atStart=>exact⟨0,aaQ _,rfl,rfl,rfl,λj c h=>absurd h (acK _)⟩
 case round=>
  obtain⟨k,hk,rfl,rfl,rfl,e⟩:=hrel;by_cases p:k<s.n
  .have z:k<s.T.length:=aQ;have c1:=l.o.ct (i:=k) aQ;have q:aH (s.T[k]=false->n9 s=some k):=λh=>Eb d p h (λj c=>e.o j aQ c)
   have r:aH (s.T[k]=true->∀j,(c:j<s.T.length)->j<k+1->s.T[j]=true):=λh j c A=>by
    by_cases he:j=k
    .subst he;exact h
    .exact e.o j c aQ
   have Q:(0:Int)<=k:=aQ;have R:(k:Int)<32:=aQ;have S:(k:Int)<(s.n:Int):=aQ;have f1:=l.o.at_.frozen (1+k);generalize s.T[k]=b at *;cases b
   .have f:=aP (q.o rfl);have a:=l.o.Ug (i:=k) aQ true;obtain⟨v0,B,z0⟩:=a.lC (k:=k) (j:=0) aQ aQ;obtain⟨v1,U,V⟩:=a.lC (k:=k) (j:=1) aQ aQ;obtain⟨v2,W,z2⟩:=a.lC (k:=k) (j:=2) aQ aQ;obtain⟨v3,X,z3⟩:=a.lC (k:=k) (j:=3) aQ aQ;obtain⟨v4,Y,z4⟩:=a.lC (k:=k) (j:=4) aQ aQ;obtain⟨v5,Z,z5⟩:=a.lC (k:=k) (j:=5) aQ aQ;obtain⟨v6,y6,z6⟩:=a.lC (k:=k) (j:=6) aQ aQ;obtain⟨v7,y7,z7⟩:=a.lC (k:=k) (j:=7) aQ aQ;obtain⟨v8,y8,z8⟩:=a.lC (k:=k) (j:=8) aQ aQ;obtain⟨v9,y9,z9⟩:=a.lC (k:=k) (j:=9) aQ aQ;obtain⟨v10,C,D⟩:=a.lC (k:=k) (j:=10) aQ aQ;obtain⟨v11,E,F⟩:=a.lC (k:=k) (j:=11) aQ aQ;obtain⟨v12,G,z12⟩:=a.lC (k:=k) (j:=12) aQ aQ;obtain⟨H,I,J⟩:=a.lC (k:=k) (j:=13) aQ aQ;obtain⟨K,L,M⟩:=a.lC (k:=k) (j:=14) aQ aQ;obtain⟨N,O,P⟩:=a.lC (k:=k) (j:=15) aQ aQ;simp only[aa3] at B z0;have v:=aP (Fm.lay [0,0,0,0,0,0,0,0,0,0,0,0,0,0,0,0] (k *16) _ _ a);clear q r e a;go_wp2_with fail
    go_ret2
    refine⟨by rw[f.o];rfl,?_,lG (aY (bE w g) (1+k) (.bool true)) v.o.2⟩;unfold kG;rw[f.o];exact v.o.1
   .have u:=aP (r.o rfl);clear r q e;go_wp2_with fail
    go_round
    case rel=>exact⟨k+1,aQ,by go_num,rfl,rfl,u.o⟩
    case measure=>simp[aL];omega
  .obtain rfl:k=s.n:=aQ;have f:=aP (XV d (λj c=>e.o j aQ c));go_wp2_with fail
   go_ret2
   refine⟨by rw[f.o];rfl,?_,bE w g⟩;unfold kG;rw[f.o];exact l.o
end Fr
end
namespace Fr
def Jv(s:fO)(i:Nat):List Int:=(s.B.drop (i *16)).take 16
end Fr
end
section
section
namespace Up
structure Up where
 kind:Int
 a:Int
 b:Int
structure Ct where
 L:List Up
 lost:Int
def MP(k:Int):Bool:=k==1 || k==3 || k==4
def qK(u o:Up):Bool:=o.kind==u.kind&&o.a==u.a
def nZ(L:List Up)(u:Up):Option Nat:=if MP u.kind then L.findIdx? (qK u) else none
def dM(r:Ct)(u:Up):Ct:=match nZ r.L u with
 |some i=>⟨r.L.set i u,r.lost⟩
 |none=>if 8<=r.L.length then⟨r.L,Go.RowKit.wrap64 (r.lost+1)⟩ else⟨r.L++ [u],r.lost⟩
def I3(r:Ct)(u:Up):Int:=match nZ r.L u with
 |some _=>0
 |none=>if 8<=r.L.length then 20 else 0
def UT(k:Int):Bool:=decide (1<=k/\k<=8)
variable{u:Up}
theorem Ke{L:List Up}(h:MP u.kind=false):nZ L u=none:=by unfold nZ;rw[h];rfl
theorem Na{L:List Up}{k:Nat}(b:MP u.kind=true)(hk:k<L.length)(h:qK u L[k]=true)(c:∀j,(a:j<k)->qK u L[j]=false):nZ L u=some k:=by
 unfold nZ;rw[b,aaK rfl,aa5.2 ⟨hk,h,λj a=>by rw[c j a];simp⟩]
theorem Ib{L:List Up}(h:∀j,(a:j<L.length)->qK u L[j]=false):nZ L u=none:=by
 unfold nZ;split
 .exact abP.2 (λx b=>by obtain⟨j,a,rfl⟩:=aa2 b;exact h j a)
 .rfl
theorem Pj{r:Ct}(h:r.L.length<=8):(dM r u).L.length<=8:=by
 unfold dM;cases nZ r.L u with
 |some i=>simpa using h
 |none=>
  simp only;split
  .exact h
  .simp;omega
end Up
end
end
end Go.Proofs.YtacgiflhgdaeaaaGreat
