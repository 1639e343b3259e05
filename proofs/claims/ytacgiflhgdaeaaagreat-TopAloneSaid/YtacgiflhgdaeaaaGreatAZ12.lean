/- Texts laid as one. -/
import Derived.Deep.MidRow
import Derived.Lib.SliceRun
import Derived.Deep.DeepCutAuto
import Derived.Deep.CutBlock
import Derived.Test.YtacgiflhgdaeaaaGreatAZ1
import Derived.Test.YtacgiflhgdaeaaaGreatAZ2
import Derived.Test.YtacgiflhgdaeaaaGreatAZ9
import Derived.Test.YtacgiflhgdaeaaaGreatAZ11
set_option linter.unusedVariables false
set_option linter.unusedSimpArgs false
set_option maxRecDepth 100000
set_option maxHeartbeats 20000000
namespace Go.Proofs.YtacgiflhgdaeaaaGreat
open Go.Proofs.Tryz
open Go renaming World->aA,Value->aC,Addr->aJ,Calls->aG
open Go.RowKit renaming Below->aD,Hid->aH,intOf->aL
open Go.Obj renaming cells->aI
section
open Go.RowKit Go.Lib Go.Shelf
def JN(t:Tk):Bool:=decide (1<=t.co/\t.co<=t.de/\t.de<=t.pe/\t.pe<=1048576)
def pQ(a b:Sc):Bool:=decide (b.fr<=a.fr/\a.iJ<=b.iJ)
def l6(a b:Sc):Bool:=decide (a.iJ<=b.fr\/b.iJ<=a.fr) || ((pQ a b || pQ b a)&&decide (a.lk≠b.lk))
def o8(t:Tk)(s:Sc):Bool:=decide (0<=s.lk/\s.lk<8/\0<=s.fr/\s.fr<s.iJ/\s.iJ<=t.co)
def By:Sc:=⟨0,0,0⟩
def rP(t:Tk)(i:Nat):Nat->Bool
 |0=>true
 |j+1=>rP t i j&&l6 (t.se.getD i By) (t.se.getD j By)
def sF(t:Tk):Nat->Bool
 |0=>true
 |i+1=>sF t i&&(o8 t (t.se.getD i By)&&rP t i i)
def xP(t:Tk):Bool:=JN t&&decide (0<=t.po/\t.po<=2/\t.se.length<=8)
def fN(t:Tk):Bool:=xP t&&sF t t.se.length
def mI(L:List Tk):Bool:=decide (L.length<=8)&&L.all fN
theorem X4{L:List Tk}(h:mI L=true):L.length<=8/\∀t∈L,Z0 t:=by
 unfold mI at h;rw[aa6,acB,ac1] at h;refine⟨h.1,λt a=>?_⟩;have h1:=h.2 t a;unfold fN xP JN at h1;simp only[aa6,acB] at h1;exact⟨aQ,aQ,aQ,aQ,aQ⟩
theorem VV(t:Tk)(w:aA):aG prog 122 #[.agg #[t.co,t.pe,t.de]] w λe w'=>e= .returned (.bool (JN t))/\aD w w w':=by
 have b:=aP (aX w (aI #[t.co,t.pe,t.de] 122));have c:=bF.new w 122 #[t.co,t.pe,t.de];have h:=c.cell 0 _ rfl;have i:=c.cell 1 _ rfl;have j:=c.cell 2 _ rfl;clear c;by_cases h1:¬(1<=t.co)
 .have a:aH (JN t=false):=by exact aaP aQ
  go_enter func122,ntmps122
  go_wp2_with fail
  go_ret
  rw[a.o];exact⟨rfl,b.o⟩
 replace h1:=abS.1 h1;by_cases d:¬(t.co<=t.de)
 .have a:aH (JN t=false):=by exact aaP aQ
  go_enter func122,ntmps122
  go_wp2_with fail
  go_ret
  rw[a.o];exact⟨rfl,b.o⟩
 replace d:=abS.1 d;by_cases f:¬(t.de<=t.pe)
 .have a:aH (JN t=false):=by exact aaP aQ
  go_enter func122,ntmps122
  go_wp2_with fail
  go_ret
  rw[a.o];exact⟨rfl,b.o⟩
 replace f:=abS.1 f;by_cases g:¬(t.pe<=1048576)
 .have a:aH (JN t=false):=by exact aaP aQ
  go_enter func122,ntmps122
  go_wp2_with fail
  go_ret
  rw[a.o];exact⟨rfl,b.o⟩
 replace g:=abS.1 g;have a:aH (JN t=true):=by exact aa2 aQ
 go_enter func122,ntmps122
 go_wp2_with fail
 go_ret
 rw[a.o];exact⟨rfl,b.o⟩
theorem GP(a b:Sc)(w:aA):aG prog 178 #[.agg #[a.lk,a.fr,a.iJ], .agg #[b.lk,b.fr,b.iJ]] w λe w'=>e= .returned (.bool (pQ a b))/\aD w w w':=by
 have d:=aP ((aX w (aI #[a.lk,a.fr,a.iJ] 199)).alloc aT (aI #[b.lk,b.fr,b.iJ] 199));have f:=(bF.new w 199 #[a.lk,a.fr,a.iJ]).alloc (aI #[b.lk,b.fr,b.iJ] 199);have h:=bF.fI (w.alloc (aI #[a.lk,a.fr,a.iJ] 199)) 199 #[b.lk,b.fr,b.iJ] (g:=w.heap.size+1) aT;have j:=f.cell 1 _ rfl;have a2:=f.cell 2 _ rfl;have b1:=h.cell 1 _ rfl;have b2:=h.cell 2 _ rfl;clear f h;by_cases h1:¬(b.fr<=a.fr)
 .have c:aH (pQ a b=false):=by exact aaP aQ
  go_enter func178,ntmps178
  go_wp2_with fail
  go_ret
  rw[c.o];exact⟨rfl,d.o⟩
 replace h1:=abS.1 h1;by_cases i:¬(a.iJ<=b.iJ)
 .have c:aH (pQ a b=false):=by exact aaP aQ
  go_enter func178,ntmps178
  go_wp2_with fail
  go_ret
  rw[c.o];exact⟨rfl,d.o⟩
 replace i:=abS.1 i;have c:aH (pQ a b=true):=by exact aa2 aQ
 go_enter func178,ntmps178
 go_wp2_with fail
 go_ret
 rw[c.o];exact⟨rfl,d.o⟩
theorem UJ(a b:Sc)(w:aA):aG prog 123 #[.agg #[a.lk,a.fr,a.iJ], .agg #[b.lk,b.fr,b.iJ]] w λe w'=>e= .returned (.bool (l6 a b))/\aD w w w':=by
 have m:=aP ((aX w (aI #[a.lk,a.fr,a.iJ] 199)).alloc aT (aI #[b.lk,b.fr,b.iJ] 199));have n:=(bF.new w 199 #[a.lk,a.fr,a.iJ]).alloc (aI #[b.lk,b.fr,b.iJ] 199);have p:=bF.fI (w.alloc (aI #[a.lk,a.fr,a.iJ] 199)) 199 #[b.lk,b.fr,b.iJ] (g:=w.heap.size+1) aT;have a0:=n.cell 0 _ rfl;have l:=n.cell 1 _ rfl;have a2:=n.cell 2 _ rfl;have b0:=p.cell 0 _ rfl;have b1:=p.cell 1 _ rfl;have b2:=p.cell 2 _ rfl;clear n p;have i:=aP (λW=>GP a b W);have j:=aP (λW=>GP b a W);by_cases h1:a.iJ<=b.fr
 .have f:aH (l6 a b=true):=by unfold aH l6;rw[aa2 (.inl h1)];rfl
  clear i j;go_enter func123,ntmps123
  go_wp2_with fail
  go_ret
  rw[f.o];exact⟨rfl,m.o⟩
 by_cases q:b.iJ<=a.fr
 .have f:aH (l6 a b=true):=by unfold aH l6;rw[aa2 (.inr q)];rfl
  clear i j;go_enter func123,ntmps123
  go_wp2_with fail
  go_ret
  rw[f.o];exact⟨rfl,m.o⟩
 have f:aH (l6 a b=((pQ a b || pQ b a)&&decide (a.lk≠b.lk))):=by unfold aH l6;rw[aaP (λh=>h.elim h1 q)];rfl
 generalize r:pQ a b=t at *;generalize s:pQ b a=u at *;have c:aH (∀v,(v=true↔a.lk≠b.lk)->decide (a.lk≠b.lk)=v):=λv h=>by
  cases v
  .exact aaP (λq=>by have:=h.2 q;cases this)
  .exact aa2 (h.1 rfl)
 clear r s;go_enter func123,ntmps123
 go_wp2_with fail
 refine aS (i.o _) ?_;rintro e x ⟨rfl,hb⟩;replace a0:=bG hb a0;replace b0:=bG hb b0;replace l:=bG hb l;replace a2:=bG hb a2;replace b1:=bG hb b1;replace b2:=bG hb b2;have d:=aP (m.o.trans (hb.mono m.o.size));clear hb i m;cases t
 .go_wp2_with fail
  refine aS (j.o _) ?_;rintro e y ⟨rfl,hb⟩;replace a0:=bG hb a0;replace b0:=bG hb b0;replace l:=bG hb l;replace a2:=bG hb a2;replace b1:=bG hb b1;replace b2:=bG hb b2;replace d:=aP (d.o.trans (hb.mono d.o.size));clear hb j;cases u
  .have k:aH (l6 a b=false):=by rw[f.o];rfl
   clear f c;go_wp2_with fail
   go_ret
   rw[k.o];exact⟨rfl,d.o⟩
  .clear l a2 b1 b2;by_cases hk:a.lk=b.lk
   .have hq:(a.lk !=b.lk)=false:=by simp[hk]
    have k:aH (l6 a b=false):=by rw[f.o,c.o false (by simp[hk])];simp[aH]
    clear hk f c;go_wp2_with fail
    go_ret
    rw[k.o];exact⟨rfl,d.o⟩
   .have hq:(a.lk !=b.lk)=true:=by simpa using hk
    have k:aH (l6 a b=true):=by rw[f.o,c.o true (by simp[hk])];simp[aH]
    clear hk f c;go_wp2_with fail
    go_ret
    rw[k.o];exact⟨rfl,d.o⟩
 .clear l a2 b1 b2;by_cases hk:a.lk=b.lk
  .have hq:(a.lk !=b.lk)=false:=by simp[hk]
   have k:aH (l6 a b=false):=by rw[f.o,c.o false (by simp[hk])];simp[aH]
   clear hk f c;go_wp2_with fail
   go_ret
   rw[k.o];exact⟨rfl,d.o⟩
  .have hq:(a.lk !=b.lk)=true:=by simpa using hk
   have k:aH (l6 a b=true):=by rw[f.o,c.o true (by simp[hk])];simp[aH]
   clear hk f c;go_wp2_with fail
   go_ret
   rw[k.o];exact⟨rfl,d.o⟩
variable{t:Tk}{i j:Nat}{w:aA}{A:Option aJ}
section
theorem N5(h:sF t i=false):∀n,i<=n->sF t n=false
 |0,hn=>by
  obtain rfl:i=0:=aQ;exact h
 |n+1,hn=>by
  by_cases he:i=n+1
  .rw[<-he];exact h
  .rw[sF,N5 h n aQ];rfl
theorem QL(h:rP t i j=false):∀n,j<=n->rP t i n=false
 |0,hn=>by
  obtain rfl:j=0:=aQ;exact h
 |n+1,hn=>by
  by_cases he:j=n+1
  .rw[<-he];exact h
  .rw[rP,QL h n aQ];rfl
theorem uL(h:xP t=false):fN t=false:=by unfold fN;rw[h];rfl
theorem SF(h:sF t (i+1)=false)(hi:i<t.se.length):fN t=false:=by unfold fN;rw[N5 h _ hi,adZ]
theorem WL(x:Tm)(w:aA)(hs:Sl lP 3 w x.A x.t.se)(hl:x.t.se.length<=1000000)(hcap:x.t.se.length<=x.c):
 aG prog 85 #[.agg #[.int .i64 x.t.co,x.t.pe,x.t.de,(x.A,x.t.se.length,x.c),x.t.po]] w λe w'=>e= .returned (.bool (fN x.t))/\aD w w w':=by
 have T:=aX w (aI #[.int .i64 x.t.co,x.t.pe,x.t.de,(x.A,x.t.se.length,x.c),x.t.po] 125);have U:=bF.new w 125 #[.int .i64 x.t.co,x.t.pe,x.t.de,(x.A,x.t.se.length,x.c),x.t.po];have x0:=U.cell 0 _ rfl;have x1:=U.cell 1 _ rfl;have x2:=U.cell 2 _ rfl;have HT:=aP (VV x.t (w.alloc (aI #[.int .i64 x.t.co,x.t.pe,x.t.de,(x.A,x.t.se.length,x.c),x.t.po] 125)));have HS:aH (Sl lP 3 w x.A x.t.se):=hs;have H1:=bN T U;clear T U hs;go_enter func85,ntmps85
 go_wp2_with fail
 refine aR HT ?_;rintro e w2 ⟨rfl,hb⟩;have J:aH (aD w w w2/\bF w2 w.heap.size 125 #[.int .i64 x.t.co,x.t.pe,x.t.de,(x.A,x.t.se.length,x.c),x.t.po]):=⟨H1.o.1.trans (hb.mono H1.o.1.size),H1.o.2.keep hb⟩
 have y1:=J.o.2.cell 3 (.slice x.A x.t.se.length x.c) rfl;have y2:=J.o.2.cell 4 x.t.po rfl;clear hb HT H1 x0 x1 x2;generalize m:x.t.po=po at *;generalize z:x.t.se.length=n at *;cases r:JN x.t
 .have f:aH (fN x.t=false):=uL (by unfold xP;rw[r];rfl);go_wp2_with fail
  go_ret
  rw[f.o];exact⟨rfl,J.o.1⟩
 .by_cases h1:¬(0<=po)
  .have f:aH (fN x.t=false):=uL (by unfold xP;rw[r,m,z];exact aaP aQ);clear m z;go_wp2_with fail
   go_ret
   rw[f.o];exact⟨rfl,J.o.1⟩
  replace h1:=abS.1 h1;by_cases R:¬(po<=2)
  .have f:aH (fN x.t=false):=uL (by unfold xP;rw[r,m,z];exact aaP aQ);clear m z;go_wp2_with fail
   go_ret
   rw[f.o];exact⟨rfl,J.o.1⟩
  replace R:=abS.1 R;by_cases K:¬(n<=8)
  .have f:aH (fN x.t=false):=uL (by unfold xP;rw[r,m,z];exact aaP aQ);clear m z;go_wp2_with fail
   go_ret
   rw[f.o];exact⟨rfl,J.o.1⟩
  replace K:=abS.1 K;have HH:aH (xP x.t=true):=by
   unfold aH xP;rw[r,m,z];exact aa2 aQ
  have p:=aP z;have hn8:n<=8:=aQ;clear m r z;go_wp2_with fail
  clear y2 h1 R K;have V:aH (∀W,aD w w W->Sl lP 3 W x.A x.t.se):=λW h=>HS.o.keep h
  clear HS;generalize k:w.heap.size=g at *;go_loopw [3,4,6,30] (λ_ _ _ v30 wr=>∃i:Nat,i<=n/\v30= .int .i64 i/\aH (sF x.t i=true)/\aH (aD g w wr/\bF wr g 125 #[.int .i64 x.t.co,x.t.pe,x.t.de,(x.A,n,x.c),po])) (λ_ _ _ v30 _=>n - (aL v30).toNat)
  case atStart=>exact⟨0,aaH _,rfl,rfl,J.o⟩
  case round=>
   clear J y1;obtain⟨i,hi,rfl,HK,HQ⟩:=hrel;by_cases B:i<n
   .obtain⟨b,off,hA,s0,s1,s2⟩:=(V.o _ HQ.o.1).K4 (i:=i) (by rw[p.o];exact B);have i0:(0:Int)<=i:=aQ;have i1:(i:Int)<(n:Int):=aQ;obtain⟨s,C⟩:∃s,s=x.t.se.getD i By:=⟨_,rfl⟩
    have v:x.t.se[i]'(by rw[p.o];exact B)=s:=by rw[C,aaI,Zv (by rw[p.o];exact B)];rfl
    rw[v] at s0 s1 s2;have L:aH (sF x.t (i+1)=(sF x.t i&&(o8 x.t s&&rP x.t i i))):=by unfold aH;rw[C];rfl
    have u:aH ((o8 x.t s&&rP x.t i i)=false->fN x.t=false):=λh=>SF (i:=i) (by rw[L.o,h,adZ]) (by rw[p.o];exact B)
    have HSD:=aP C;have M:=hA;have q0:=HQ.o.2.cell 0 x.t.co rfl;have X:=HQ.o.1;have hgl:=HQ.o.2.lt;have l:=aX wr (aI #[s.lk,s.fr,s.iJ] 199);have y:=bF.new wr 199 #[s.lk,s.fr,s.iJ];have z0:=y.cell 0 _ rfl;have z1:=y.cell 1 _ rfl;have z2:=y.cell 2 _ rfl;have q1:=bG l q0;have a:aH (aD g w (wr.alloc (aI #[s.lk,s.fr,s.iJ] 199))):=X.trans (l.mono aQ);have D:=dA l (HQ.o.2.keep l) y;obtain⟨co,d⟩:∃co,x.t.co=co:=⟨_,rfl⟩
    rw[d] at q1;clear C v X l y q0;rw[hA];go_upto_region 6 with(fail)
    generalize wr.alloc (aI #[s.lk,s.fr,s.iJ] 199)=S at *;generalize wr.heap.size=gs at *;clear s0 s1 s2;by_cases h1:¬(0<=s.lk)
    .have f:aH (fN x.t=false):=by
      have E:o8 x.t s=false:=by unfold o8;rw[d];exact aaP aQ
      exact u.o (by rw[E];rfl)
     clear d u;go_wp2_with fail
     go_ret
     rw[f.o];exact⟨rfl,by first|exact a.o|(rw[k];exact a.o)⟩
    replace h1:=abS.1 h1;by_cases R:¬(s.lk<8)
    .have f:aH (fN x.t=false):=by
      have E:o8 x.t s=false:=by unfold o8;rw[d];exact aaP aQ
      exact u.o (by rw[E];rfl)
     clear d u;go_wp2_with fail
     go_ret
     rw[f.o];exact⟨rfl,by first|exact a.o|(rw[k];exact a.o)⟩
    replace R:=abS.1 R;by_cases K:¬(0<=s.fr)
    .have f:aH (fN x.t=false):=by
      have E:o8 x.t s=false:=by unfold o8;rw[d];exact aaP aQ
      exact u.o (by rw[E];rfl)
     clear d u;go_wp2_with fail
     go_ret
     rw[f.o];exact⟨rfl,by first|exact a.o|(rw[k];exact a.o)⟩
    replace K:=abS.1 K;by_cases h4:¬(s.fr<s.iJ)
    .have f:aH (fN x.t=false):=by
      have E:o8 x.t s=false:=by unfold o8;rw[d];exact aaP aQ
      exact u.o (by rw[E];rfl)
     clear d u;go_wp2_with fail
     go_ret
     rw[f.o];exact⟨rfl,by first|exact a.o|(rw[k];exact a.o)⟩
    replace h4:=abS.1 h4;by_cases h5:¬(s.iJ<=co)
    .have f:aH (fN x.t=false):=by
      have E:o8 x.t s=false:=by unfold o8;rw[d];exact aaP aQ
      exact u.o (by rw[E];rfl)
     clear d u;go_wp2_with fail
     go_ret
     rw[f.o];exact⟨rfl,by first|exact a.o|(rw[k];exact a.o)⟩
    replace h5:=abS.1 h5;have Y:aH (o8 x.t s=true):=by unfold aH o8;rw[d];exact aa2 aQ
    have Z:aH (rP x.t i i=false->fN x.t=false):=λh=>u.o (by rw[h,adZ])
    have a1:aH (rP x.t i i=true->sF x.t (i+1)=true):=λh=>by rw[L.o,Y.o,h,HK.o];rfl
    have k1:(i:Int)<=(n:Int):=aQ;have k3:(i:Int)<=(x.c:Int):=aQ;have K:=D.o.2.1.cell 3 (.slice (some ⟨b,off,none⟩) n x.c) (by rw[M];rfl);have a6:=aP d;clear d u L Y;go_upto_region 9 with(fail)
    go_loopw [6,68] (λ_ N wi=>∃j:Nat,j<=i/\N= .int .i64 j/\aH (rP x.t i j=true)/\aH (aD S S wi)) (λ_ N _=>i - (aL N).toNat)
    case atStart=>exact⟨0,aaH _,rfl,rfl,Below.refl _ _⟩
    case round=>
     obtain⟨j,hj,rfl,O,q⟩:=hrel;clear z0 z1 z2 q1 K;by_cases hji:j<i
     .have HB6:aH (aD g w wr):=a.o.trans (q.o.mono (by rw[<-k];exact a.o.size));obtain⟨b',off',F,s0,s1,s2⟩:=(V.o _ HB6.o).K4 (i:=j) (by rw[p.o];omega);rw[M] at F;injection F with F;injection F with hA1 hA2;subst hA1 hA2;have j0:(0:Int)<=j:=aQ;have j1:(j:Int)<(i:Int):=aQ;obtain⟨o,P⟩:∃o,o=x.t.se.getD j By:=⟨_,rfl⟩
      have v:x.t.se[j]'(by rw[p.o];omega)=o:=by rw[P,aaI,Zv (by rw[p.o];omega)];rfl
      rw[v] at s0 s1 s2;have G:aH (rP x.t i (j+1)=(rP x.t i j&&l6 s o)):=by unfold aH;rw[HSD.o,P];rfl
      have l:=aX wr (aI #[o.lk,o.fr,o.iJ] 199);have bo:=bF.new wr 199 #[o.lk,o.fr,o.iJ];have y:=(D.o.2.2.keep q.o).keep l;have z0:=y.cell 0 _ rfl;have z1:=y.cell 1 _ rfl;have z2:=y.cell 2 _ rfl;have o0:=bo.cell 0 _ rfl;have o1:=bo.cell 1 _ rfl;have o2:=bo.cell 2 _ rfl;have Q:aH (aD S S (wr.alloc (aI #[o.lk,o.fr,o.iJ] 199))):=q.o.trans (l.mono q.o.size);clear v P l bo y;go_upto_region 11 with(fail)
      generalize wr.alloc (aI #[o.lk,o.fr,o.iJ] 199)=w7 at *;generalize wr.heap.size=go at *;have a7:=aP (UJ s o w7);clear s0 s1 s2;go_wp2_with fail
      refine aR a7 ?_;rintro e w8 ⟨rfl,a8⟩;have aa:aH (aD S S w8):=Q.o.trans (a8.mono Q.o.size);clear a8 a7 Q z0 z1 z2 o0 o1 o2;cases H:l6 s o
      .have f:aH (fN x.t=false):=Z.o (QL (j:=j+1) (by rw[G.o,H,adZ]) i aQ);have I:aH (aD g w w8):=a.o.trans (aa.o.mono (by rw[<-k];exact a.o.size));clear G H;go_wp2_with fail
       go_ret
       rw[f.o];exact⟨rfl,by first|exact I.o|(rw[k];exact I.o)⟩
      .have f:aH (rP x.t i (j+1)=true):=by rw[G.o,O.o,H];rfl
       clear G H;go_wp2_with fail
       refine⟨⟨j+1,aQ,rfl,f.o,aa.o⟩,by simp only[aL];omega⟩
     .obtain rfl:j=i:=aQ;have f:=aP (a1.o O.o);have I:aH (aD g w wr/\bF wr g 125 #[.int .i64 co,x.t.pe,x.t.de,(x.A,n,x.c),po]):=⟨a.o.trans (q.o.mono (by rw[<-k];exact a.o.size)),by have h9:=D.o.2.1.keep q.o;rw[a6.o] at h9;exact h9⟩
      have ab:=M;clear D a q O a1 Z;go_wp2_with fail
      rw[<-ab,<-a6.o] at *;refine⟨⟨j+1,aQ,rfl,f.o,I.o⟩,by simp only[aL];omega⟩
   .obtain rfl:i=n:=aQ;have f:aH (fN x.t=true):=by unfold aH fN;rw[HH.o,p.o,HK.o];rfl
    clear HK HH;go_wp2_with fail
    go_ret
    rw[f.o];exact⟨rfl,by first|exact HQ.o.1|(rw[k];exact HQ.o.1)⟩
theorem Ia{L:List Tm}(h:qK w A L)(hl:L.length<=1000)(D:∀x∈L,x.t.se.length<=1000000)(c:Nat):
 aG prog 50 #[(A,L.length,c)] w λe w'=>e= .returned (.bool (mI (L.map Tm.t)))/\aD w w w':=by
 have v:=aP h;have F:=aP D;clear h D;by_cases m:¬(L.length<=8)
 .have d:aH (mI (L.map Tm.t)=false):=by unfold aH mI;rw[aaP (by simpa using m)];rfl
  have y:(8:Int)<(L.length:Int):=aQ;clear m;go_enter func50,ntmps50
  go_wp2_with fail
  go_ret
  rw[d.o];exact⟨rfl,Below.refl _ _⟩
 .replace m:=abS.1 m;have d:aH (mI (L.map Tm.t)=(L.all λx=>fN x.t)):=by unfold aH mI;rw[aa2 (by simpa using m),List.all_map];rfl
  have y:¬(8:Int)<(L.length:Int):=aQ;go_enter func50,ntmps50
  go_wp2_with fail
  go_loopw [4,10] (λ_ v10 wr=>∃k:Nat,k<=L.length/\v10= .int .i64 k/\aH ((L.take k).all (λx=>fN x.t)=true)/\aH (aD w w wr)) (λ_ v10 _=>L.length - (aL v10).toNat)
  case atStart=>exact⟨0,aaH _,rfl,by simp[aH],Below.refl _ _⟩
  case round=>
   obtain⟨k,hk,rfl,z,j⟩:=hrel;by_cases a:k<L.length
   .obtain⟨b,off,G,t0,t1,t2,t3,t4⟩:=(v.o.keep j.o).at_ a;have O:(0:Int)<=k:=aQ;have P:(k:Int)<(L.length:Int):=aQ;have n:=(v.o.keep j.o).sl _ (aaF a);have p:=v.o.cp _ (aaF a);have B:=F.o _ (aaF a);have C:aH ((L.take (k+1)).all (λx=>fN x.t)=fN L[k].t):=by
     unfold aH;rw[<-aa3 a,List.all_append,z.o];simp
    have f:aH (fN L[k].t=false->(L.all λx=>fN x.t)=false):=λh=>List.all_eq_false.2 ⟨_,aaF a,by rw[h];simp⟩
    generalize L[k]=x at *;have g:=aX wr (aI #[x.t.co,x.t.pe,x.t.de,(x.A,x.t.se.length,x.c),x.t.po] 125);have l:=bF.new wr 125 #[x.t.co,x.t.pe,x.t.de,(x.A,x.t.se.length,x.c),x.t.po];have H:=l.cell 0 _ rfl;have I:=l.cell 1 _ rfl;have J:=l.cell 2 _ rfl;have K:=l.cell 3 _ rfl;have M:=l.cell 4 _ rfl;have E:=aP (WL x (wr.alloc (aI #[x.t.co,x.t.pe,x.t.de,(x.A,x.t.se.length,x.c),x.t.po] 125)) (n.keep g) B p);have i:aH (aD w w (wr.alloc (aI #[x.t.co,x.t.pe,x.t.de,(x.A,x.t.se.length,x.c),x.t.po] 125))):=j.o.trans (g.mono j.o.size);clear l n p g j;rw[G];go_upto_region 6 with(fail)
    generalize wr.alloc (aI #[x.t.co,x.t.pe,x.t.de,(x.A,x.t.se.length,x.c),x.t.po] 125)=w6 at *;generalize wr.heap.size=gx at *;clear t0 t1 t2 t3 t4;go_wp2_with fail
    refine aR E ?_;rintro e N ⟨rfl,q⟩;have r:aH (aD w w N):=i.o.trans (q.mono i.o.size);clear q E i H I J K M;cases u:fN x.t
    .have s:aH (mI (L.map Tm.t)=false):=d.o.trans (f.o u);clear C f u d;go_wp2_with fail
     go_ret
     rw[s.o];exact⟨rfl,r.o⟩
    .have s:aH ((L.take (k+1)).all (λx=>fN x.t)=true):=C.o.trans u;clear C f u d;go_wp2_with fail
     refine⟨⟨k+1,aQ,rfl,s.o,r.o⟩,by simp only[aL];omega⟩
   .obtain rfl:k=L.length:=aQ;have s:aH (mI (L.map Tm.t)=true):=by
     have h1:=z.o;rw[aaS (Zw _)] at h1;exact d.o.trans h1
    clear z d;go_wp2_with fail
    go_ret
    rw[s.o];exact⟨rfl,j.o⟩
end
variable{ow:Nat->Nat}{b g:Nat}{l:List Pt}{F:Nat->Prop}{x:Lb}{y:La}
section
def XY(ow:Nat->Nat)(s i:Nat):Nat->Nat:=λb=>if b=s then i else ow b
theorem Kk(a:Nat->Nat)(s i:Nat):XY a s i s=i:=Zz rfl
theorem P9{s:Nat}(h:b≠s):XY ow s i b=ow b:=aaA h
theorem Ob.Jo{s:Nat}(h:Ob l (Fb F s) w)(hF:¬F s)(i:Nat)(p c:Pt)(hp:l[i]?=some p)(f:∀G,¬G s->p.X (Fb G s) w->c.X G w):Ob (l.set i c) F w:=by
 obtain⟨a,h1,d⟩:=h;have hs:=h1 s (.inr rfl);have g:∀j,j≠i+1->j≠0->Fo w (XY a s (i+1)) j=Fo w a j:=λj k n=>by
  funext b
  unfold Fo;by_cases hb:b=s
  .rw[hb,Kk,hs.2];exact propext ⟨λh=>⟨h.1,λe=>n e.symm⟩,λh=>⟨h.1,λe=>k e.symm⟩⟩
  .rw[P9 hb]
 have o:Fb (Fo w (XY a s (i+1)) (i+1)) s=Fo w a (i+1):=by
  funext b
  unfold Fb Fo;by_cases hb:b=s
  .rw[hb,hs.2];exact propext ⟨λ_=>⟨hs.1,aQ⟩,λ_=> .inr rfl⟩
  .rw[P9 hb];exact propext ⟨λh=>h.elim id (λe=>absurd e hb), .inl⟩
 refine⟨XY a s (i+1),λb hb=>?_,λm q hq=>?_⟩
 .have:=h1 b (.inl hb);exact⟨this.1,(P9 (λe=>hF (by rw[<-e];exact hb))).trans this.2⟩
 .rw[abF] at hq;split at hq
  .rename_i e;split at hq
   .injection hq with hq;rw[<-hq,<-e];exact f _ (λhc=>hc.2 (Kk _ _ _)) (by rw[o];exact d i p hp)
   .cases hq
  .rename_i e;rw[g (m+1) (λr=>e aQ) aQ];exact d m q hq
def AP(x:Lb)(n:Int):List Ev:=if n<0 then [] else x.lg.drop n.toNat
theorem Dy(h:bR F w g x y)(hl:x.lg.length<=4000000000)(n:Int):
 aG prog 80 #[.pointer g,n] w (xV qW 4 165 (AP x n) w):=by
 have i:=h.c 16 (.slice y.G x.lg.length y.cG) rfl;have a:bI qW 4 w 0 165 y.G y.cG x.lg:=by
  obtain⟨s,h1⟩:=h.o;exact(h1.get 8 (p:=PR qW 4 165 y.G y.cG x.lg) rfl).o
 have j:xV qW 4 165 ([]:List Ev) w (.returned (.slice none 0 0)) w:=⟨none,0,rfl,bI.nil _ _ _,Below.refl _ _⟩
 clear h;by_cases h1:n<0
 .have b:aH (AP x n= []):=Zz h1;clear a;go_enter func80,ntmps80
  go_wp2_with fail
  go_ret
  rw[b.o];exact j
 .obtain⟨k,rfl⟩:=aaB (by omega:0<=n);by_cases t:(x.lg.length:Int)<=(k:Int)
  .have b:aH (AP x k= []):=by unfold aH AP;rw[aaA h1,aaG];exact List.drop_eq_nil_of_le aQ
   clear a;go_enter func80,ntmps80
   go_wp2_with fail
   go_ret
   rw[b.o];exact j
  .have hk:k<x.lg.length:=aQ;obtain⟨q,hq⟩:=vX a aQ;rw[hq] at a i;have m:=a.cap;have b:aH (AP x k=x.lg.drop k):=by unfold aH AP;rw[aaA h1,aaG]
   have hs:=(a.sl wQ).drop hk;have f:(x.lg.drop k).length=x.lg.length - k:=acM;have l:=aP (λc=>He (some ⟨q,0+k *4,none⟩) (x.lg.drop k) c w hs aQ);rw[f,aa8] at l;have u:(0:Int)<=k:=aQ;have v:(k:Int)<=(x.lg.length:Int):=aQ;have z:¬y.cG=k:=aQ;clear hs a j f hq;go_enter func80,ntmps80
   go_wp2_with fail
   refine aS (l.o _) ?_;rintro e A ⟨B,d,rfl,own,hb⟩;have r:=bN own hb;clear own hb l;go_wp2_with fail
   go_ret
   rw[b.o];exact⟨B,d,by rw[acM];rfl,r.o⟩
def CE(j:Jb):List aC:= [.int .i64 j.tk, .int .i64 j.nu, .int .i64 j.ca, .int .i64 j.de, .int .i64 j.ra, .int .i64 j.dm, .int .i64 j.lf, .bool j.bg, .bool j.bh, .int .i64 j.rs]
theorem F4:eL CE 10:=⟨λ_=>rfl,λx u hu=>by simp[CE] at hu;rcases hu with rfl|rfl|rfl|rfl|rfl|rfl|rfl|rfl|rfl|rfl <;> rfl⟩
theorem Vh:jS prog 213 207 10 72:=fU (z:= .agg #[aU,aU,aU,aU,aU,aU,aU,false,false,aU]) underlying213 aV (by simp[Value.cells]) aQ
theorem M8(h:bR F w g x y)(hl:x.jb.length<=1000000):
 aG prog 62 #[.pointer g] w (xV CE 10 207 x.jb w):=by
 have z:=aP h;have b:=h.c 15 (.slice y.J x.jb.length y.cJ) rfl;clear h;go_enter func62,ntmps62
 go_wp2_with fail
 go_loopw [3,4,12] (λv3 _ v12 wr=>∃k:Nat,k<=x.jb.length/\v12= .int .i64 k/\(∃B d,v3= .slice B k d/\aH (bI CE 10 wr w.heap.size 207 B d (x.jb.take k)))/\aH (aD w w wr)) (λ_ _ v12 _=>x.jb.length - (aL v12).toNat)
 case atStart=>exact⟨0,aaH _,rfl,⟨none,0,rfl,bI.nil _ _ _⟩,Below.refl _ _⟩
 case round=>
  obtain⟨k,hk,rfl,⟨B,d,rfl,i⟩,l⟩:=hrel;clear b;by_cases e:k<x.jb.length
  .obtain⟨q,hq,C⟩:=(z.o.below l.o).lI e;have b:=(z.o.below l.o).c 15 (.slice y.J x.jb.length y.cJ) rfl;rw[hq] at b;have G:(0:Int)<=k:=aQ;have H:(k:Int)<(x.jb.length:Int):=aQ;have D:aH (x.jb.take (k+1)=x.jb.take k++ [dK x k]):=by unfold aH dK;rw[<-aa3 e,aaI,Zv e];rfl
   have p:(x.jb.take k).length=k:=bT;have t:=aP p;obtain⟨c0,c1,c2,c3,c4,c5,c6,c7,c8,c9,wV⟩:=C;generalize dK x k=j at *;have jA:=l.o.size;clear p hq;go_wp2_with(at_builtin;refine bP _ rfl _ _ rfl Vh F4 (i.o.alloc _) (n:=k) t.o rfl (m:=1) rfl (ys:= [j]) rfl (Sl.new F4 wr j _ rfl _) dI aQ bT _ rfl (k+1) rfl ?_;intro A6 c6 A a s u)
   have v:aH (aD w w A):=(l.o.alloc jA _).grown s bT (λr E=>(i.o.lt r E).1);have f:aH (bI CE 10 A w.heap.size 207 A6 c6 (x.jb.take (k+1))):=by rw[D.o];exact a
   clear a s u i;refine⟨⟨k+1,aQ,rfl,⟨A6,c6,rfl,f.o⟩,v.o⟩,by simp only[aL];omega⟩
  .obtain rfl:k=x.jb.length:=aQ;have f:aH (bI CE 10 wr w.heap.size 207 B d x.jb):=by have:=i.o;rw[aaS (Zw _)] at this;exact this
   clear i;go_wp2_with fail
   go_ret
   exact⟨_,_,rfl,f.o,l.o⟩
end
end
section
open Go.RowKit
namespace Fr
def vE(n:Nat):dX:=⟨n,List.replicate 32 false,List.replicate 512 0⟩
def Iz(n:Nat)(w:aA)(e:Ending)(w':aA):Prop:=e= .returned (.tuple #[.pointer w.heap.size,aU])/\Fm w' w (vE n)/\aD w w w'
theorem Nf(n:Nat)(w:aA)(h1:1<=n)(b:n<=32):aG prog 137 #[n] w (Iz n w):=by
 have f:¬(n:Int)<1:=aQ;have a2:¬(32:Int)<(n:Int):=aQ;obtain⟨Z,a⟩:∃Z,Z=(fc (vE 0)).toArray:=⟨_,rfl⟩
 have c:∀w,(zeroValue 150).run prog w= .ok (.agg Z) w:=λw=>by rw[a];kernel_rfl
 have d:¬Z=#[]:=by rw[a];simp[fc]
 have e:aH (Z.setIfInBounds 0 (.int .i64 (n:Int))=(fc (vE n)).toArray):=by unfold aH;rw[a];rfl
 clear a;go_enter func137,ntmps137
 go_wp2
 go_ret2
 refine⟨rfl,⟨b,rfl,rfl,?_⟩,aX _ _⟩;rw[<-e.o];exact bF.new w _ _
end Fr
section
namespace Fr
def jH(s:dX):Option Nat:=(s.T.take s.n).findIdx? (λb=>!b)
def IX(B:List Int):Nat->List Int->List Int
 |_, []=>B
 |m,v::r=>IX (B.set m v) (m+1) r
def PV(B:List Int)(i:Nat):List Int:=IX B (i *16) [0,0,0,0,0,0,0,0,0,0,0,0,0,0,0,0]
variable{g:Nat}
theorem Fm.lay:∀(a:List Int) (m:Nat) (w:aA) (s:dX),Fm w g s->Fm (w.setCells g (33+m) (a.map (Value.int .u8))) g {s with B:=IX s.B m a}/\w.grownBy (w.setCells g (33+m) (a.map (Value.int .u8))) (some g)
 | [],_,w,_,h=>⟨h,bK w g⟩
 |v::r,m,w,s,h=>by
  have b:=Fm.lay r (m+1) _ _ (h.Sp m v);exact⟨b.1,oV (aZ (bK w g) _ _) b.2⟩
variable{w:aA}{j:Nat}
theorem Fm.lJ{s:dX}(h:Fm w g s){k:Nat}(hk:k<32)(a:j<16):∃v,w.cell? (g,33+k *16+j)=some (.int .u8 v)/\w.frozen? (g,33+k *16+j)=false:=by
 rw[abD];exact⟨_,h.cb (m:=k *16+j) aQ,h.at_.frozen _⟩
def fQ(s:dX):dX:=match jH s with
 |some i=>{s with T:=s.T.set i true,B:=PV s.B i}
 |none=>s
theorem Z4{s:dX}{k:Nat}(c:s.n<=s.T.length)(hk:k<s.n)(h:s.T[k]=false)(b:∀j,(a:j<k)->s.T[j]=true):jH s=some k:=by
 unfold jH;refine aaT.2 ⟨bT,by simp[h],λj a=>?_⟩;simp[b j a]
theorem VL{s:dX}(e:s.n<=s.T.length)(c:∀j,(b:j<s.n)->s.T[j]=true):jH s=none:=by
 unfold jH;refine abH.2 (λx d=>?_);obtain⟨j,b,rfl⟩:=aa1 d;have a:j<s.n:=by simp at b;omega
 rw[List.getElem_take,c j a];rfl
def RY(s:dX)(g:Nat)(w:aA)(e:Ending)(w':aA):Prop:=e= .returned (.tuple #[.int .i64 ((jH s).getD 0:Nat), .int .i64 (if(jH s).isSome then 0 else 20)])/\Fm w' g (fQ s)/\w.grownBy w' (some g)
theorem Ie(s:dX)(g:Nat)(w:aA)(h:Fm w g s):aG prog 206 #[.pointer g] w (RY s g w):=by
 have c0:=h.cn;have l:=aP h;have x:=h.n0;have d:s.n<=s.T.length:=by rw[h.t];exact x
 clear h;go_enter func206,ntmps206
 go_wp2_with fail
 go_loop [2,3,4,11] (λs2 y _ m=>∃k:Nat,k<=s.n/\m= .int .i64 k/\s2= .int .i64 0/\y= .int .i64 0/\aH (∀j,(c:j<s.T.length)->j<k->s.T[j]=true)) (λ_ _ _ i=>s.n - (aL i).toNat)
 case atStart=>exact⟨0,aaH _,rfl,rfl,rfl,λj c h=>absurd h (acH _)⟩
 case round=>
  obtain⟨k,hk,rfl,rfl,rfl,e⟩:=hrel;by_cases p:k<s.n
  .have z:k<s.T.length:=aQ;have c1:=l.o.ct (i:=k) aQ;have q:aH (s.T[k]=false->jH s=some k):=λh=>Z4 d p h (λj c=>e.o j aQ c)
   have r:aH (s.T[k]=true->∀j,(c:j<s.T.length)->j<k+1->s.T[j]=true):=λh j c A=>by
    by_cases he:j=k
    .subst he;exact h
    .exact e.o j c aQ
   have Q:(0:Int)<=k:=aQ;have R:(k:Int)<32:=aQ;have S:(k:Int)<(s.n:Int):=aQ;have f1:=l.o.at_.frozen (1+k);generalize s.T[k]=b at *;cases b
   .have f:=aP (q.o rfl);have a:=l.o.Sz (i:=k) aQ true;obtain⟨v0,B,z0⟩:=a.lJ (k:=k) (j:=0) aQ aQ;obtain⟨v1,U,V⟩:=a.lJ (k:=k) (j:=1) aQ aQ;obtain⟨v2,W,z2⟩:=a.lJ (k:=k) (j:=2) aQ aQ;obtain⟨v3,X,z3⟩:=a.lJ (k:=k) (j:=3) aQ aQ;obtain⟨v4,Y,z4⟩:=a.lJ (k:=k) (j:=4) aQ aQ;obtain⟨v5,Z,z5⟩:=a.lJ (k:=k) (j:=5) aQ aQ;obtain⟨v6,y6,z6⟩:=a.lJ (k:=k) (j:=6) aQ aQ;obtain⟨v7,y7,z7⟩:=a.lJ (k:=k) (j:=7) aQ aQ;obtain⟨v8,y8,z8⟩:=a.lJ (k:=k) (j:=8) aQ aQ;obtain⟨v9,y9,z9⟩:=a.lJ (k:=k) (j:=9) aQ aQ;obtain⟨v10,C,D⟩:=a.lJ (k:=k) (j:=10) aQ aQ;obtain⟨v11,E,F⟩:=a.lJ (k:=k) (j:=11) aQ aQ;obtain⟨v12,G,z12⟩:=a.lJ (k:=k) (j:=12) aQ aQ;obtain⟨H,I,J⟩:=a.lJ (k:=k) (j:=13) aQ aQ;obtain⟨K,L,M⟩:=a.lJ (k:=k) (j:=14) aQ aQ;obtain⟨N,O,P⟩:=a.lJ (k:=k) (j:=15) aQ aQ;simp only[aaU] at B z0;have v:=aP (Fm.lay [0,0,0,0,0,0,0,0,0,0,0,0,0,0,0,0] (k *16) _ _ a);clear q r e a;go_wp2_with fail
    go_ret2
    refine⟨by rw[f.o];rfl,?_,oV (aZ (bK w g) (1+k) (.bool true)) v.o.2⟩;unfold fQ;rw[f.o];exact v.o.1
   .have u:=aP (r.o rfl);clear r q e;go_wp2_with fail
    go_round
    case rel=>exact⟨k+1,aQ,by go_num,rfl,rfl,u.o⟩
    case measure=>simp[aL];omega
  .obtain rfl:k=s.n:=aQ;have f:=aP (VL d (λj c=>e.o j aQ c));go_wp2_with fail
   go_ret2
   refine⟨by rw[f.o];rfl,?_,bK w g⟩;unfold fQ;rw[f.o];exact l.o
end Fr
end
namespace Fr
def IT(s:dX)(i:Nat):List Int:=(s.B.drop (i *16)).take 16
end Fr
end
section
section
namespace Up
structure Up where
 kind:Int
 a:Int
 b:Int
structure Ct where
 L:List Up
 lost:Int
def MA(k:Int):Bool:=k==1 || k==3 || k==4
def p6(u o:Up):Bool:=o.kind==u.kind&&o.a==u.a
def nE(L:List Up)(u:Up):Option Nat:=if MA u.kind then L.findIdx? (p6 u) else none
def cY(r:Ct)(u:Up):Ct:=match nE r.L u with
 |some i=>⟨r.L.set i u,r.lost⟩
 |none=>if 8<=r.L.length then⟨r.L,Go.RowKit.wrap64 (r.lost+1)⟩ else⟨r.L++ [u],r.lost⟩
def IU(r:Ct)(u:Up):Int:=match nE r.L u with
 |some _=>0
 |none=>if 8<=r.L.length then 20 else 0
def T0(k:Int):Bool:=decide (1<=k/\k<=8)
variable{u:Up}
theorem Ge{L:List Up}(h:MA u.kind=false):nE L u=none:=by unfold nE;rw[h];rfl
theorem Na{L:List Up}{k:Nat}(b:MA u.kind=true)(hk:k<L.length)(h:p6 u L[k]=true)(c:∀j,(a:j<k)->p6 u L[j]=false):nE L u=some k:=by
 unfold nE;rw[b,Zz rfl,aaT.2 ⟨hk,h,λj a=>by rw[c j a];simp⟩]
theorem Fw{L:List Up}(h:∀j,(a:j<L.length)->p6 u L[j]=false):nE L u=none:=by
 unfold nE;split
 .exact abH.2 (λx b=>by obtain⟨j,a,rfl⟩:=aa1 b;exact h j a)
 .rfl
theorem Nr{r:Ct}(h:r.L.length<=8):(cY r u).L.length<=8:=by
 unfold cY;cases nE r.L u with
 |some i=>simpa using h
 |none=>
  simp only;split
  .exact h
  .simp;omega
end Up
end
end
section
open Go.RowKit Go.Lib
section
namespace Up
def eP(u:Up):List aC:= [.int .i64 u.kind, .int .i64 u.a, .int .u64 u.b]
theorem wG:eL eP 3:=⟨λ_=>rfl,λx u hu=>by simp[eP] at hu;rcases hu with rfl|rfl|rfl <;> rfl⟩
theorem TG:(prog.info? 248).map (λi=>(i.zero,i.size,i.bytes))=some (some (.agg #[aU,aU,bC]),3,24):=aV
theorem Vv:jS prog 319 248 3 24:=fU underlying319 TG rfl aQ
variable{w:aA}{A:Option aJ}{i:Nat}
theorem _root_.Go.Proofs.YtacgiflhgdaeaaaGreat.Sl.Uu{xs:List Up}(h:Sl eP 3 w A xs)(hi:i<xs.length):
 ∃b off,A=some ⟨b,off,none⟩/\w.cell? ⟨b,off+i *3,none⟩=some (.int .i64 xs[i].kind)/\w.cell? ⟨b,off+i *3+1,none⟩=some (.int .i64 xs[i].a)/\w.cell? ⟨b,off+i *3+1+1,none⟩=some (.int .u64 xs[i].b):=by
 obtain⟨b,off,c,hc⟩:=h.at_ hi;refine⟨b,off,c,?_,?_,?_⟩
 .simpa using hc 0 _ (show(eP xs[i])[0]?=some (.int .i64 xs[i].kind) from rfl)
 .simpa[abD] using hc 1 _ (show(eP xs[i])[1]?=some (.int .i64 xs[i].a) from rfl)
 .simpa[abD] using hc 2 _ (show(eP xs[i])[2]?=some (.int .u64 xs[i].b) from rfl)
variable{b:Nat}
theorem P8{base:Nat}{e:TypeId}{c:Nat}{L:List Up}(h:bI eP 3 w base e b c L)(hi:i<L.length):
 w.cell? (b,i *3)=some (.int .i64 L[i].kind)/\w.cell? (b,i *3+1)=some (.int .i64 L[i].a)/\w.cell? (b,i *3+1+1)=some (.int .u64 L[i].b):=by
 obtain⟨m,off,d,f,j,k⟩:=(h.sl wG).Uu hi;injection d with d;injection d with h1 l;subst h1 l;simp only[aa8] at f j k;exact⟨f,j,k⟩
structure uP where
 A:Option aJ
 c:Nat
 L:List Up
 lost:Int
def vL(r:uP):List aC:= [.slice r.A r.L.length r.c, .int .i64 r.lost]
theorem vN(r:uP):(vL r).length=2:=rfl
def uX(r:uP):Ct:=⟨r.L,r.lost⟩
structure nC(w:aA)(g:Nat)(R:List uP):Prop where
 len:R.length=8
 at_:bF w g 324 (R.flatMap vL).toArray
 own:∀i,(hi:i<R.length)->bI eP 3 w (g+1) 248 R[i].A R[i].c R[i].L
 zO:∀i j,(hi:i<R.length)->(hj:j<R.length)->i≠j->aY R[i].A=none\/aY R[i].A≠aY R[j].A
theorem Mf(R:List uP)(i:Nat)(hi:i<R.length)(A:Option aJ)(c:Nat)(L:List Up):((R.flatMap vL).toArray).setIfInBounds (i *2) (.slice A L.length c)=((R.set i ⟨A,c,L,R[i].lost⟩).flatMap vL).toArray:=by
 rw[Zx];congr 1
 induction R generalizing i with
 |nil=>simp at hi
 |cons r R a=>
  cases i with
  |zero=>simp[vL]
  |succ i=>
   simp only[aa0,aaD,abG];rw[aaQ _ _ (by rw[vN];omega),vN,show(i+1) *2 - 2=i *2 by omega,a i (by simpa using hi)]
theorem Es(R:List uP)(i:Nat)(hi:i<R.length)(v:Int):((R.flatMap vL).toArray).setIfInBounds (i *2+1) (.int .i64 v)=((R.set i ⟨R[i].A,R[i].c,R[i].L,v⟩).flatMap vL).toArray:=by
 rw[Zx];congr 1
 induction R generalizing i with
 |nil=>simp at hi
 |cons r R a=>
  cases i with
  |zero=>simp[vL]
  |succ i=>
   simp only[aa0,aaD,abG];rw[aaQ _ _ (by rw[vN];omega),vN,show(i+1) *2+1 - 2=i *2+1 by omega,a i (by simpa using hi)]
section
variable{w w':aA}{g:Nat}{R:List uP}
theorem nC.keep(h:nC w g R)(hb:aD w w w'):nC w' g R:=⟨h.len,h.at_.keep hb,λi hi=>(h.own i hi).keep hb,h.zO⟩
theorem nC.drew(h:nC w g R):nC w.drew g R:=⟨h.len,h.at_,h.own,h.zO⟩
theorem nC.cells(h:nC w g R)(hi:i<R.length):w.cell? (g,i *2)=some (.slice R[i].A R[i].L.length R[i].c)/\w.cell? (g,i *2+1)=some (.int .i64 R[i].lost):=by
 refine⟨h.at_.cell _ _ ?_,h.at_.cell _ _ ?_⟩
 .rw[aaR];exact(kM vN R i R[i] 0 (Zv hi) aQ).trans rfl
 .rw[aaR];exact(kM vN R i R[i] 1 (Zv hi) aQ).trans rfl
theorem nC.lt(h:nC w g R)(hi:i<R.length):∀q,aY R[i].A=some q->g<q/\q<w.heap.size:=λq hq=>by
 have:=(h.own i hi).lt q hq;omega
theorem F0{c:Nat}{L:List Up}(ho:bI eP 3 w (g+1) 248 A c L)(o:Nat)(u:aC):bI eP 3 (w.setCell (g,o) u) (g+1) 248 A c L:=by
 refine ho.kept (aZ (bK w g) o u) ?_;cases e:aY A with
 |none=>exact .inl rfl
 |some q=>exact .inr (λa=>by injection a with a;have:=(ho.lt q e).1;omega)
theorem nC.put(h:nC w g R){i:Nat}(hi:i<R.length)(m:w.grownBy w' (aY R[i].A)){A:Option aJ}{c:Nat}{L:List Up}(ho:bI eP 3 w' (g+1) 248 A c L)
 (n:aY A=aY R[i].A\/aY A=none\/∃q,aY A=some q/\w.heap.size<=q):nC (w'.setCell (g,i *2) (.slice A L.length c)) g (R.set i ⟨A,c,L,R[i].lost⟩):=by
 have b:some g≠aY R[i].A:=λe=>by have:=h.lt hi g e.symm;omega
 refine⟨by rw[aaL];exact h.len,?_,λj a=>?_,λj k a hk l=>?_⟩
 .have:=(h.at_.grown m b).bX (i *2) (.slice A L.length c);rw[Mf R i hi] at this;exact this
 .rw[aaL] at a;rw[abA];split
  .exact F0 ho _ _
  .rename_i d;exact F0 ((h.own j a).kept m (h.zO j i a hi aQ)) _ _
 .rw[aaL] at a hk;rw[abA,abA];have key:∀j,(a:j<R.length)->j≠i->aY A=none\/aY A≠aY R[j].A:=λj a b=>by
   rcases n with e|e|⟨q,e,hq⟩
   .rw[e];exact h.zO i j hi a aQ
   .exact .inl e
   .right;rw[e];intro f;have:=h.lt a q f.symm;omega
  split
  .rename_i d;split
   .omega
   .exact key k hk aQ
  .rename_i d;split
   .rcases key j a aQ with e|e
    .by_cases f:aY R[j].A=none
     .exact .inl f
     .right;simp only;rw[e];exact f
    .exact .inr (acT e)
   .exact h.zO j k a hk l
theorem nC.gI(h:nC w g R){i:Nat}(hi:i<R.length)(v:Int):nC (w.setCell (g,i *2+1) v) g (R.set i ⟨R[i].A,R[i].c,R[i].L,v⟩):=by
 refine⟨by rw[aaL];exact h.len,?_,λj a=>?_,λj k a hk b=>?_⟩
 .have:=h.at_.bX (i *2+1) (.int .i64 v);rw[Es R i hi] at this;exact this
 .rw[aaL] at a;rw[abA];split
  .exact F0 (h.own i hi) _ _
  .exact F0 (h.own j a) _ _
 .rw[aaL] at a hk;rw[abA,abA];split
  .rename_i d;subst d;split
   .omega
   .exact h.zO i k a hk b
  .split
   .rename_i e;subst e;exact h.zO j i a hk b
   .exact h.zO j k a hk b
theorem J5(R:List uP)(i:Nat)(r:uP):(R.set i r).map uX=(R.map uX).set i (uX r):=by rw[ab6]
end
theorem Ag(L:List Up)(k:Nat)(hk:k<L.length)(u:Up):(((L.flatMap eP).set (k *3) (.int .i64 u.kind)).set (k *3+1) (.int .i64 u.a)).set (k *3+1+1) (.int .u64 u.b)=(L.set k u).flatMap eP:=by
 induction L generalizing k with
 |nil=>simp at hk
 |cons x L d=>
  cases k with
  |zero=>simp[eP]
  |succ k=>
   have c:(eP x).length=3:=rfl;simp only[aa0,aaD];rw[aaQ _ _ (by rw[c];omega),aaQ _ _ (by rw[c];omega),aaQ _ _ (by rw[c];omega),c,show(k+1) *3 - 3=k *3 by omega,show(k+1) *3+1 - 3=k *3+1 by omega,show(k+1) *3+1+1 - 3=k *3+1+1 by omega,d k (by simpa using hk)]
def dU(w:aA)(q o:Nat)(u:Up):aA:=((w.setCell (q,o) u.kind).setCell (q,o+1) u.a).setCell (q,o+1+1) (.int .u64 u.b)
variable{q:Nat}
theorem Il{base:Nat}{e:TypeId}{c:Nat}{L:List Up}(h:bI eP 3 w base e q c L){k:Nat}(hk:k<L.length)(u:Up):bI eP 3 (dU w q (k *3) u) base e q c (L.set k u)/\w.grownBy (dU w q (k *3) u) (some q):=by
 have h1:=World.ownsRow.stored h (k *3) (.int .i64 u.kind);have f:=World.ownsRow.stored h1.1 (k *3+1) (.int .i64 u.a);have d:=World.ownsRow.stored f.1 (k *3+1+1) (.int .u64 u.b);rw[Ag L k hk] at d;refine⟨?_,oV (oV h1.2 f.2) d.2⟩;unfold bI;rw[aaL];exact d.1
end Up
end
section
namespace Up
theorem kX:∀w,(zeroValue 248).run prog w= .ok (.agg #[aU,aU,bC]) w:=λw=>by kernel_rfl
variable{A:Option aJ}{n m:Nat}
theorem fH{c:Nat}(h:n=m):Ending.returned (.slice A n c)= .returned (.slice A m c):=by rw[h]
theorem lX(g c i k base:Nat)(L:List Up)(w:aA)(own:bI eP 3 w base 248 g c L)(r:L.length=i+1+k)(hl:L.length<=1000):
 aG prog 251 #[.slice g L.length c,i, .int .i64 ((i:Int)+1)] w λe w'=>e= .returned (.slice g (L.eraseIdx i).length c)/\bI eP 3 w' base 248 g c (L.eraseIdx i)/\w.grownBy w' (some g):=by
 obtain⟨i0,n,G,p,H⟩:=info_parts TG;have s:(L.eraseIdx i).length=i+k:=by rw[ab2,Zz aQ];omega
 obtain⟨_,_,_,v,x,_,_⟩:=eV own;simp only[maxLen] at x;obtain⟨news,b⟩:∃news,news=(L.drop (i+1)).flatMap eP:=⟨_,rfl⟩
 have s1:aH (news.length=k *3):=by unfold aH;rw[b,eZ wG.len,acM];omega
 have s2:aH (∀u∈news,u.oneCell'=true):=λu hu=>qX wG _ u (by rw[<-b];exact hu)
 have D:aH (∀t,t<news.length->(w.drew.cell? ⟨g,0+i *3+t,none⟩).isSome=true/\w.drew.frozen? ⟨g,0+i *3+t,none⟩=false):=λt E=>by
  rw[s1.o] at E;exact cZ own _ aQ
 have I:aH (∀t u,news[t]?=some u->w.drew.cell? ((⟨g,(i+1) *3,none⟩:aJ).add t)=some u):=λt u hu=>by
  have E:t<k *3:=by rw[<-s1.o];exact(aaN.1 hu).1
  have hF:=oE wG.len L (i+1);rw[b,hF,abY] at hu;rw[Addr.add_lit];obtain⟨cur,_,J,_,_,_,K⟩:=eV own;show w.cell? _=_;rw[cell_of_row w g _ cur _ (0,0) J,<-hu,<-K,aa7,Zz aQ,aaX]
 obtain⟨m,h⟩:∃m,m=w.drew.setCells g (0+i *3) news:=⟨_,rfl⟩
 have F:=aP h;have y:=tG (w:=w.drew) wG.len own.drew i k r [.int .i64 0, .int .i64 0, .int .u64 0] rfl;rw[<-b,show i *3=0+i *3 by omega,<-h] at y;have a:=aP y;have d:∀j,j<c *3->(m.cell? ⟨g,j,none⟩).isSome=true/\m.frozen? ⟨g,j,none⟩=false:=λj z=>by
  rw[h];have:=cZ own j z;exact⟨Go.World.isSome_setCells g _ _ _ _ this.1,by rw[World.frozen?_setCells];exact this.2⟩
 have l:∀ty q A,q=1->(Builtin.clear_ #[319] ty #[.slice (some ⟨g,(i+k) *3,none⟩) q A]).run prog m= .ok (.tuple #[]) (m.setCells g ((i+k) *3) [.int .i64 0, .int .i64 0, .int .u64 0]):=λty q A B=>
  lE m _ 248 ty _ underlying319 kX [.int .i64 0, .int .i64 0, .int .u64 0] aV cC g ((i+k) *3) q A B (λj z=>d _ (by simp at z;omega))
 clear h y d b;rw[r];rw[r] at v;have M:i<=c:=aQ;have N:i+1<=c:=aQ;have O:(0:Int)<=i+1:=aQ;have P:(i:Int)+1<=(i:Int)+1+(k:Int):=aQ;by_cases hce:c=i+1
 .obtain rfl:k=0:=aQ;obtain rfl:news= []:=aa5 (by rw[s1.o]);have C:aH (∀t u,([]:List aC)[t]?=some u->w.drew.cell? ((⟨g,0,none⟩:aJ).add t)=some u):=λt u hu=>by simp at hu
  subst hce;have f:=λty=>l ty (i+1 - i) (i+1 - i) aQ
  simp only[aaU] at f s⊢;have Q:(i:Int)<=(i:Int)+1:=aQ;have R:i+1 - i=1:=aQ;rw[R] at f;clear l;go_enter func251,ntmps251
  go_wp2_with fail
  go_region_law (refine step_append_room rfl (.tmp 22) (.tmp 25) 319 rfl 248 i0 3 underlying319 n p g 0 i (i+1) (by simp[Act.eval,Act.put]) ⟨g,0,none⟩ 0 0 [] (by simp[Act.eval,Act.put]) s1.o C.o s2.o aQ D.o ?_;rw[<-F.o])
  go_wp2
  go_ret
  exact⟨fH aQ,a.o.1,⟨a.o.2.os,a.o.2.tape,a.o.2.output,a.o.2.size,a.o.2.block⟩⟩
 .have f:=λty=>l ty (i+1+k - (i+k)) (c - (i+k)) aQ
  clear l;go_enter func251,ntmps251
  go_wp2_with fail
  go_region_law (refine step_append_room rfl (.tmp 22) (.tmp 25) 319 rfl 248 i0 3 underlying319 n p g 0 i c (by simp[Act.eval,Act.put]) ⟨g,(i+1) *3,none⟩ k (c - (i+1)) news (by simp[Act.eval,Act.put]) s1.o I.o s2.o aQ D.o ?_;rw[<-F.o])
  go_wp2
  go_ret
  exact⟨fH aQ,a.o.1,⟨a.o.2.os,a.o.2.tape,a.o.2.output,a.o.2.size,a.o.2.block⟩⟩
def OT(k:Int):ByteArray:=if k=1 then⟨#[116,105,109,101,114]⟩ else if k=2 then⟨#[105,110,116,101,114,114,117,112,116]⟩ else if k=3 then⟨#[98,101,103,105,110,115]⟩ else if k=4 then⟨#[101,110,100,115]⟩ else if k=5 then⟨#[119,97,110,116,101,100]⟩ else if k=6 then⟨#[116,97,107,101,110]⟩ else if k=7 then⟨#[109,101,115,115,97,103,101]⟩ else if k=8 then⟨#[102,97,117,108,116]⟩ else⟨#[]⟩
theorem Gn{k:Int}(h:T0 k=false):OT k=⟨#[]⟩:=by
 have a:¬(1<=k/\k<=8):=ad6 h;unfold OT;repeat rw[aaA aQ]
theorem OK{k:Int}(h:T0 k=true):k=1\/k=2\/k=3\/k=4\/k=5\/k=6\/k=7\/k=8:=by
 have a:1<=k/\k<=8:=abQ h;omega
theorem YJ{k:Int}(h:T0 k=true):(OT k).toList.isEmpty=false:=by
 rcases OK h with rfl|rfl|rfl|rfl|rfl|rfl|rfl|rfl <;> kernel_rfl
theorem Ht(k:Int)(w:aA):aG prog 158 #[k] w λe w'=>e= .returned (.string (OT k))/\w=w':=by
 cases h:T0 k
 .have a:¬(1<=k/\k<=8):=ad6 h;rw[Gn h];have q1:(k==1)=false:=bT;have q2:(k==2)=false:=bT;have b:(k==3)=false:=bT;have c:(k==4)=false:=bT;have d:(k==5)=false:=bT;have f:(k==6)=false:=bT;have g:(k==7)=false:=bT;have q8:(k==8)=false:=bT;go_enter func158,ntmps158
  go_wp2
  go_ret
  exact⟨rfl,rfl⟩
 .rcases OK h with rfl|rfl|rfl|rfl|rfl|rfl|rfl|rfl
  all_goals
   go_enter func158,ntmps158
   go_wp2
   go_ret
   exact⟨rfl,rfl⟩
theorem Nh(k:Int)(w:aA):aG prog 159 #[k] w λe w'=>e= .returned (.bool (MA k))/\w=w':=by
 unfold MA;cases h1:(k==1)
 .cases a:(k==3)
  .go_enter func159,ntmps159
   go_wp2
   go_ret
   exact⟨rfl,rfl⟩
  .go_enter func159,ntmps159
   go_wp2
   go_ret
   exact⟨rfl,rfl⟩
 .go_enter func159,ntmps159
  go_wp2
  go_ret
  exact⟨rfl,rfl⟩
theorem KO(g i:Nat)(hi:i<8)(w:aA):aG prog 157 #[.pointer g,i] w λe w'=>e= .returned (.pointer (some ⟨g,i *2,none⟩))/\w=w':=by
 have a:¬(i:Int)<0:=aQ;have h1:¬(8:Int)<=(i:Int):=aQ;have b:(0:Int)<=i:=aQ;have c:(i:Int)<8:=aQ;go_enter func157,ntmps157
 go_wp2
 go_ret
 exact⟨rfl,rfl⟩
end Up
end
section
namespace Up
theorem YW(R:List uP)(i:Nat)(hi:i<R.length)(L:List Up)(hl:L.length=R[i].L.length):(R.set i ⟨R[i].A,R[i].c,L,R[i].lost⟩).flatMap vL=R.flatMap vL:=by
 induction R generalizing i with
 |nil=>simp at hi
 |cons r R a=>
  cases i with
  |zero=>simp at hl;simp[vL,hl]
  |succ i=>simp only[aaD,aa0,abG];rw[a i (by simpa using hi) (by simpa using hl)]
variable{w w':aA}{g i:Nat}
theorem nC.row{R:List uP}(h:nC w g R)(hi:i<R.length)(m:w.grownBy w' (aY R[i].A)){L:List Up}(ho:bI eP 3 w' (g+1) 248 R[i].A R[i].c L)(hl:L.length=R[i].L.length):
 nC w' g (R.set i ⟨R[i].A,R[i].c,L,R[i].lost⟩):=by
 have f:some g≠aY R[i].A:=λe=>by have:=h.lt hi g e.symm;omega
 refine⟨by rw[aaL];exact h.len,?_,λj a=>?_,λj k a hk b=>?_⟩
 .rw[YW R i hi L hl];exact h.at_.grown m f
 .rw[aaL] at a;rw[abA];split
  .exact ho
  .rename_i d;exact(h.own j a).kept m (h.zO j i a hi aQ)
 .rw[aaL] at a hk;rw[abA,abA];split
  .rename_i d;subst d;split
   .omega
   .exact h.zO i k a hk b
  .split
   .rename_i l;subst l;exact h.zO j i a hk b
   .exact h.zO j k a hk b
theorem JV{o:Nat}(h:w'.heap[g]?=w.heap[g]?):w'.frozen? (g,o)=w.frozen? (g,o):=by simp only[World.frozen?,h]
variable{u:Up}{j:Nat}
theorem TU{r:Ct}(h:nE r.L u=some j):cY r u=⟨r.L.set j u,r.lost⟩/\IU r u=0:=by unfold cY IU;rw[h];exact⟨rfl,rfl⟩
theorem Hp{r:Ct}(h:nE r.L u=none)(a:8<=r.L.length):cY r u=⟨r.L,Go.RowKit.wrap64 (r.lost+1)⟩/\IU r u=20:=by unfold cY IU;rw[h];simp only;rw[Zz a,Zz a];exact⟨rfl,rfl⟩
theorem Ma{r:Ct}(h:nE r.L u=none)(a:¬8<=r.L.length):cY r u=⟨r.L++ [u],r.lost⟩/\IU r u=0:=by unfold cY IU;rw[h];simp only;rw[aaA a,aaA a];exact⟨rfl,rfl⟩
end Up
end
section
namespace Up
theorem ED(w:aA)(b o:Nat)(x:Up):w.grownBy (dU w b o x) (some b):=aZ (aZ (aZ (bK w b) _ _) _ _) _ _
variable{w:aA}{b:Nat}{v0 v1 v2:aC}
theorem IQ(x:Up){t:TypeId}(h:bF w b t #[v0,v1,v2]):bF (dU w b 0 x) b t #[x.kind,x.a, .int .u64 x.b]:=((h.bX 0 _).bX 1 _).bX 2 _
variable{w':aA}{g:Nat}
theorem nC.rU{R:List uP}(h:nC w g R)(a:w.grownBy w' (some b))(h1:g≠b)(c:∀i,(hi:i<R.length)->aY R[i].A≠some b):nC w' g R:=
 ⟨h.len,h.at_.grown a (by simpa using h1),λi hi=>(h.own i hi).kept a (.inr (c i hi)),h.zO⟩
theorem take_nil(g i:Nat)(hi:i<8)(R:List uP)(w:aA)(d:nC w g R)(a:i<R.length)(b:R[i].L= []):aG prog 219 #[.pointer g,i] w λe w'=>e= .returned (.tuple #[.agg #[aU,aU,bC], .int .i64 6])/\aD w w w':=by
 have H:=aP (λW=>KO g i hi W);have c0:=((d.keep (aX w (aI #[aU,aU,bC] 248))).cells a).1;rw[b] at c0;simp only[abM] at c0;generalize R[i].A=A at *;generalize R[i].c=c at *;clear hi b;go_enter func219,ntmps219
 go_wp2_with fail
 refine(H.o _).mono ?_;rintro e f ⟨rfl,rfl⟩;go_wp2_with fail
 exact bodyPost_ret (v:= .tuple #[.agg #[aU,aU,bC], .int .i64 6]) (by simp[results,results219,go_sem]) rfl ⟨rfl,aX _ _⟩
end Up
end
end
end Go.Proofs.YtacgiflhgdaeaaaGreat
