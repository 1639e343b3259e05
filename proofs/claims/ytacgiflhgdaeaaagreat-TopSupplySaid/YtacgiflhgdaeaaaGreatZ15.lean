/- Texts laid as one. -/
import Derived.Test.YtacgiflhgdaeaaaGreatZ2
import Derived.Test.YtacgiflhgdaeaaaGreatZ14
set_option linter.unusedVariables false
set_option linter.unusedSimpArgs false
set_option maxRecDepth 100000
set_option maxHeartbeats 20000000
namespace Go.Proofs.YtacgiflhgdaeaaaGreat
open Go.Proofs.Tryz
open Go renaming World->aA,Calls->aG
open Go.RowKit renaming Hid->aH,intOf->aL
section
open Go.RowKit Go.Lib
namespace Nt
theorem Nj(B q c L a m b:Nat)(T P X Y S:List Nt)(w:aA)(h:Rw B w q c T)(U:aH (T.length=L))(hM:Mg T a m b P X Y S)(h0:b=m+1)(h1:a+1<m)(hb:b<=L)(h3:L<=1000):
 aG prog 233 #[.slice q L c,a,m,b, .func (.func 146) #[] #[]] w (MX B q c T a b w):=by
 have k0:(b:Int) - (m:Int)=1:=aQ;have G:=aP hM;have V:=aP h0;clear hM h0;go_enter func233,ntmps233
 go_wp2_with fail
 go_loopw [14,15] (λx y wr=>∃i j:Nat,x= .int .i64 i/\y= .int .i64 j/\a<=i/\i<=j/\j<=m/\aH (∀k,a<=k->k<i->¬(bM T m).bO<(bM T k).bO)/\aH (∀k,j<=k->k<m->¬¬(bM T m).bO<(bM T k).bO)/\Rw B wr q c T/\Sw q w wr) (λx y _=>(aL y).toNat - (aL x).toNat)
 case atStart=>exact⟨a,m,rfl,rfl,aaH _,aQ,aaH _,λk h1 u=>by omega,λk h1 u=>by omega,h,Sw.refl _⟩
 case round=>
  clear h;obtain⟨i,j,rfl,rfl,hi,hij,Z,l1,l2,e,v⟩:=hrel;by_cases I:i<j
  .have k1:(i:Int)<(j:Int):=aQ;obtain⟨H,hH⟩:∃H,H=(i+j) /2:=⟨_,rfl⟩
   have eH:((i:Int)+(j:Int)) /2=(H:Int):=aQ;have hH1:i<=H:=aQ;have hH2:H<j:=aQ;have HH:=aP hH;clear hH;have J:m<T.length:=by have:=U.o;omega
   have K:H<T.length:=by have:=U.o;omega
   have q1:H<L:=aQ;have q2:m<L:=aQ;obtain⟨a0,C,a2⟩:=nC e J;obtain⟨b0,b1,b2⟩:=nC e K;have hc:=aP (λW=>yH (bM T m).eO (bM T m).fV (bM T m).bO (bM T H).eO (bM T H).fV (bM T H).bO W);obtain⟨E,M⟩:∃E,tM (bM T m).bO (bM T H).bO=E:=⟨_,rfl⟩
   rw[M] at hc;have D:=bH e v;clear e v;by_cases hk:(bM T m).bO<(bM T H).bO
   .have hE0:E<0:=by rw[<-M,r6];exact hk
    have L2:aH (∀k,H<=k->k<m->¬¬(bM T m).bO<(bM T k).bO):=by
     have:=HH.o;subst this;exact F1 (G.o.Le (bM T m)) hi I (not_not_intro hk)
    clear M hk l2;go_upto_region 17 with(fail)
    (have f:=bR.cell a0;have g:=bR.cell C;have l:=bR.cell a2;have n:=bR.cell b0;have p:=bR.cell b1;have r:=bR.cell b2;refine dA aV aV ?_;(repeat (go_big_quiet_step ((go_at_call 146;with_reducible exact gR (hc.o _)))));refine wpQuiet_nil ?_;clear f g l n p r;intro w5 s;have t:=bR.below s;clear s)
    replace e:=D.o.1.keep t;replace v:=D.o.2.below t;clear a0 C a2 b0 b1 b2 hc t D;go_wp2_with fail
    go_roundw
    case rel=>exact⟨i,H,rfl,rfl,hi,aQ,aQ,l1,λk h1 u=>by have:=L2.o k h1 u;omega,e,v⟩
    case measure=>simp[aL];omega
   .have hE0:¬E<0:=by rw[<-M,r6];exact hk
    have L1:aH (∀k,a<=k->k<H+1->¬(bM T m).bO<(bM T k).bO):=by
     have:=HH.o;subst this;exact MV (G.o.Le (bM T m)) (λk h1 u=>by have:=l1.o k h1 u;omega) hi I Z hk
    clear M hk l1;go_upto_region 17 with(fail)
    (have f:=bR.cell a0;have g:=bR.cell C;have l:=bR.cell a2;have n:=bR.cell b0;have p:=bR.cell b1;have r:=bR.cell b2;refine dA aV aV ?_;(repeat (go_big_quiet_step ((go_at_call 146;with_reducible exact gR (hc.o _)))));refine wpQuiet_nil ?_;clear f g l n p r;intro w5 s;have t:=bR.below s;clear s)
    replace e:=D.o.1.keep t;replace v:=D.o.2.below t;clear a0 C a2 b0 b1 b2 hc t D;go_wp2_with fail
    go_roundw
    case rel=>exact⟨H+1,j,by go_num,rfl,aQ,aQ,Z,λk h1 u=>by have:=L1.o k h1 u;omega,l2,e,v⟩
    case measure=>simp[aL];omega
  .obtain rfl:i=j:=aQ;go_wp2_with fail
   go_loopw [17] (λv17 ws=>∃(k:Nat) (T2:List Nt),v17= .int .i64 k/\i<=k/\k<=m/\qN a k X (bM T m) P S T2/\Rw B ws q c T2/\Sw q w ws) (λv17 _=>(aL v17).toNat)
   case atStart=>exact⟨m,T,rfl,aQ,aaH _,G.o.two V.o,e,v⟩
   case round=>
    clear e v;obtain⟨k,T2,rfl,hki,hkm,N,e,v⟩:=hrel;have O:aH (T2.length=L):=by
     have h1:=(G.o.two V.o).I5;have u:=N.I5;have:=U.o;unfold aH;omega
    by_cases hk:i<k
    .obtain⟨d,rfl⟩:∃d,k=d+1:=⟨k - 1,aQ⟩
     have k1:(i:Int)<(d:Int)+1:=aQ;have J:d+1<T2.length:=by have:=O.o;omega
     have K:d<T2.length:=by have:=O.o;omega
     have q3:(d:Int)+1<(L:Int):=aQ;have HA:=aP (N.down aQ);rw[ae7] at HA;clear N;have Q:aH (∀z,(wr.drewN z).there q ((d+1) *3) 3):=λz=>pB (e.drewN z) (aaJ J e.cap)
     have R:aH (∀z,((wr.drewN z).setCells q ((d+1) *3) (iX (bM T2 d))).there q (d *3) 3):=λz=>World.there_setCells (pB (e.drewN z) (aaJ K e.cap)) _ _ _
     have A:=aP (λz=>EH (e.drewN z) J K);obtain⟨a0,C,a2⟩:=nC e J;obtain⟨b0,b1,b2⟩:=nC e K;have HS:=aP v;clear e v;go_wp2_with fail
     refine jC [15,17] 220 aV aV bK ?_;repeat refine CH ?_
     refine yN ?_;intro nd;refine eT ?_;refine wpList_store_mid rfl 96 _ _ rfl q ((d+1) *3) (iX (bM T2 d)).toArray rfl rfl (Q.o nd) (rQ _) (uH _) ?_;refine wpList_store_mid rfl 96 _ _ rfl q (d *3) (iX (bM T2 (d+1))).toArray rfl rfl (R.o nd) (rQ _) (uH _) ?_;refine cP ?_;simp only[Act.put];refine rC (F:=Exit.inBlock _ _ _ _) (λW=>Rw B W q c (swp T2 (d+1) d)/\Sw q w W) ⟨(A.o nd).1,(HS.o.drewN nd).trans (A.o nd).2⟩ ?_;rintro w6 ⟨hW6,hS6⟩;clear a0 C a2 b0 b1 b2 Q R A HS;go_wp2_with fail
     go_roundw
     case rel=>exact⟨d,_,by go_num,aQ,aQ,HA.o,hW6,hS6⟩
     case measure=>simp[aL]
    .have k1:¬(i:Int)<(k:Int):=aQ;obtain rfl:k=i:=aQ;have HD:=aP (G.o.Vj V.o hi Z (λk h1 u=>by have:=l1.o k h1 u;omega) (λk h1 u=>by have:=l2.o k h1 u;omega) N);clear N;go_wp2_with fail
     go_end0
     exact⟨rfl,⟨_,e,HD.o⟩,v⟩
end Nt
namespace Nt
def Sp(n:Nat):Prop:=∀(B q c L a m b:Nat) (T P X Y S:List Nt) (w:aA),b - a<=n->Rw B w q c T->aH (T.length=L)->Mg T a m b P X Y S->a<m->m<b->b<=L->L<=1000->
 aG prog 233 #[.slice q L c,a,m,b, .func (.func 146) #[] #[]] w (MX B q c T a b w)
theorem Pe(n:Nat)(ih:Sp n)(B q c L a m b:Nat)(T P X Y S:List Nt)(w:aA)(h:Rw B w q c T)(hL:aH (T.length=L))(hM:Mg T a m b P X Y S)(hn:b - a<=n+1)(h0:a+1<m)(h1:m+1<b)(hb:b<=L)(h3:L<=1000):
 aG prog 233 #[.slice q L c,a,m,b, .func (.func 146) #[] #[]] w (MX B q c T a b w):=by
 have HM:=aP hM;have IH:=aP ih;obtain⟨dL,hmid⟩:∃dL,dL=(a+b) /2:=⟨_,rfl⟩
 have eM:((a:Int)+(b:Int)) /2=(dL:Int):=aQ;have m1:a<dL:=aQ;have m2:dL<b:=aQ;obtain⟨n0,hn0⟩:∃n0,n0=dL+m:=⟨_,rfl⟩
 have eN:(dL:Int)+(m:Int)=(n0:Int):=aQ;have n1:n0<=2000:=aQ;obtain⟨p,hp⟩:∃p,p=n0 - 1:=⟨_,rfl⟩
 have eP:(n0:Int) - 1=(p:Int):=aQ;have D:=aP hmid;have U:=aP hn0;have HPP:=aP hp;have HNN:=aP hn;clear hM ih hmid hn0 hp hn;go_enter func233,ntmps233
 go_upto_if 140 with(fail)
 go_cut [20,21,141,142,143,144,145,146] (λs20 s21 _ _ _ _ _ _ F=>∃s0 r0:Nat,s20= .int .i64 s0/\s21= .int .i64 r0/\aH (s0=if dL<m then dL+m - b else a)/\aH (r0=if dL<m then dL else m)/\Rw B F q c T/\Sw q w F)
 case first=>
  as_aux_lemma=>
   by_cases hc:dL<m
   .have c1:(dL:Int)<(m:Int):=aQ;obtain⟨s1,hs1⟩:∃s1,s1=dL+m - b:=⟨_,rfl⟩
    have eS:(n0:Int) - (b:Int)=(s1:Int):=by have:=U.o;have:=D.o;omega
    have HS1:aH (s1=if dL<m then dL+m - b else a):=by unfold aH;rw[aaK hc];exact hs1
    have HR1:aH (dL=if dL<m then dL else m):=by unfold aH;rw[aaK hc]
    clear hs1 hc;go_wp2_with fail
    go_meet
    exact⟨s1,dL,rfl,rfl,HS1,HR1,h,Sw.refl _⟩
   .have c1:¬(dL:Int)<(m:Int):=aQ;have HS1:aH (a=if dL<m then dL+m - b else a):=by unfold aH;rw[aaL hc]
    have HR1:aH (m=if dL<m then dL else m):=by unfold aH;rw[aaL hc]
    clear hc;go_wp2_with fail
    go_meet
    exact⟨a,m,rfl,rfl,HS1,HR1,h,Sw.refl _⟩
 case rest=>
  obtain⟨s0,r0,rfl,rfl,V,Q,h5,hS5⟩:=hcut;clear h;have g1:a<=s0:=by have h1:=V.o;have:=D.o;split at h1 <;> omega
  have g2:s0<=r0:=by have h1:=V.o;have s:=Q.o;have:=D.o;split at h1 <;> split at s <;> omega
  have g3:r0<=m:=by have:=Q.o;split at this <;> omega
  have g4:r0<=dL:=by have:=Q.o;split at this <;> omega
  have hp1:aH (∀c,s0<=c->c<r0->m<=p - c/\p - c<b/\c<=p):=λc e1 e2=>by
   have h1:=V.o;have s:=Q.o;have:=D.o;have:=U.o;have:=HPP.o;split at h1 <;> split at s <;> omega
  go_upto_region 33 with(fail)
  go_wp2_with fail
  go_loopw [20,21] (λv20 v21 wr=>∃i j:Nat,v20= .int .i64 i/\v21= .int .i64 j/\s0<=i/\i<=j/\j<=r0/\aH (∀k,s0<=k->k<i->¬(bM T (p - k)).bO<(bM T k).bO)/\aH (∀k,j<=k->k<r0->¬¬(bM T (p - k)).bO<(bM T k).bO)/\Rw B wr q c T/\Sw q w wr) (λv20 v21 _=>(aL v21).toNat - (aL v20).toNat)
  case atStart=>exact⟨s0,r0,rfl,rfl,aaH _,g2,aaH _,λk h1 s=>by omega,λk h1 s=>by omega,h5,hS5⟩
  case round=>
   clear h5 hS5;obtain⟨i,j,rfl,rfl,hi,hij,hj,l1,l2,M,O⟩:=hrel;by_cases hlt:i<j
   .have k1:(i:Int)<(j:Int):=aQ;obtain⟨H,hH⟩:∃H,H=(i+j) /2:=⟨_,rfl⟩
    have eH:((i:Int)+(j:Int)) /2=(H:Int):=aQ;have hH1:i<=H:=aQ;have hH2:H<j:=aQ;have HH:=aP hH;clear hH;have hpp:=hp1.o H aQ aQ;obtain⟨d,hd⟩:∃d,d=p - H:=⟨_,rfl⟩
    have eD:(p:Int) - (H:Int)=(d:Int):=aQ;have hdL:d<L:=aQ;have hI:d<T.length:=by have:=hL.o;omega
    have hJ:H<T.length:=by have:=hL.o;omega
    have q1:H<L:=aQ;have HD:=aP hd;clear hd hpp;obtain⟨a0,a1,a2⟩:=nC M hI;obtain⟨b0,b1,b2⟩:=nC M hJ;have hc:=aP (λW=>yH (bM T d).eO (bM T d).fV (bM T d).bO (bM T H).eO (bM T H).fV (bM T H).bO W);obtain⟨E,hE⟩:∃E,tM (bM T d).bO (bM T H).bO=E:=⟨_,rfl⟩
    rw[hE] at hc;have r:=bH M O;clear M O;by_cases hk:(bM T d).bO<(bM T H).bO
    .as_aux_lemma=>
      have hE0:E<0:=by rw[<-hE,r6];exact hk
      have L2:aH (∀k,H<=k->k<r0->¬¬(bM T (p - k)).bO<(bM T k).bO):=by
       have h5:=HH.o;have h6:=HD.o;subst h6;subst h5;exact F1 (HM.o.Ls g1 g3 hp1.o) hi hlt (not_not_intro hk)
      clear hE hk l2;go_upto_region 35 with(fail)
      (have t:=bR.cell a0;have u:=bR.cell a1;have v:=bR.cell a2;have x:=bR.cell b0;have y:=bR.cell b1;have z:=bR.cell b2;refine dA aV aV ?_;(repeat (go_big_quiet_step ((go_at_call 146;with_reducible exact gR (hc.o _)))));refine wpQuiet_nil ?_;clear t u v x y z;intro w5 I;have N:=bR.below I;clear I)
      replace M:=r.o.1.keep N;replace O:=r.o.2.below N;clear a0 a1 a2 b0 b1 b2 hc N r;go_wp2_with fail
      go_roundw
      case rel=>exact⟨i,H,rfl,rfl,hi,aQ,aQ,λk h1 s=>by have:=l1.o k h1 s;omega,λk h1 s=>by have:=L2.o k h1 s;omega,M,O⟩
      case measure=>simp[aL];omega
    .as_aux_lemma=>
      have hE0:¬E<0:=by rw[<-hE,r6];exact hk
      have L1:aH (∀k,s0<=k->k<H+1->¬(bM T (p - k)).bO<(bM T k).bO):=by
       have h5:=HH.o;have h6:=HD.o;subst h6;subst h5;exact MV (p:=λk=>¬(bM T (p - k)).bO<(bM T k).bO) (HM.o.Ls g1 g3 hp1.o) (λk h1 s=>by have:=l1.o k h1 s;omega) hi hlt hj hk
      clear hE hk l1;go_upto_region 35 with(fail)
      (have t:=bR.cell a0;have u:=bR.cell a1;have v:=bR.cell a2;have x:=bR.cell b0;have y:=bR.cell b1;have z:=bR.cell b2;refine dA aV aV ?_;(repeat (go_big_quiet_step ((go_at_call 146;with_reducible exact gR (hc.o _)))));refine wpQuiet_nil ?_;clear t u v x y z;intro w5 I;have N:=bR.below I;clear I)
      replace M:=r.o.1.keep N;replace O:=r.o.2.below N;clear a0 a1 a2 b0 b1 b2 hc N r;go_wp2_with fail
      go_roundw
      case rel=>exact⟨H+1,j,by go_num,rfl,aQ,aQ,hj,λk h1 s=>by have:=L1.o k h1 s;omega,λk h1 s=>by have:=l2.o k h1 s;omega,M,O⟩
      case measure=>simp[aL];omega
   .obtain rfl:i=j:=aQ;obtain⟨X1,Z,Y1,Y2,hC⟩:=HM.o.cut D.o (HPP.o.trans (by rw[U.o])) V.o Q.o hi hj (λk h1 s=>by have:=l1.o k h1 s;omega) (λk h1 s=>by have:=l2.o k h1 s;omega);obtain⟨e,he⟩:∃e,e=dL+m - i:=⟨_,rfl⟩
    rw[<-he] at hC;have eE:(n0:Int) - (i:Int)=(e:Int):=by have:=U.o;omega
    have x1:i<=m:=aQ;have x2:m<=e:=aQ;have x3:e<=b:=by have:=hC.yb;omega
    have x4:i<=dL:=aQ;have x5:a<=i:=aQ;have HE:aH (dL=i+(e - m)):=by unfold aH;omega
    have hGL:aH ((P++X1++Y1++Z++Y2++S).length=L):=by
     have h1:=hL.o;rw[hC.eq] at h1;unfold aH;simp at h1⊢;omega
    have HC:=aP hC;clear hC he;obtain⟨G,hG⟩:∃G,G=P++X1++Y1++Z++Y2++S:=⟨_,rfl⟩
    rw[<-hG] at hGL;have HG:=aP hG;clear hG;have r:=bH M O;clear M O;go_upto_region 39 with(fail)
    go_cut [185] (λsv F=>∃bv:Bool,sv= .bool bv/\aH (bv=decide (i<m/\m<e))/\Rw B F q c T/\Sw q w F)
    case first=>
     as_aux_lemma=>
      by_cases c1:i<m
      .have c3:(i:Int)<(m:Int):=aQ;by_cases c2:m<e
       .have c4:(m:Int)<(e:Int):=aQ;have HD:aH (true=decide (i<m/\m<e)):=by unfold aH;simp[c1,c2]
        go_wp2_with fail
        go_meet
        exact⟨_,rfl,HD,r.o⟩
       .have c4:¬(m:Int)<(e:Int):=aQ;have HD:aH (false=decide (i<m/\m<e)):=by unfold aH;simp[c2]
        go_wp2_with fail
        go_meet
        exact⟨_,rfl,HD,r.o⟩
      .have c3:¬(i:Int)<(m:Int):=aQ;have HD:aH (false=decide (i<m/\m<e)):=by unfold aH;simp[c1]
       go_wp2_with fail
       go_meet
       exact⟨_,rfl,HD,r.o⟩
    case rest=>
    obtain⟨bv,rfl,J,R⟩:=hcut;go_upto_if 185 with(fail)
    obtain⟨M,O⟩:=R;clear r;go_cut [] (λF=>Rw B F q c G/\Sw q w F)
    case first=>
     as_aux_lemma=>
      by_cases f:i<m/\m<e
      .have hrot:=aP (VI B q c L i m e T G _ M hL f.1 f.2 aQ (by rw[HG.o];exact HC.o.Zw f.1 f.2) h3 (.func (.func 146) #[] #[]));obtain rfl:bv=true:=by rw[J.o];simpa using f
       clear M f;go_wp2_with fail
       refine hrot.o.mono ?_;rintro e2 w2 ⟨rfl,g,l⟩;go_wp2_with fail
       go_meet
       exact⟨g,O.trans l⟩
      .have hW':Rw B wc q c G:=by rw[HG.o,<-HC.o.Vw f];exact M
       have r:=bH hW' O;obtain rfl:bv=false:=by rw[J.o];simpa using f
       clear M hW' O f;go_wp2_with fail
       go_meet
       exact r.o
    case rest=>
    obtain⟨A,K⟩:=hcut;clear M O;have r:=bH A K;clear A K;go_upto_region 41 with(fail)
    go_cut [199] (λsv F=>∃bv:Bool,sv= .bool bv/\aH (bv=decide (a<i/\i<dL))/\Rw B F q c G/\Sw q w F)
    case first=>
     as_aux_lemma=>
      by_cases c1:a<i
      .have c3:(a:Int)<(i:Int):=aQ;by_cases c2:i<dL
       .have c4:(i:Int)<(dL:Int):=aQ;have HD:aH (true=decide (a<i/\i<dL)):=by unfold aH;simp[c1,c2]
        go_wp2_with fail
        go_meet
        exact⟨_,rfl,HD,r.o⟩
       .have c4:¬(i:Int)<(dL:Int):=aQ;have HD:aH (false=decide (a<i/\i<dL)):=by unfold aH;simp[c2]
        go_wp2_with fail
        go_meet
        exact⟨_,rfl,HD,r.o⟩
      .have c3:¬(a:Int)<(i:Int):=aQ;have HD:aH (false=decide (a<i/\i<dL)):=by unfold aH;simp[c1]
       go_wp2_with fail
       go_meet
       exact⟨_,rfl,HD,r.o⟩
    case rest=>
    obtain⟨bv,rfl,J,R⟩:=hcut;go_upto_if 199 with(fail)
    obtain⟨A,K⟩:=R;clear r;go_cut [] (λF=>(∃C,Rw B F q c (P++C++Z++Y2++S)/\C.Perm (X1++Y1)/\sX C)/\Sw q w F)
    case first=>
     as_aux_lemma=>
      have HL2:=aP (HC.o.left HE.o);by_cases f:a<i/\i<dL
      .have hs:=aP (IH.o B q c L a i dL G P X1 Y1 (Z++Y2++S) _ (by have:=HNN.o;omega) A hGL (by rw[HG.o];exact HL2.o) f.1 f.2 aQ h3);obtain rfl:bv=true:=by rw[J.o];simpa using f
       clear A f;go_wp2_with fail
       refine hs.o.mono ?_;rintro e2 w2 ⟨rfl,⟨T',g,hD⟩,l⟩;rw[HG.o] at hD;obtain⟨C,rfl,z2,z3⟩:=HC.o.half HE.o hD;have HZ:aH ((∃C,Rw B w2 q c (P++C++Z++Y2++S)/\C.Perm (X1++Y1)/\sX C)/\Sw q w w2):=⟨⟨C,g,z2,z3⟩,K.trans l⟩
       clear g z2 z3 hD l K;go_wp2_with fail
       go_meet
       exact HZ.o
      .have hD:=HL2.o.idle f;obtain⟨C,e1,z2,z3⟩:=HC.o.half HE.o hD;rw[HG.o,e1] at A;have HZ:aH ((∃C,Rw B wc q c (P++C++Z++Y2++S)/\C.Perm (X1++Y1)/\sX C)/\Sw q w wc):=⟨⟨C,A,z2,z3⟩,K⟩
       obtain rfl:bv=false:=by rw[J.o];simpa using f
       clear A z2 z3 hD e1 K f;go_wp2_with fail
       go_meet
       exact HZ.o
    case rest=>
    obtain⟨⟨C,g,z2,z3⟩,l⟩:=hcut;clear A K;have HR2:=aP (HC.o.right HE.o z2);have hGL2:aH ((P++C++Z++Y2++S).length=L):=by
     have h1:=z2.length_eq;have s:=hGL.o;rw[HG.o] at s;unfold aH;simp at h1 s⊢;omega
    have r:=bH g l;have HZZ:=bH z2 z3;clear g l z2 z3;go_upto_region 43 with(fail)
    go_cut [213] (λsv F=>∃bv:Bool,sv= .bool bv/\aH (bv=decide (dL<e/\e<b))/\Rw B F q c (P++C++Z++Y2++S)/\Sw q w F)
    case first=>
     as_aux_lemma=>
      by_cases c1:dL<e
      .have c3:(dL:Int)<(e:Int):=aQ;by_cases c2:e<b
       .have c4:(e:Int)<(b:Int):=aQ;have HD:aH (true=decide (dL<e/\e<b)):=by unfold aH;simp[c1,c2]
        go_wp2_with fail
        go_meet
        exact⟨_,rfl,HD,r.o⟩
       .have c4:¬(e:Int)<(b:Int):=aQ;have HD:aH (false=decide (dL<e/\e<b)):=by unfold aH;simp[c2]
        go_wp2_with fail
        go_meet
        exact⟨_,rfl,HD,r.o⟩
      .have c3:¬(dL:Int)<(e:Int):=aQ;have HD:aH (false=decide (dL<e/\e<b)):=by unfold aH;simp[c1]
       go_wp2_with fail
       go_meet
       exact⟨_,rfl,HD,r.o⟩
    case rest=>
    obtain⟨bv,rfl,J,R⟩:=hcut;go_upto_if 213 with(fail)
    obtain⟨g,l⟩:=R;clear r;by_cases f:dL<e/\e<b
    .as_aux_lemma=>
      have hs:=aP (IH.o B q c L dL e b _ (P++C) Z Y2 S _ (by have:=HNN.o;omega) g hGL2 HR2.o f.1 f.2 hb h3);have HZ:=aP (λT2=>HC.o.done HE.o HZZ.o.1 HZZ.o.2 (T2:=T2));obtain rfl:bv=true:=by rw[J.o];simpa using f
      clear g f;go_wp2_with fail
      refine hs.o.mono ?_;rintro e2 w2 ⟨rfl,⟨T',hW3,hD⟩,hS3⟩;have HF:aH (MX B q c T a b w (.returned (.tuple #[])) w2):=⟨rfl,⟨T',hW3,HZ.o T' hD⟩,l.trans hS3⟩
      clear hW3 hD hS3 l;go_wp2_with fail
      go_end0
      exact HF.o
    .as_aux_lemma=>
      have HF:aH (MX B q c T a b w (.returned (.tuple #[])) wc):=⟨rfl,⟨_,g,HC.o.done HE.o HZZ.o.1 HZZ.o.2 (HR2.o.idle f)⟩,l⟩
      obtain rfl:bv=false:=by rw[J.o];simpa using f
      clear g l f;go_wp2_with fail
      go_end0
      exact HF.o
theorem UE:∀n,Sp n
 |0=>λB q c L a m b T P X Y S w j=>by intros;omega
 |n+1=>λB q c L a m b T P X Y S w j d e f h1 k g h=>by
  by_cases l:m=a+1
  .exact Pp B q c L a m b T P X Y S w d e f l k g h
  .by_cases i:b=m+1
   .exact Nj B q c L a m b T P X Y S w d e f i aQ g h
   .exact Pe n (UE n) B q c L a m b T P X Y S w d e f j aQ aQ g h
end Nt
end
section
section
namespace Nt
structure GP(T T':List Nt)(a b:Nat):Prop where
 len:T'.length=T.length
 perm:T'.Perm T
 mG:∀i,i<a\/b<=i->bM T' i=bM T i
 Yo:∀i,a<=i->i<b->∃j,a<=j/\j<b/\bM T' i=bM T j
 so:∀i j,a<=i->i<j->j<b->lX (bM T' i) (bM T' j)
variable{T T':List Nt}
theorem yS.P4{a b:Nat}(h:yS T T' a b):GP T T' a b:=by
 obtain⟨P,Q,Z,S,rfl,rfl,rfl,rfl,hp,hs⟩:=h;have d:=hp.length_eq;have q1:∀(R:List Nt) i,P.length<=i->i<P.length+R.length->bM (P++R++S) i=bM R (i - P.length):=λR i h1 c=>by
  rw[mB bL,uC h1]
 refine⟨bL,?_,λi hi=>?_,λi h1 c=>?_,λi j h1 c e=>?_⟩
 .exact afF S (List.Perm.append_left P hp)
 .rcases hi with hi|hi
  .rw[mB bL,mB hi,mB bL,mB hi]
  .rw[uC bL,uC bL];congr 1
   simp;omega
 .rw[q1 Z i h1 aQ];have hm:bM Z (i - P.length)∈Q:=hp.mem_iff.1 (Nq aQ);obtain⟨j,f,he⟩:=vX hm;exact⟨P.length+j,aQ,aQ,by rw[q1 Q _ aQ aQ,acM,he]⟩
 .rw[q1 Z i h1 aQ,q1 Z j aQ aQ];exact Cr hs aQ aQ
theorem xJ{X:List Nt}(h:∀i j,i<j->j<X.length->lX (bM X i) (bM X j)):sX X:=
 ab6.2 λi j hi b a=>by
  have:=h i j a b;rwa [kU hi,kU b] at this
theorem VW(T:List Nt){a b:Nat}(h1:a<=b)(c:b<=T.length):T=T.take a++(T.drop a).take (b - a)++T.drop b/\(T.take a).length=a/\a+((T.drop a).take (b - a)).length=b:=by
 refine⟨?_,by rw[aa9];omega,by rw[aa9,abY];omega⟩;conv=>lhs;rw[<-List.take_append_drop a T,<-List.take_append_drop (b - a) (T.drop a)]
 rw[ad7,abA,show a+(b - a)=b by omega]
variable{i:Nat}
theorem uO{a b:Nat}(h1:a<=b)(c:b<=T.length)(hi:i<b - a):bM ((T.drop a).take (b - a)) i=bM T (a+i):=by
 obtain⟨e,l1,d⟩:=VW T h1 c;have:bM (T.take a++(T.drop a).take (b - a)++T.drop b) (a+i)=bM ((T.drop a).take (b - a)) i:=by
  rw[mB (by rw[aaT];omega),uC aQ,l1,acM]
 rw[<-e] at this;exact this.symm
variable{m:Nat}
theorem Vq{a b:Nat}(h1:a<=m)(c:m<=b)(d:b<=T.length)(s1:∀i j,a<=i->i<j->j<m->lX (bM T i) (bM T j))(s2:∀i j,m<=i->i<j->j<b->lX (bM T i) (bM T j))(tg:∀i j,a<=i->i<m->m<=j->j<b->(bM T i).iB<(bM T j).iB):
 Mg T a m b (T.take a) ((T.drop a).take (m - a)) ((T.drop m).take (b - m)) (T.drop b):=by
 obtain⟨g,l1,h⟩:=VW T h1 (by omega:m<=T.length);obtain⟨n,o,l4⟩:=VW T c d;refine⟨?_,l1,h,l4,xJ λi j e f=>?_,xJ λi j e f=>?_,λx k y l=>?_⟩
 .conv=>lhs;rw[g]
  rw[abA,abA,abA];congr 2
  conv=>lhs;rw[<-List.take_append_drop (b - m) (T.drop m)]
  rw[ad7,show m+(b - m)=b by omega]
 .rw[uO h1 aQ aQ,uO h1 aQ aQ];exact s1 _ _ aQ aQ aQ
 .rw[uO c d aQ,uO c d aQ];exact s2 _ _ aQ aQ aQ
 .obtain⟨i,hi,rfl⟩:=vX k;obtain⟨j,f,rfl⟩:=vX l;rw[uO h1 aQ aQ,uO c d aQ];exact tg _ _ aQ aQ aQ aQ
structure gW(T0 T:List Nt)(s t a:Nat):Prop where
 p:T.Perm T0
 lo:∀i j,i<j->j<a->i /t=j /t->lX (bM T i) (bM T j)
 hi:∀i j,a<=i->i<j->j<T.length->i /s=j /s->lX (bM T i) (bM T j)
 tg:∀i j,i<T.length->j<T.length->i /t<j /t->(bM T i).iB<(bM T j).iB
 ts:∀i j,a<=i->i<T.length->j<T.length->i /s<j /s->(bM T i).iB<(bM T j).iB
variable{j:Nat}
theorem CB{t:Nat}(h:i<=j):i /t<=j /t:=Nat.div_le_div_right h
variable{T0:List Nt}
theorem gW.step{s t a b k:Nat}(h:gW T0 T s t a)(hd:GP T T' a b)(u:0<t)(v:a=k *t)(B:b<=T.length)(x:b<=a+t)(c:b=a+t\/b=T.length):gW T0 T' s t b:=by
 have f:∀i,a<=i->i<b->i /t=k:=λi h1 g=>by
  subst v;exact aeY aQ (by rw[acN];omega)
 have m:∀i,i<a->i /t<k:=λi h1=>aeO (by rw[adK];omega)
 have y:∀i,b<=i->i<T.length->k<i /t:=λi h1 g=>by
  rcases c with l|l
  .exact aaJ (Nat.lt_succ_self k) ((Nat.le_div_iff_mul_le u).2 (by rw[aeE];omega))
  .omega
 have src:∀i,i<T.length->∃j,j<T.length/\j /t=i /t/\bM T' i=bM T j/\(i<a->j=i)/\(b<=i->j=i):=λi hi=>by
  by_cases h1:i<a
  .exact⟨i,hi,rfl,hd.mG i (.inl h1),λ_=>rfl,λ_=>rfl⟩
  .by_cases g:i<b
   .obtain⟨j,n,r,o⟩:=hd.Yo i aQ g;exact⟨j,aQ,by rw[f i aQ g,f j n r],o,λh=>absurd h h1,λh=>by omega⟩
   .exact⟨i,hi,rfl,hd.mG i (.inr aQ),λ_=>rfl,λ_=>rfl⟩
 refine⟨hd.perm.trans h.p,λi j d e hq=>?_,λi j hi d e hq=>?_,λi j hi e hq=>?_,λi j q hi e hq=>?_⟩
 .by_cases h1:j<a
  .rw[hd.mG i (.inl aQ),hd.mG j (.inl h1)];exact h.lo i j d h1 hq
  .by_cases g:i<a
   .have:=m i g;have:=f j aQ e;omega
   .exact hd.so i j aQ d e
 .rw[hd.len] at e;rw[hd.mG i (.inr hi),hd.mG j (.inr aQ)];by_cases h1:a<=i
  .exact h.hi i j h1 d e hq
  .rcases c with l|l
   .omega
   .omega
 .rw[hd.len] at hi e;obtain⟨z,i1,i2,i3,_⟩:=src i hi;obtain⟨A,n,r,o,_⟩:=src j e;rw[i3,o];exact h.tg z A i1 n aQ
 .rw[hd.len] at hi e;by_cases h1:a<=i
  .have d:i<j:=afL λh=>by have:=CB (t:=s) h;omega
   rw[hd.mG i (.inr q),hd.mG j (.inr aQ)];exact h.ts i j h1 hi e hq
  .rcases c with l|l <;> omega
theorem GP.idle{a b:Nat}(h:∀i j,a<=i->i<j->j<b->lX (bM T i) (bM T j)):GP T T a b:=
 ⟨rfl, .refl _,λ_ _=>rfl,λi h1 c=>⟨i,h1,c,rfl⟩,h⟩
theorem gW.Uk(b:∀i j,i<j->j<T.length->(bM T i).iB<(bM T j).iB)(t:Nat):gW T T 1 t 0:=by
 refine⟨.refl _,λi j _ a=>by omega,λi j _ c a hq=>by simp at hq;omega,λi j hi a hq=>?_,λi j _ hi a hq=>?_⟩
 .exact b i j (afL λh=>by have:=CB (t:=t) h;omega) a
 .exact b i j (afL λh=>by have:=CB (t:=1) h;omega) a
theorem gW.next{s t:Nat}(h:gW T0 T s t T.length)(c:0<t):gW T0 T t (2 *t) 0:=by
 refine⟨h.p,λi j _ a=>by omega,λi j _ b a hq=>h.lo i j b a hq,λi j hi a hq=>h.tg i j hi a ?_,λi j _ hi a hq=>h.tg i j hi a hq⟩;rw[adK,<-Nat.div_div_eq_div_mul,<-Nat.div_div_eq_div_mul] at hq;exact afL λh=>by have:=CB (t:=2) h;omega
theorem gW.all{s t:Nat}(h:gW T0 T s t T.length)(c:T.length<=t):sX T:=
 xJ λi j a b=>h.lo i j a b (by rw[Nat.div_eq_of_lt aQ,Nat.div_eq_of_lt aQ])
theorem gW.merge{s a b k:Nat}(h:gW T0 T s (2 *s) a)(hs:0<s)(e:a=k *(2 *s))(h1:a+s<=b)(m:b<=a+2 *s)(f:b<=T.length):
 Mg T a (a+s) b (T.take a) ((T.drop a).take (a+s - a)) ((T.drop (a+s)).take (b - (a+s))) (T.drop b):=by
 have c:∀i,a<=i->i<a+s->i /s=2 *k:=λi g l=>by
  have:a=(2 *k) *s:=by rw[e];simp[adK,Nat.mul_left_comm]
  exact aeY aQ (by rw[aeE];omega)
 have d:∀i,a+s<=i->i<b->i /s=2 *k+1:=λi g l=>by
  have:a=(2 *k) *s:=by rw[e];simp[adK,Nat.mul_left_comm]
  exact aeY (by rw[aeE];omega) (by rw[aeE,aeE];omega)
 exact Vq aQ h1 f (λi j i1 i2 i3=>h.hi i j i1 i2 aQ (by rw[c i i1 aQ,c j aQ i3])) (λi j i1 i2 i3=>h.hi i j aQ i2 aQ (by rw[d i i1 aQ,d j aQ i3])) (λi j i1 i2 i3 i4=>h.ts i j i1 aQ aQ (by rw[c i i1 i2,d j i3 i4];omega))
theorem gW.tail{s a k:Nat}(h:gW T0 T s (2 *s) a)(hs:0<s)(c:a=k *(2 *s))(h1:T.length<=a+s):GP T T a T.length:=by
 have b:∀i,a<=i->i<T.length->i /s=2 *k:=λi d e=>by
  have:a=(2 *k) *s:=by rw[c];simp[adK,Nat.mul_left_comm]
  exact aeY aQ (by rw[aeE];omega)
 exact GP.idle λi j i1 i2 i3=>h.hi i j i1 i2 i3 (by rw[b i i1 aQ,b j aQ i3])
theorem gW.tags{t a b:Nat}(h:gW T0 T 1 t a)(h1:a<=b)(c:b<=T.length):((T.drop a).take (b - a)).Pairwise λx y=>x.iB<y.iB:=
 ab6.2 λi j hi d g=>by
  have li:i<b - a:=by simp at hi;omega
  have k:j<b - a:=by simp at d;omega
  have e:=uO h1 c li;have f:=uO h1 c k;rw[kU hi] at e;rw[kU d] at f;rw[e,f];exact h.ts _ _ aQ aQ aQ bL
end Nt
end
end
section
open Go.RowKit Go.Lib
section
namespace Nt
def Lk(B q c:Nat)(T:List Nt)(w:aA)(e:Ending)(w':aA):Prop:=e= .returned (.tuple #[])/\(∃T',Rw B w' q c T'/\sX T'/\T'.Perm T)/\Sw q w w'
variable{q n:Nat}{T T':List Nt}
theorem IX{B c a b k:Nat}(w:aA)(h:Rw B w q c T')(g:gW T T' 1 20 a)(i:T'.length=n)(l:a=k *20)(d:a<=b)(s:b<=n)(f:b<=a+20)(t:b=a+20\/b=n)(m:n<=1000):
 aG prog 232 #[.slice q n c,a,b, .func (.func 146) #[] #[]] w λe w'=>e= .returned (.tuple #[])/\(∃T2,Rw B w' q c T2/\gW T T2 1 20 b/\T2.length=n)/\Sw q w w':=by
 obtain⟨o,l1,p⟩:=VW T' d aQ;refine(W5 B q c n a b _ _ _ T' w o.symm h i l1 p (g.tags d aQ) m).mono ?_;rintro e w' ⟨rfl,⟨T2,h1,r⟩,h4⟩;have j:=r.P4;exact⟨rfl,⟨T2,h1,g.step j aQ l aQ f aQ,j.len.trans i⟩,h4⟩
theorem LD{B c a b k s:Nat}(w:aA)(h:Rw B w q c T')(g:gW T T' s (2 *s) a)(i:T'.length=n)(j:a=k *(2 *s))(hs:0<s)(f:a+s<b)(m:b<=n)(d:b<=a+2 *s)(t:b=a+2 *s\/b=n)(o:n<=1000):
 aG prog 233 #[.slice q n c,a, .int .i64 ((a:Int)+(s:Int)),b, .func (.func 146) #[] #[]] w λe w'=>e= .returned (.tuple #[])/\(∃T2,Rw B w' q c T2/\gW T T2 s (2 *s) b/\T2.length=n)/\Sw q w w':=by
 have p:=g.merge (k:=k) hs j aQ d (by omega:b<=T'.length);have:=UE (b - a) B q c n a (a+s) b T' _ _ _ _ w (aaH _) h i p aQ f m o;rw[show((a+s:Nat):Int)=(a:Int)+(s:Int) by omega] at this;refine this.mono ?_;rintro e w' ⟨rfl,⟨T2,h1,r⟩,h4⟩;have l:=r.P4;exact⟨rfl,⟨T2,h1,g.step l aQ j aQ d aQ,l.len.trans i⟩,h4⟩
theorem WK(B q c n:Nat)(T:List Nt)(w:aA)(h:Rw B w q c T)(hn:aH (T.length=n))(Y:∀i j,i<j->j<T.length->(bM T i).iB<(bM T j).iB)(R:n<=1000):
 aG prog 190 #[.slice q n c,n, .func (.func 146) #[] #[]] w (Lk B q c T w):=by
 have N:=aP (gW.Uk Y 20);clear Y;go_enter func190,ntmps190
 go_wp2_with fail
 go_loopw [7,8] (λL v8 wr=>∃(a b k:Nat) (u:List Nt),L= .int .i64 a/\v8= .int .i64 b/\aH (a=k *20)/\aH (b=a+20)/\a<=n/\aH (gW T u 1 20 a/\u.length=n)/\Rw B wr q c u/\Sw q w wr) (λL _ _=>n - (aL L).toNat)
 case atStart=>exact⟨0,20,0,T,rfl,rfl,rfl,rfl,aaQ _,⟨N.o,hn.o⟩,h,Sw.refl _⟩
 case round=>
  clear h N;obtain⟨a,b,k,u,rfl,rfl,E,l,O,g,r,x⟩:=hrel;have S:b<=n+20:=by have:=l.o;omega
  by_cases y:b<=n
  .have U:(b:Int)<=(n:Int):=aQ;have hc:=aP (IX wr r g.o.1 g.o.2 E.o (by have:=l.o;omega) y (by have:=l.o;omega) (.inl l.o) R);clear r;go_wp2_with fail
   refine aR hc ?_;rintro e V ⟨rfl,⟨T2,F,z,v⟩,G⟩;have H:=bH z v;clear hc z v;go_wp2_with fail
   go_roundw
   case rel=>exact⟨b,b+20,k+1,T2,rfl,by go_num,by have:=E.o;have:=l.o;unfold aH;omega,rfl,y,H,F,x.trans G⟩
   case measure=>have:=l.o;simp[aL];omega
  .have U:¬(b:Int)<=(n:Int):=aQ;have hc:=aP (IX wr r g.o.1 g.o.2 E.o O (aaH _) (by have:=l.o;omega) (.inr rfl) R);clear r;go_wp2_with fail
   refine aR hc ?_;rintro e V ⟨rfl,⟨T2,F,z,v⟩,G⟩;have H:aH (∃s',gW T T2 s' 20 T2.length/\T2.length=n):=⟨1,by rw[v];exact z,v⟩
   have P:=x.trans G;clear hc z v x G g;go_wp2_with fail
   go_loopw [6,7,8,9] (λv6 L v8 v9 ws=>∃(s:Nat) (u:List Nt),v6= .int .i64 s/\0<s/\s<=2000/\aH (∃s',gW T u s' s u.length/\u.length=n)/\Rw B ws q c u/\Sw q w ws) (λv6 _ _ _ _=>4000 - (aL v6).toNat)
   case atStart=>exact⟨20,T2,rfl,aQ,aQ,H,F,P⟩
   case round=>
    clear H F P;obtain⟨s,M,rfl,I,hs1,J,r,x⟩:=hrel;by_cases hsn:s<n
    .have j1:(s:Int)<(n:Int):=aQ;have Q:aH (gW T M s (2 *s) 0/\M.length=n):=by
      obtain⟨s',h1,Z⟩:=J.o;exact⟨h1.next I,Z⟩
     clear J;obtain⟨d,hd⟩:∃d,d=2 *s:=⟨_,rfl⟩
     have eD:(2:Int) *(s:Int)=(d:Int):=aQ;have hd1:d<=4000:=aQ;have HD:=aP hd;clear hd;go_wp2_with fail
     go_loopw [7,8] (λL v8 wt=>∃(a b k:Nat) (u:List Nt),L= .int .i64 a/\v8= .int .i64 b/\aH (a=k *(2 *s))/\aH (b=a+2 *s)/\a<=n/\aH (gW T u s (2 *s) a/\u.length=n)/\Rw B wt q c u/\Sw q w wt) (λL _ _=>n - (aL L).toNat)
     case atStart=>exact⟨0,d,0,M,rfl,rfl,by unfold aH;omega,by have:=HD.o;unfold aH;omega,aaQ _,Q,r,x⟩
     case round=>
      clear r x Q;obtain⟨a,b,k,T4,rfl,rfl,E,l,O,g,r,x⟩:=hrel;have S:b<=n+4000:=by have:=l.o;omega
      by_cases y:b<=n
      .have U:(b:Int)<=(n:Int):=aQ;have hc:=aP (LD wr r g.o.1 g.o.2 E.o I (by have:=l.o;omega) y (by have:=l.o;omega) (.inl l.o) R);clear r;go_wp2_with fail
       refine aR hc ?_;rintro e V ⟨rfl,⟨K,A,f,C⟩,D⟩;have t:=bH f C;have eB:(b:Int)+(d:Int)=((b+d:Nat):Int):=aQ;have W:=aP eB;clear hc f C eB;go_wp2_with fail
       go_roundw
       case rel=>exact⟨b,b+d,k+1,K,rfl,by rw[W.o],by have:=E.o;have:=l.o;unfold aH;rw[aeE];omega,by have:=HD.o;unfold aH;omega,y,t,A,x.trans D⟩
       case measure=>have:=l.o;simp[aL];omega
      .have U:¬(b:Int)<=(n:Int):=aQ;obtain⟨m,hm⟩:∃m,m=a+s:=⟨_,rfl⟩
       have eM:(a:Int)+(s:Int)=(m:Int):=aQ;have X:=aP hm;have hm2:m<=3000:=aQ;clear hm;go_upto_if 54 with(fail)
       go_cut [] (λwx=>∃K,aH (gW T K s (2 *s) n/\K.length=n)/\Rw B wx q c K/\Sw q w wx)
       case first=>
        by_cases hmn:m<n
        .have c1:(m:Int)<(n:Int):=aQ;have hc:=LD wr r g.o.1 g.o.2 E.o I (by have:=X.o;omega) (aaH _) (by have:=l.o;omega) (.inr rfl) R;rw[eM] at hc;have HC:=aP hc;clear r hc;go_wp2_with fail
         refine aR HC ?_;rintro e V ⟨rfl,⟨K,A,f,C⟩,D⟩;have t:=bH f C;clear f C HC;go_wp2_with fail
         go_meet
         exact⟨K,t,A,x.trans D⟩
        .have c1:¬(m:Int)<(n:Int):=aQ;have hT:=g.o.1.tail (k:=k) I E.o (by have:=X.o;have:=g.o.2;omega);have f:=g.o.1.step hT aQ E.o (aaH _) (by have:=X.o;have:=g.o.2;omega) (.inr rfl);rw[g.o.2] at f;have t:=bH f g.o.2;clear hT f;go_wp2_with fail
         go_meet
         exact⟨T4,t,r,x⟩
       case rest=>
       obtain⟨K,t,A,D⟩:=hcut;clear r x g;have eS:(s:Int) *2=(d:Int):=by have:=HD.o;omega
       go_wp2_with fail
       go_roundw
       case rel=>exact⟨d,K,rfl,by have:=HD.o;omega,by have:=HD.o;omega,by have h1:=t.o;have:=HD.o;subst this;exact⟨s,by rw[h1.2];exact h1.1,h1.2⟩,A,D⟩
       case measure=>have:=HD.o;simp[aL];omega
    .have j1:¬(s:Int)<(n:Int):=aQ;have HF:aH (sX M/\M.Perm T):=by
      obtain⟨s',h1,Z⟩:=J.o;exact⟨h1.all aQ,h1.p⟩
     clear J;go_wp2_with fail
     go_end0
     exact⟨rfl,⟨M,r,HF.o.1,HF.o.2⟩,x⟩
theorem Hc(B q c n:Nat)(T:List Nt)(w:aA)(h:Rw B w q c T)(b:aH (T.length=n))(a:∀i j,i<j->j<T.length->(bM T i).iB<(bM T j).iB)(d:n<=1000):
 aG prog 145 #[.slice q n c, .func (.func 146) #[] #[]] w (Lk B q c T w):=by
 have hc:=aP (WK B q c n T w h b a d);clear h a;go_enter func145,ntmps145
 go_wp2_with fail
 refine aR hc ?_;rintro e g ⟨rfl,h1,f⟩;go_wp2_with fail
 go_end0
 exact⟨rfl,h1,f⟩
theorem SR(w:aA)(a:Value):aG prog 232 #[bA,aU,aU,a] w λe w'=>e= .returned (.tuple #[])/\w=w':=by
 go_enter func232,ntmps232
 go_wp2_with fail
 refine wp_loop_rounds 1 ?_;rw[rounds_succ];go_wp2_with fail
 go_end0
 exact⟨rfl,rfl⟩
theorem SV(w:aA)(a:Value):aG prog 190 #[bA,aU,a] w λe w'=>e= .returned (.tuple #[])/\w=w':=by
 go_enter func190,ntmps190
 go_wp2_with fail
 refine wp_loop_rounds 1 ?_;rw[rounds_succ];go_wp2_with fail
 refine(SR w a).mono ?_;rintro e b ⟨rfl,rfl⟩;go_wp2_with fail
 refine wp_loop_rounds 1 ?_;rw[rounds_succ];go_wp2_with fail
 go_end0
 exact⟨rfl,rfl⟩
theorem Ah(w:aA)(a:Value):aG prog 145 #[bA,a] w λe w'=>e= .returned (.tuple #[])/\w=w':=by
 go_enter func145,ntmps145
 go_wp2_with fail
 refine(SV w a).mono ?_;rintro e b ⟨rfl,rfl⟩;go_wp2_with fail
 go_end0
 exact⟨rfl,rfl⟩
end Nt
end
section
namespace Nt
theorem TL:(prog.info? 96).map (λi=>(i.zero,i.size,i.bytes))=some (some (.agg #[aU,aU,aU]),3,24):=aV
theorem Hm:jM prog 91 96 3 24:=gA underlying91 TL rfl aQ
theorem kM:∀w,(zeroValue 96).run prog w= .ok (.agg #[aU,aU,aU]) w:=λw=>by kernel_rfl
variable{A:Option Addr}{n m:Nat}
theorem fJ{c:Nat}(h:n=m):Ending.returned (.slice A n c)= .returned (.slice A m c):=by rw[h]
theorem lP(g c i k base:Nat)(L:List Nt)(w:aA)(own:bB iX 3 w base 96 g c L)(r:L.length=i+1+k)(S:L.length<=1000):
 aG prog 238 #[.slice g L.length c,i, .int .i64 ((i:Int)+1)] w λe w'=>e= .returned (.slice g (L.eraseIdx i).length c)/\bB iX 3 w' base 96 g c (L.eraseIdx i)/\w.grownBy w' (some g):=by
 obtain⟨i0,n,G,p,H⟩:=info_parts TL;have s:(L.eraseIdx i).length=i+k:=by rw[acO,aaK aQ];omega
 obtain⟨_,_,_,v,x,_,_⟩:=eK own;simp only[maxLen] at x;obtain⟨news,b⟩:∃news,news=(L.drop (i+1)).flatMap iX:=⟨_,rfl⟩
 have s1:aH (news.length=k *3):=by unfold aH;rw[b,fH iZ.len,abY];omega
 have s2:aH (∀u∈news,u.oneCell'=true):=λu hu=>rL iZ _ u (by rw[<-b];exact hu)
 have D:aH (∀t,t<news.length->(w.drew.cell? ⟨g,0+i *3+t,none⟩).isSome=true/\w.drew.frozen? ⟨g,0+i *3+t,none⟩=false):=λt E=>by
  rw[s1.o] at E;exact cH own _ aQ
 have I:aH (∀t u,news[t]?=some u->w.drew.cell? ((⟨g,(i+1) *3,none⟩:Addr).add t)=some u):=λt u hu=>by
  have E:t<k *3:=by rw[<-s1.o];exact(aaX.1 hu).1
  have hF:=oT iZ.len L (i+1);rw[b,hF,acL] at hu;rw[Addr.add_lit];obtain⟨cur,_,J,_,_,_,K⟩:=eK own;show w.cell? _=_;rw[cell_of_row w g _ cur _ (0,0) J,<-hu,<-K,abU,aaK aQ,abG]
 obtain⟨m,h⟩:∃m,m=w.drew.setCells g (0+i *3) news:=⟨_,rfl⟩
 have F:=aP h;have y:=tX (w:=w.drew) iZ.len own.drew i k r [.int .i64 0, .int .i64 0, .int .i64 0] rfl;rw[<-b,show i *3=0+i *3 by omega,<-h] at y;have a:=aP y;have d:∀j,j<c *3->(m.cell? ⟨g,j,none⟩).isSome=true/\m.frozen? ⟨g,j,none⟩=false:=λj z=>by
  rw[h];have:=cH own j z;exact⟨Go.World.isSome_setCells g _ _ _ _ this.1,by rw[World.frozen?_setCells];exact this.2⟩
 have l:∀ty q A,q=1->(Builtin.clear_ #[91] ty #[.slice (some ⟨g,(i+k) *3,none⟩) q A]).run prog m= .ok (.tuple #[]) (m.setCells g ((i+k) *3) [.int .i64 0, .int .i64 0, .int .i64 0]):=λty q A B=>
  kZ m _ 96 ty _ underlying91 kM [.int .i64 0, .int .i64 0, .int .i64 0] aV cD g ((i+k) *3) q A B (λj z=>d _ (by simp at z;omega))
 clear h y d b;rw[r];rw[r] at v;have M:i<=c:=aQ;have N:i+1<=c:=aQ;have O:(0:Int)<=i+1:=aQ;have P:(i:Int)+1<=(i:Int)+1+(k:Int):=aQ;by_cases hce:c=i+1
 .obtain rfl:k=0:=aQ;obtain rfl:news= []:=abO (by rw[s1.o]);have C:aH (∀t u,([]:List Value)[t]?=some u->w.drew.cell? ((⟨g,0,none⟩:Addr).add t)=some u):=λt u hu=>by simp at hu
  subst hce;have f:=λty=>l ty (i+1 - i) (i+1 - i) aQ
  simp only[aa3] at f s⊢;have Q:(i:Int)<=(i:Int)+1:=aQ;have R:i+1 - i=1:=aQ;rw[R] at f;clear l;go_enter func238,ntmps238
  go_wp2_with fail
  go_region_law (refine step_append_room rfl (.tmp 22) (.tmp 25) 91 rfl 96 i0 3 underlying91 n p g 0 i (i+1) (by simp[Act.eval,Act.put]) ⟨g,0,none⟩ 0 0 [] (by simp[Act.eval,Act.put]) s1.o C.o s2.o aQ D.o ?_;rw[<-F.o])
  go_wp2
  go_ret
  exact⟨fJ aQ,a.o.1,⟨a.o.2.os,a.o.2.tape,a.o.2.output,a.o.2.size,a.o.2.block⟩⟩
 .have f:=λty=>l ty (i+1+k - (i+k)) (c - (i+k)) aQ
  clear l;go_enter func238,ntmps238
  go_wp2_with fail
  go_region_law (refine step_append_room rfl (.tmp 22) (.tmp 25) 91 rfl 96 i0 3 underlying91 n p g 0 i c (by simp[Act.eval,Act.put]) ⟨g,(i+1) *3,none⟩ k (c - (i+1)) news (by simp[Act.eval,Act.put]) s1.o I.o s2.o aQ D.o ?_;rw[<-F.o])
  go_wp2
  go_ret
  exact⟨fJ aQ,a.o.1,⟨a.o.2.os,a.o.2.tape,a.o.2.output,a.o.2.size,a.o.2.block⟩⟩
def tY(a p:Int)(e:Nt):Bool:=(e.eO==a)&&(e.fV==p)
def NB(L:List Nt)(a p:Int):Option Nat:=L.findIdx? (tY a p)
def rA(L:List Nt)(a p:Int):Int:=match NB L a p with|some i=>i|none=> -1
variable{w:aA}{i:Nat}
theorem _root_.Go.Proofs.YtacgiflhgdaeaaaGreat.Sl.Ku{xs:List Nt}(h:Sl iX 3 w A xs)(hi:i<xs.length):
 ∃b off,A=some ⟨b,off,none⟩/\w.cell? ⟨b,off+i *3,none⟩=some (.int .i64 xs[i].eO)/\w.cell? ⟨b,off+i *3+1,none⟩=some (.int .i64 xs[i].fV)/\w.cell? ⟨b,off+i *3+1+1,none⟩=some (.int .i64 xs[i].bO):=by
 obtain⟨b,off,a,hc⟩:=h.at_ hi;refine⟨b,off,a,?_,?_,?_⟩
 .simpa using hc 0 _ (show(iX xs[i])[0]?=some (.int .i64 xs[i].eO) from rfl)
 .simpa[abV] using hc 1 _ (show(iX xs[i])[1]?=some (.int .i64 xs[i].fV) from rfl)
 .simpa[abV] using hc 2 _ (show(iX xs[i])[2]?=some (.int .i64 xs[i].bO) from rfl)
theorem pP(a p:Int)(e:Nt)(b1 b2:Nat)(w:aA)(c1:w.cell? (b1,0)=some (.int .i64 a))(c2:w.cell? (b2,0)=some (.int .i64 p)):
 aG prog 186 #[.agg #[e.eO,e.fV,e.bO], .pointer b1, .pointer b2] w λr w'=>r= .returned (.bool (tY a p e))/\Below w w w':=by
 have h1:=bD (aX w (Obj.cells #[e.eO,e.fV,e.bO] 96)) c1;have d:=bD (aX w (Obj.cells #[e.eO,e.fV,e.bO] 96)) c2;clear c1 c2;cases c:(e.eO==a)
 .have b:aH (tY a p e=false):=by unfold aH tY;rw[c];rfl
  go_enter func186,ntmps186
  go_wp2
  go_ret
  exact⟨iO b.o.symm,aX _ _⟩
 .have b:aH (tY a p e=(e.fV==p)):=by unfold aH tY;rw[c];rfl
  go_enter func186,ntmps186
  go_wp2
  go_ret
  exact⟨iO b.o.symm,aX _ _⟩
theorem lH:∀args w,(callFunc 186 args).run prog w= .ok (.enter 186 args) w:=enters_of func186 aV rfl
variable{p:Int}
theorem vP{L:List Nt}{a:Int}{k:Nat}(hk:k<L.length)(h:tY a p L[k]=true)(c:∀j,(b:j<k)->tY a p L[j]=false):rA L a p=k:=by
 unfold rA NB;rw[aa5.2 ⟨hk,h,λj b=>by rw[c j b];simp⟩]
theorem tT{L:List Nt}{a:Int}(h:∀j,(b:j<L.length)->tY a p L[j]=false):rA L a p= -1:=by
 unfold rA NB;rw[abP.2 (λx c=>by obtain⟨j,b,rfl⟩:=aa2 c;exact h j b)]
theorem nD(A:Option Addr)(L:List Nt)(c:Nat)(a p:Int)(b1 b2:Nat)(w:aA)(hs:Sl iX 3 w A L)(u:L.length<=1000)(c1:w.cell? (b1,0)=some (.int .i64 a))(c2:w.cell? (b2,0)=some (.int .i64 p)):
 aG prog 185 #[(A,L.length,c), .func (.func 186) #[] #[.pointer b1, .pointer b2]] w λe w'=>e= .returned (.int .i64 (rA L a p))/\Below w w w':=by
 have v:=lH;go_enter func185,ntmps185
 go_wp2
 go_loopw [5,8] (λ_ r wr=>∃k:Nat,k<=L.length/\r= .int .i64 k/\Below w w wr/\aH (∀j,(d:j<L.length)->j<k->tY a p L[j]=false)) (λ_ i _=>L.length - (aL i).toNat)
 case atStart=>exact⟨0,aaQ _,rfl,Below.refl _ w,λj d h=>absurd h (acK _)⟩
 case round=>
  obtain⟨k,hk,rfl,f,l⟩:=hrel;by_cases g:k<L.length
  .obtain⟨b,off,rfl,x,z,B⟩:=(hs.keep f).Ku g;have C:(0:Int)<=k:=aQ;have D:(k:Int)<(L.length:Int):=aQ;have hc:=pP a p L[k] b1 b2 wr (bD f c1) (bD f c2);have HQ:aH (tY a p L[k]=true->rA L a p=k):=λh=>vP g h (λj d=>l.o j aQ d)
   have s:aH (tY a p L[k]=false->∀j,(d:j<L.length)->j<k+1->tY a p L[j]=false):=λh j d t=>by
    by_cases he:j=k
    .subst he;exact h
    .exact l.o j d aQ
   clear l;generalize L[k]=y at *;cases hq:tY a p y with
   |true=>
    rw[hq] at hc;have m:=aP (HQ.o hq);go_wp2_with(go_at_fn 186;(with_reducible refine hc.mono ?_);rintro e w' ⟨rfl,n⟩)
    go_ret
    exact⟨gY m.o.symm,dQ f (aaH _) n⟩
   |false=>
    rw[hq] at hc;have q:=aP (s.o hq);go_wp2_with(go_at_fn 186;(with_reducible refine hc.mono ?_);rintro e w' ⟨rfl,n⟩)
    go_roundw
    case rel=>exact⟨k+1,aQ,by go_num,dQ f (aaH _) n,q.o⟩
    case measure=>simp[aL];omega
  .obtain rfl:k=L.length:=aQ;go_wp2
   go_ret
   exact⟨gY (tT (λj d=>l.o j d d)).symm,f⟩
end Nt
end
end
end Go.Proofs.YtacgiflhgdaeaaaGreat
