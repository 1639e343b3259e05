/- Texts laid as one. -/
import Derived.Test.YtacgiflhgdaeaaaGreatZ6
import Derived.Test.YtacgiflhgdaeaaaGreatZ7
import Derived.Test.YtacgiflhgdaeaaaGreatZ8
set_option linter.unusedVariables false
set_option linter.unusedSimpArgs false
set_option maxRecDepth 100000
set_option maxHeartbeats 20000000
namespace Go.Proofs.YtacgiflhgdaeaaaGreat
open Go.Proofs.Tryz
open Go renaming World->aA,Addr->aJ,Calls->aG
open Go.RowKit renaming Below->aD,Hid->aH,intOf->aL
section
open Go.RowKit Go.Lib Go.Shelf
variable{F:Nat->Prop}{w:aA}{g n m:Nat}{x:Lb}{y:La}
section
def uE:Option Nat->Int
 |none=> -1
 |some f=>f
theorem JP(x:Lb):∀k,(∀f,(fP x k).1=some f->f<k)/\(∀f,(fP x k).2=some f->f<k)
 |0=>⟨λf h=>by simp[fP] at h,λf h=>by simp[fP] at h⟩
 |k+1=>by
  have a:=JP x k;unfold fP;split
  .exact⟨λf h=>afC (a.1 f h),λf h=>afC (a.2 f h)⟩
  .refine⟨λf h=>?_,λf h=>?_⟩
   .simp only at h;split at h
    .injection h with h;omega
    .exact afC (a.1 f h)
   .simp only at h;split at h
    .injection h with h;omega
    .exact afC (a.2 f h)
theorem NX(h:bP F w g x y)(hI:IV x n m)(hn:n<=1000000):aG prog 58 #[.pointer g] w λr w'=>r= .returned (.int .i64 (uE (nF x)))/\aD w w w':=by
 have B:=h.c 15 (.slice y.J x.jb.length y.cJ) rfl;have u:=aP h;have L:=aP hI;have hjl:=hI.jl;clear h hI;go_enter func58,ntmps58
 go_wp2_with fail
 go_loopw [14,3,4] (λP v3 v4 wr=>∃k:Nat,k<=x.jb.length/\P= .int .i64 k/\(∃o1 o2:Option Nat,v3= .int .i64 (uE o1)/\v4= .int .i64 (uE o2)/\aH ((fP x k).1=o1/\(fP x k).2=o2))/\aH (aD w w wr)) (λP v3 v4 _=>x.jb.length - (aL P).toNat)
 case atStart=>exact⟨0,aaQ _,rfl,⟨none,none,rfl,rfl,rfl,rfl⟩,Below.refl _ _⟩
 case round=>
  obtain⟨k,hk,rfl,⟨o1,o2,rfl,rfl,M⟩,D⟩:=hrel;clear B;by_cases E:k<x.jb.length
  .have j1:(k:Int)<(x.jb.length:Int):=aQ;have j0:(0:Int)<=k:=aQ;obtain⟨q,hq,hc⟩:=(u.o.below D.o).l9 E;have O:=aP hc;have HQ:=aP hq;have HJ:=aP (L.o.l9 E);have B:=(u.o.below D.o).c 15 (.slice y.J x.jb.length y.cJ) rfl;have e11:=(u.o.below D.o).c 11 (.int .i64 x.nw) rfl;rw[hq] at B;have c2:=hc.c2;have c7:=hc.c7;have HT:=aP (JP x k);clear hc hq;by_cases T:x.nw<(dN x k).ca
   .have l:aH ((fP x (k+1)).1=o1/\(fP x (k+1)).2=o2):=by
     have:fP x (k+1)=fP x k:=by rw[fP,aaK T]
     unfold aH;rw[this];exact M.o
    generalize (dN x k).ca=ca at *;go_upto_region 8 with(fail)
    go_quiet (fail)
    go_wp2_with fail
    refine⟨⟨k+1,aQ,rfl,⟨o1,o2,rfl,rfl,l.o⟩,gJ D.o _⟩,by simp only[aL];omega⟩
   .have l:aH ((fP x (k+1)).1=(if zE x o1 k then some k else o1)/\(fP x (k+1)).2=(if(dN x k).bg&&zE x o2 k then some k else o2)):=by
     have:fP x (k+1)=(if zE x (fP x k).1 k then some k else(fP x k).1,if(dN x k).bg&&zE x (fP x k).2 k then some k else(fP x k).2):=by rw[fP,aaL T]
     unfold aH;rw[this,M.o.1,M.o.2];exact⟨rfl,rfl⟩
    generalize (dN x k).ca=ca at *;go_upto_region 8 with(fail)
    go_quiet (fail)
    have j:aH (aD w w (wr.drewN nq)/\aD wr wr (wr.drewN nq)):=⟨gJ D.o _,fC _ _⟩
    have Q:(wr.drewN nq).cell? (g,15)=some (.slice q x.jb.length y.cJ):=B;clear D B e11 c2 c7;generalize hwz:wr.drewN nq=wz at *;cases o1 with
    |none=>
     have HF:aH (zE x none k=true):=rfl;rw[HF.o] at l;rw[show uE none= -1 from rfl];go_upto_region 11 with(fail)
     have d:aH (aD w w wz):=j.o.1;have s:aH (aD wr wr wz):=j.o.2;obtain⟨N,U⟩:∃z,z=wz:=⟨_,rfl⟩
     rw[<-U] at d s⊢;clear U Q;have p:aH (wB N q (k *11) (dN x k)):=O.o.keep s.o;have d15:=(u.o.below d.o).c 15 (.slice y.J x.jb.length y.cJ) rfl;rw[HQ.o] at d15;have d7:=p.o.c7;cases G:(dN x k).bg
     .rw[G] at d7 l;go_wp2_with fail
      refine⟨⟨k+1,aQ,rfl,⟨some k,o2,rfl,rfl,l.o⟩,d.o⟩,by simp only[aL];omega⟩
     .rw[G] at d7 l;cases o2 with
      |none=>
       rw[show uE none= -1 from rfl] at *;go_wp2_with fail
       refine⟨⟨k+1,aQ,rfl,⟨some k,some k,rfl,rfl,l.o⟩,d.o⟩,by simp only[aL];omega⟩
      |some b=>
       have H:=Nat.lt_trans (HT.o.2 b M.o.2) E;have b0:(0:Int)<=b:=aQ;have b1:(b:Int)<(x.jb.length:Int):=aQ;obtain⟨q',a,v⟩:=(u.o.below d.o).l9 H;rw[HQ.o] at a;injection a with a;injection a with a;subst a;have t:=aP (xZ (u.o.below d.o) L.o p.o HJ.o v (L.o.l9 H));have C:aH (zE x (some b) k=pU x (dN x k) (dN x b)):=rfl;rw[C.o] at l;clear v H;have I:aH (uE (some b)=(b:Int)):=rfl;rw[I.o];cases K:pU x (dN x k) (dN x b)
       all_goals
        rw[K] at t l;go_wp2_with fail
        refine aR t ?_;rintro e V ⟨rfl,i⟩;have A:aH (aD w w V):=d.o.trans (i.mono d.o.size);clear i t s p d7 d15;go_wp2_with fail
        first
         |exact⟨⟨k+1,aQ,rfl,⟨some k,some b,rfl,rfl,l.o⟩,A.o⟩,by simp only[aL];omega⟩
         |exact⟨⟨k+1,aQ,rfl,⟨some k,some k,rfl,rfl,l.o⟩,A.o⟩,by simp only[aL];omega⟩
    |some f=>
     have S:=Nat.lt_trans (HT.o.1 f M.o.1) E;have f0:(0:Int)<=f:=aQ;have f1:(f:Int)<(x.jb.length:Int):=aQ;obtain⟨q',a,W⟩:=(u.o.below j.o.1).l9 S;rw[HQ.o] at a;injection a with a;injection a with a;subst a;have t:=aP (xZ (u.o.below j.o.1) L.o (O.o.keep j.o.2) HJ.o W (L.o.l9 S));have C:aH (zE x (some f) k=pU x (dN x k) (dN x f)):=rfl;rw[C.o] at l;have HQf:aH (uE (some f)=(f:Int)):=rfl;rw[HQf.o];clear W S;cases X:pU x (dN x k) (dN x f)
     .rw[X] at t l;go_wp2_with fail
      refine aR t ?_;rintro e N ⟨rfl,i⟩;have d:aH (aD w w N):=j.o.1.trans (i.mono j.o.1.size);have s:aH (aD wr wr N):=j.o.2.trans (i.mono j.o.2.size);clear i t j Q;go_upto_region 11 with(fail)
      have p:aH (wB N q (k *11) (dN x k)):=O.o.keep s.o;have d15:=(u.o.below d.o).c 15 (.slice y.J x.jb.length y.cJ) rfl;rw[HQ.o] at d15;have d7:=p.o.c7;cases G:(dN x k).bg
      .rw[G] at d7 l;go_wp2_with fail
       refine⟨⟨k+1,aQ,rfl,⟨some f,o2,rfl,rfl,l.o⟩,d.o⟩,by simp only[aL];omega⟩
      .rw[G] at d7 l;cases o2 with
       |none=>
        rw[show uE none= -1 from rfl] at *;go_wp2_with fail
        refine⟨⟨k+1,aQ,rfl,⟨some f,some k,rfl,rfl,l.o⟩,d.o⟩,by simp only[aL];omega⟩
       |some b=>
        have H:=Nat.lt_trans (HT.o.2 b M.o.2) E;have b0:(0:Int)<=b:=aQ;have b1:(b:Int)<(x.jb.length:Int):=aQ;obtain⟨q',a,v⟩:=(u.o.below d.o).l9 H;rw[HQ.o] at a;injection a with a;injection a with a;subst a;have t:=aP (xZ (u.o.below d.o) L.o p.o HJ.o v (L.o.l9 H));have C:aH (zE x (some b) k=pU x (dN x k) (dN x b)):=rfl;rw[C.o] at l;clear v H;have I:aH (uE (some b)=(b:Int)):=rfl;rw[I.o];cases K:pU x (dN x k) (dN x b)
        all_goals
         rw[K] at t l;go_wp2_with fail
         refine aR t ?_;rintro e V ⟨rfl,i⟩;have A:aH (aD w w V):=d.o.trans (i.mono d.o.size);clear i t s p d7 d15;go_wp2_with fail
         first
          |exact⟨⟨k+1,aQ,rfl,⟨some f,some b,rfl,rfl,l.o⟩,A.o⟩,by simp only[aL];omega⟩
          |exact⟨⟨k+1,aQ,rfl,⟨some f,some k,rfl,rfl,l.o⟩,A.o⟩,by simp only[aL];omega⟩
     .rw[X] at t l;go_wp2_with fail
      refine aR t ?_;rintro e N ⟨rfl,i⟩;have d:aH (aD w w N):=j.o.1.trans (i.mono j.o.1.size);have s:aH (aD wr wr N):=j.o.2.trans (i.mono j.o.2.size);clear i t j Q;go_upto_region 11 with(fail)
      have p:aH (wB N q (k *11) (dN x k)):=O.o.keep s.o;have d15:=(u.o.below d.o).c 15 (.slice y.J x.jb.length y.cJ) rfl;rw[HQ.o] at d15;have d7:=p.o.c7;cases G:(dN x k).bg
      .rw[G] at d7 l;go_wp2_with fail
       refine⟨⟨k+1,aQ,rfl,⟨some k,o2,rfl,rfl,l.o⟩,d.o⟩,by simp only[aL];omega⟩
      .rw[G] at d7 l;cases o2 with
       |none=>
        rw[show uE none= -1 from rfl] at *;go_wp2_with fail
        refine⟨⟨k+1,aQ,rfl,⟨some k,some k,rfl,rfl,l.o⟩,d.o⟩,by simp only[aL];omega⟩
       |some b=>
        have H:=Nat.lt_trans (HT.o.2 b M.o.2) E;have b0:(0:Int)<=b:=aQ;have b1:(b:Int)<(x.jb.length:Int):=aQ;obtain⟨q',a,v⟩:=(u.o.below d.o).l9 H;rw[HQ.o] at a;injection a with a;injection a with a;subst a;have t:=aP (xZ (u.o.below d.o) L.o p.o HJ.o v (L.o.l9 H));have C:aH (zE x (some b) k=pU x (dN x k) (dN x b)):=rfl;rw[C.o] at l;clear v H;have I:aH (uE (some b)=(b:Int)):=rfl;rw[I.o];cases K:pU x (dN x k) (dN x b)
        all_goals
         rw[K] at t l;go_wp2_with fail
         refine aR t ?_;rintro e V ⟨rfl,i⟩;have A:aH (aD w w V):=d.o.trans (i.mono d.o.size);clear i t s p d7 d15;go_wp2_with fail
         first
          |exact⟨⟨k+1,aQ,rfl,⟨some k,some b,rfl,rfl,l.o⟩,A.o⟩,by simp only[aL];omega⟩
          |exact⟨⟨k+1,aQ,rfl,⟨some k,some k,rfl,rfl,l.o⟩,A.o⟩,by simp only[aL];omega⟩
  .have j1:¬(k:Int)<(x.jb.length:Int):=aQ;have Y:k=x.jb.length:=aQ;have HN:aH ((fP x x.jb.length).1=o1/\(fP x x.jb.length).2=o2):=by rw[<-Y];exact M.o
   clear M;cases o1 with
   |none=>
    have R:aH (nF x=none):=by unfold aH nF;rw[HN.o.1]
    rw[show uE none= -1 from rfl];go_wp2_with fail
    go_ret
    rw[R.o];exact⟨rfl,D.o⟩
   |some f=>
    have S:=(JP x x.jb.length).1 f HN.o.1;obtain⟨q,hq,hc⟩:=(u.o.below D.o).l9 S;have B:=(u.o.below D.o).c 15 (.slice y.J x.jb.length y.cJ) rfl;rw[hq] at B;have c7:=hc.c7;have R:aH (nF x=if(dN x f).bg || JN x f then some f else o2):=by unfold aH nF;rw[HN.o.1,HN.o.2]
    have O:=aP (Kb (u.o.below D.o) L.o hn S);have f0:(0:Int)<=f:=aQ;have f1:(f:Int)<(x.jb.length:Int):=aQ;rw[show uE (some f)=(f:Int) from rfl];clear hc hq Y;cases G:(dN x f).bg
    .rw[G] at c7 R;cases hm:JN x f
     all_goals
      rw[hm] at O R;go_wp2_with fail
      refine aR O ?_;rintro e w4 ⟨rfl,Z⟩;have HB4:aH (aD w w w4):=D.o.trans (Z.mono D.o.size);clear Z O;go_wp2_with fail
      go_ret
      rw[R.o];exact⟨rfl,HB4.o⟩
    .rw[G] at c7 R;go_wp2_with fail
     go_ret
     rw[R.o];exact⟨rfl,D.o⟩
theorem XK(h:bP F w g x y)(c:IV x n m)(d:n<=1000000):aG prog 44 #[.pointer g] w λr w'=>r= .returned (.bool (nF x).isSome)/\aD w w w':=by
 have b:=aP (NX h c d);have i:aH (∀o:Option Nat,decide (0<=uE o)=o.isSome):=λo=>by
  cases o with
  |none=>rfl
  |some f=>simp[uE]
 clear h;generalize nF x=o at *;go_enter func44,ntmps44
 go_wp2_with fail
 refine aR b ?_;rintro e k ⟨rfl,a⟩;have j:=aP a;clear a b;go_wp2_with fail
 go_ret
 exact⟨by rw[i.o];rfl,j.o⟩
end
end
variable{n K K' i m:Nat}{x:Lb}{sb nb:Nat->Nat}
section
section
structure Cz(t:Tk):Prop where
 co:1<=t.co/\t.co<=1048576
 pe:1<=t.pe/\t.pe<=1048576
 de:1<=t.de/\t.de<=1048576
 po:0<=t.po/\t.po<=2
 se:t.se.length<=8
structure zR(n K:Nat)(nw:Int)(j:Jb):Prop where
 tk:0<=j.tk/\j.tk<n
 nu:0<=j.nu/\j.nu<=K
 ca:0<=j.ca/\j.ca<=1048576 *((K:Int)+2)
 de:0<=j.de/\j.de<=1048576 *((K:Int)+3)
 ra:0<=j.ra/\j.ra<=nw
 lf:0<=j.lf/\j.lf<=1048576
 bh:j.bh=false->1<=j.lf
 rs:0<=j.rs/\j.rs<=K
structure eA(x:Lb)(sb nb:Nat->Nat)(K m e:Nat):Prop where
 n:x.ts.length<=8
 lr:x.rk.length=x.ts.length
 ls:x.sh.length=x.ts.length
 ln:x.nu.length=x.ts.length
 lw:x.wt.length=x.ts.length
 nw:0<=x.nw/\x.nw<=1048576
 tk:∀t∈x.ts,Cz t
 sk:∀(i:Nat) (s:iY),x.sh[i]?=some s->lT s (sb i)
 nk:∀(i:Nat) (v:Int),x.nu[i]?=some v->0<=v/\v<=nb i
 jk:∀j∈x.jb,zR x.ts.length K x.nw j
 jl:x.jb.length<=m
 lg:x.lg.length<=e
def lN(x:Lb)(k:Nat):Prop:=eA x (λ_=>k) (λ_=>k) k (8 *k) (1000000 *k)
theorem zR.mono{nw nw':Int}{j:Jb}(h:zR n K nw j)(hK:K<=K')(hw:nw<=nw'):zR n K' nw' j:=
 ⟨h.tk,by have:=h.nu;omega,by have:=h.ca;omega,by have:=h.de;omega,by have:=h.ra;omega,h.lf,h.bh,by have:=h.rs;omega⟩
theorem lT.mono{s:iY}{k k':Nat}(h:lT s k)(hk:k<=k'):lT s k':=
 ⟨h.p0,h.p1,h.n0,by have:=h.n1;omega,h.c0,by have:=h.c1;omega,h.r0,by have:=h.r1;omega⟩
section
variable{x:Lb}{sb sb' nb nb':Nat->Nat}{K K' m m' e e':Nat}
theorem eA.mono(h:eA x sb nb K m e)(h1:∀i,sb i<=sb' i)(a:∀i,nb i<=nb' i)(b:K<=K')(f:m<=m')(g:e<=e'):eA x sb' nb' K' m' e':=
 ⟨h.n,h.lr,h.ls,h.ln,h.lw,h.nw,h.tk,λi s hs=>(h.sk i s hs).mono (h1 i),λi v c=>by have:=h.nk i v c;have:=a i;omega,λj d=>(h.jk j d).mono b (ab0 _),by have:=h.jl;omega,by have:=h.lg;omega⟩
theorem eA.task(h:eA x sb nb K m e)(hi:i<x.ts.length):gT x i=x.ts[i]/\Cz (gT x i):=by
 have a:gT x i=x.ts[i]:=by unfold gT;rw[aaW,aaU,aaG hi];rfl
 exact⟨a,by rw[a];exact h.tk _ (aaM hi)⟩
theorem eA.rK(h:eA x sb nb K m e)(hi:i<x.ts.length):∃hs:i<x.sh.length,jA x i=x.sh[i]/\lT (jA x i) (sb i):=by
 have hs:i<x.sh.length:=by rw[h.ls];exact hi
 have a:jA x i=x.sh[i]:=by unfold jA;rw[aaW,aaU,aaG hs];rfl
 exact⟨hs,a,by rw[a];exact h.sk i _ (aaG hs)⟩
theorem eA.num(h:eA x sb nb K m e)(hi:i<x.ts.length):∃hs:i<x.nu.length,x.nu.getD i 0=x.nu[i]/\0<=x.nu.getD i 0/\x.nu.getD i 0<=nb i:=by
 have hs:i<x.nu.length:=by rw[h.ln];exact hi
 have a:x.nu.getD i 0=x.nu[i]:=by rw[aaU,aaG hs];rfl
 exact⟨hs,a,by rw[a];exact h.nk i _ (aaG hs)⟩
theorem eA.l9(h:eA x sb nb K m e)(hi:i<x.jb.length):dN x i=x.jb[i]/\zR x.ts.length K x.nw (dN x i):=by
 have a:dN x i=x.jb[i]:=by unfold dN;rw[aaU,aaG hi];rfl
 exact⟨a,by rw[a];exact h.jk _ (aaM hi)⟩
theorem eA.note(h:eA x sb nb K m e)(kd:Int)(j:Jb):eA (iK x kd j) sb nb K m (e+1):=
 ⟨h.n,h.lr,h.ls,h.ln,h.lw,h.nw,h.tk,h.sk,h.nk,h.jk,h.jl,by have:=h.lg;simp[iK];omega⟩
theorem eA.ED(h:eA x sb nb K m e)(i:Nat){j:Jb}(b:zR x.ts.length K x.nw j):eA (cC x i j) sb nb K m e:=by
 refine⟨h.n,h.lr,h.ls,h.ln,h.lw,h.nw,h.tk,h.sk,h.nk,λy a=>?_,by simpa[cC] using h.jl,h.lg⟩;rcases abW a with a|rfl
 .exact h.jk y a
 .exact b
theorem eA.CY(h:eA x sb nb K m e)(i:Nat){s:iY}{b:Nat}(hs:lT s b):eA (dX x i s) (λj=>if j=i then b else sb j) nb K m e:=by
 refine⟨h.n,h.lr,by simpa[dX] using h.ls,h.ln,h.lw,h.nw,h.tk,λj s' a=>?_,h.nk,h.jk,h.jl,h.lg⟩;simp only[dX,aaW] at a;rw[adA] at a;split at a
 .rename_i c;subst c;split at a
  .injection a with a;subst a;simpa using hs
  .cases a
 .rename_i c;simp only[aaL (λd=>c (Eq.symm d))];exact h.sk j s' a
theorem eA.Yh(h:eA x sb nb K m e)(i:Nat)(d:Int):eA {x with wt:=x.wt.set i d} sb nb K m e:=
 ⟨h.n,h.lr,h.ls,h.ln,by simpa using h.lw,h.nw,h.tk,h.sk,h.nk,h.jk,h.jl,h.lg⟩
theorem eA.comes(h:eA x sb nb K m e)(hi:i<x.ts.length)(d:Int)(hK:nb i+1<=K):eA (sV x i d) sb (λj=>if j=i then nb i+1 else nb j) K (m+1) (e+1):=by
 obtain⟨hs,o,n0,n1⟩:=h.num hi;obtain⟨_,f⟩:=h.task hi;have g:zR x.ts.length K x.nw (rU x i d):=by
  have:=h.nw;have:=f.de;have:=f.co;refine⟨by simp[rU];omega,by simp only[rU,aaW];omega,by simp only[rU];omega,by simp only[rU];omega,by simp only[rU];omega,by simp only[rU];omega,λ_=>by simp only[rU];omega,by simp[rU]⟩
 refine eA.note (x:={x with nu:=x.nu.set (i:Int).toNat (x.nu.getD (i:Int).toNat 0+1),jb:=x.jb++ [rU x i d]}) ⟨h.n,h.lr,h.ls,by simpa using h.ln,h.lw,h.nw,h.tk,h.sk,λk v a=>?_,λy b=>?_,by have:=h.jl;simp;omega,h.lg⟩ 1 _
 .simp only[aaW] at a;rw[adA] at a;split at a
  .rename_i c;subst c;injection a with a;subst a;simp only[acY];omega
  .rename_i c;simp only[aaL (λl=>c (Eq.symm l))];exact h.nk k v a
 .simp at b;rcases b with b|rfl
  .exact h.jk y b
  .exact g
theorem lN.ask{k:Nat}(h:lN x k)(task d:Int):lN (oN x task d).2 (k+1):=by
 have hu:lN x (k+1):=eA.mono h (λ_=>ab2 _) (λ_=>ab2 _) (ab2 _) aQ aQ;unfold oN;split
 .exact hu
 .rename_i hc;obtain⟨i,rfl⟩:=aaO (show 0<=task by omega);have hi:i<x.ts.length:=aQ;obtain⟨hs,b,a⟩:=eA.rK h hi;have h1:eA (dX x i (EF x i).1) (λj=>if j=i then k+1 else k) (λ_=>k) (k+1) (8 *k) (1000000 *k):=
   eA.CY (eA.mono h (λ_=>aaH _) (λ_=>aaH _) (ab2 _) (aaH _) (aaH _)) i (SK a)
  have hm:∀j,(if j=i then k+1 else k)<=k+1:=λj=>by split <;> omega
  split
  .exact h1.mono hm (λ_=>ab2 _) (aaH _) aQ aQ
  .split
   .exact(h1.comes hi d (aaH _)).mono hm hm (aaH _) aQ aQ
   .exact(h1.Yh i d).mono hm (λ_=>ab2 _) (aaH _) aQ aQ
theorem zR.bY{nw:Int}{j:Jb}(h:zR n K nw j):zR n K (nw+1) {gH j with bh:=true}/\(1<=(gH j).lf->zR n K (nw+1) (gH j)):=by
 have h1:=h.ra;have f:=h.lf;have b:=h.bh;have a:0<=(gH j).lf/\(gH j).lf<=1048576:=by
  unfold gH;simp only;cases c:j.bh
  .have:=b c;simp;omega
  .simp;omega
 exact⟨⟨h.tk,h.nu,h.ca,h.de,by simp only[gH];omega,a,λe=>by simp at e,h.rs⟩,λd=>⟨h.tk,h.nu,h.ca,h.de,by simp only[gH];omega,a,λ_=>d,h.rs⟩⟩
def uS(x:Lb):Lb:={x with nw:=x.nw+1}
theorem eA.up(h:eA x sb nb K m e)(b:x.nw<1048576):eA (uS x) sb nb K m e:=
 ⟨h.n,h.lr,h.ls,h.ln,h.lw,by have:=h.nw;show 0<=x.nw+1/\x.nw+1<=_;omega,h.tk,h.sk,h.nk,λj a=>(h.jk j a).mono (aaH _) (by show _<=x.nw+1;omega),h.jl,h.lg⟩
end
theorem S1(x:Lb)(i:Nat)(j a:Jb)(t:Int)(s:iY):cC (dX (cC x i j) t s) i a=cC (dX x t s) i a:=by simp[cC,dX]
theorem lN.run{k:Nat}(h:lN x k)(z:x.nw<1048576)(hi:i<x.jb.length):eA (tR (uS x) i) (λ_=>k+1) (λ_=>k) (k+1) (8 *k) (1000000 *k+1):=by
 have hu:=eA.up h z;have hk:eA (uS x) (λ_=>k) (λ_=>k) (k+1) (8 *k) (1000000 *k):=hu.mono (λ_=>aaH _) (λ_=>aaH _) (ab2 _) (aaH _) (aaH _);obtain⟨L,a⟩:=eA.l9 h hi;obtain⟨b,q⟩:=zR.bY a;have A:dN (uS x) i=dN x i:=rfl;have fin:∀y:Lb,eA y (λ_=>k) (λ_=>k) (k+1) (8 *k) (1000000 *k+1)->eA y (λ_=>k+1) (λ_=>k) (k+1) (8 *k) (1000000 *k+1):=λy B=>B.mono (λ_=>ab2 _) (λ_=>aaH _) (aaH _) (aaH _) (aaH _)
 have gone:∀kd,eA (xK (cC (uS x) i (gH (dN x i))) kd i) (λ_=>k+1) (λ_=>k) (k+1) (8 *k) (1000000 *k+1):=λkd=>by
  refine fin _ ⟨hk.n,hk.lr,hk.ls,hk.ln,hk.lw,hk.nw,hk.tk,hk.sk,hk.nk,λj C=>?_,?_,?_⟩
  .have g:j∈(x.jb.set i (gH (dN x i))).eraseIdx i:=C;rw[List.eraseIdx_set_eq] at g;exact hk.jk j (ad2 g)
  .have:=hk.jl;have:=adO (x.jb.set i (gH (dN x i))) i;show((x.jb.set i (gH (dN x i))).eraseIdx i).length<=_;rw[aaV] at this;have:x.jb.length<=8 *k:=hk.jl;omega
  .have:x.lg.length<=1000000 *k:=hk.lg;simp[xK,iK,cC,uS];omega
 unfold tR;simp only[A];generalize D:dN x i=j at *;obtain⟨t,E⟩:=aaO a.tk.1;have c:t<x.ts.length:=by have:=a.tk.2;omega
 have r:(gH j).tk=t:=E;split
 .exact gone 2
 .split
  .rename_i F;refine fin _ ((hk.ED i ((q aQ).mono (ab2 _) (ab0 _))).mono (λ_=>aaH _) (λ_=>aaH _) (aaH _) (aaH _) (ab2 _))
  .rename_i F;split
   .exact gone 3
   .split
    .split
     .rename_i s;have:({gH j with bh:=true}:Jb)=gH j:=by
       cases hq:gH j;rw[hq] at s;simp at s;subst s;rfl
      rw[this] at b;exact fin _ ((hk.ED i (b.mono (ab2 _) (ab0 _))).mono (λ_=>aaH _) (λ_=>aaH _) (aaH _) (aaH _) (ab2 _))
     .have hq:zR x.ts.length (k+1) (x.nw+1) {gH j with bh:=true,rs:=(gH j).rs+1}:=by
       have d:=b.mono (K':=k+1) (ab2 _) (ab0 _);exact⟨d.tk,d.nu,d.ca,d.de,d.ra,d.lf,d.bh,by have:0<=j.rs/\j.rs<=k:=a.rs;show 0<=j.rs+1/\j.rs+1<=((k+1:Nat):Int);omega⟩
      have u:=hk.ED i hq;have G:cC (cC (uS x) i (gH j)) i {gH j with bh:=true,rs:=(gH j).rs+1}=cC (uS x) i {gH j with bh:=true,rs:=(gH j).rs+1}:=by simp[cC]
      rw[G];exact fin _ (u.note 4 _)
    .obtain⟨hs,M,f⟩:=eA.rK hk (i:=t) c;have l:Cz (gT (uS x) t):=(eA.task hk c).2;have o:=hk.nw;have hp:=ZU f o.1 o.2;have H:=f.n1;have I:=f.n0;have u:=hk.CY t hp;rw[r];rw[S1];refine eA.mono (eA.note (eA.ED u i ?_) 5 _) (λj=>by split <;> omega) (λ_=>aaH _) (aaH _) (aaH _) (aaH _);have:=l.co;have:=l.de;have Kt:0<=j.rs/\j.rs<=k:=a.rs;have J:0<=j.ra/\j.ra<=x.nw:=a.ra;have v:0<=j.nu/\j.nu<=k:=a.nu;have hmx:0<=(jD (jA (uS x) t) (uS x).nw).2/\(jD (jA (uS x) t) (uS x).nw).2<=1048576 *((k:Int)+2):=by
      show 0<=max (uS x).nw (jA (uS x) t).next/\max (uS x).nw (jA (uS x) t).next<=_;omega
     generalize (jD (jA (uS x) t) (uS x).nw).2=p at *;exact⟨⟨by simp only;omega,by simp only;exact Int.ofNat_lt.2 c⟩,⟨v.1,by show j.nu<=((k+1:Nat):Int);omega⟩,⟨by simp only;omega,by simp only;omega⟩,⟨by simp only;omega,by simp only;omega⟩,⟨by show 0<=j.ra+1;omega,by show j.ra+1<=x.nw+1;omega⟩,⟨by simp only;omega,by simp only;omega⟩,λ_=>by simp only;omega,⟨by show 0<=j.rs+1;omega,by show j.rs+1<=((k+1:Nat):Int);omega⟩⟩
theorem QG(x:Lb)(i:Nat):(GK x i).jb.length=x.jb.length/\(GK x i).ts=x.ts:=by
 unfold GK;simp only;split
 .exact⟨by simp[iK,cC],rfl⟩
 .exact⟨rfl,rfl⟩
theorem uG(x:Lb):∀i,(eX x i).jb.length=x.jb.length/\(eX x i).ts=x.ts
 |0=>⟨rfl,rfl⟩
 |i+1=>⟨(QG _ i).1.trans (uG x i).1,(QG _ i).2.trans (uG x i).2⟩
theorem eA.PM{e:Nat}(h:eA x sb nb K m e):∀i,i<=x.jb.length->eA (eX x i) sb nb K m (e+i)
 |0,_=>h
 |i+1,hi=>by
  have h1:=eA.PM h i aQ;show eA (GK (eX x i) i) sb nb K m (e+(i+1));unfold GK;simp only;split
  .have b:=(uG x i).1;have a:=(h1.l9 (i:=i) aQ).2;exact(h1.ED i (j:={dN (eX x i) i with lt:=true}) ⟨a.tk,a.nu,a.ca,a.de,a.ra,a.lf,a.bh,a.rs⟩).note 6 _
  .exact h1.mono (λ_=>aaH _) (λ_=>aaH _) (aaH _) (aaH _) aQ
theorem ZK(x:Lb)(i:Nat):(MU x i).ts=x.ts/\(MU x i).nw=x.nw:=by
 unfold MU;split
 .exact⟨rfl,rfl⟩
 .exact⟨rfl,rfl⟩
theorem GV(x:Lb):∀i,(eQ x i).ts=x.ts/\(eQ x i).nw=x.nw
 |0=>⟨rfl,rfl⟩
 |i+1=>⟨(ZK _ i).1.trans (GV x i).1,(ZK _ i).2.trans (GV x i).2⟩
theorem eA.Hi{a b:Nat}{e:Nat}(hK:b+1<=K)(h:eA x (λ_=>a) (λ_=>b) K m e):∀i,i<=x.ts.length->eA (eQ x i) (λj=>if j<i then a+1 else a) (λj=>if j<i then b+1 else b) K (m+i) (e+i)
 |0,_=>h.mono (λj=>by simp) (λj=>by simp) (aaH _) (aaH _) (aaH _)
 |i+1,hi=>by
  have h1:=eA.Hi hK h i aQ;have c:=(GV x i).1;show eA (MU (eQ x i) i) _ _ _ _ _;unfold MU;split
  .obtain⟨hs,g,d⟩:=h1.rK (i:=i) (by rw[c];omega);rw[aaL (acA i)] at d;have f:=(h1.CY i (SI (now:=(eQ x i).nw) d)).comes (i:=i) (by show i<(eQ x i).ts.length;rw[c];omega) ((eQ x i).wt.getD i 0) (by rw[aaL (acA i)];exact hK);refine f.mono (λj=>?_) (λj=>?_) (aaH _) aQ aQ
   .split
    .split <;> omega
    .split <;> split <;> omega
   .split
    .split <;> split <;> omega
    .split <;> split <;> omega
  .refine h1.mono (λj=>?_) (λj=>?_) (aaH _) aQ aQ
   .split <;> split <;> omega
   .split <;> split <;> omega
theorem U6(x:Lb):∀k,(∀f,(fP x k).1=some f->f<k)/\∀f,(fP x k).2=some f->f<k
 |0=>⟨λf h=>by simp[fP] at h,λf h=>by simp[fP] at h⟩
 |k+1=>by
  obtain⟨h1,a⟩:=U6 x k;unfold fP;split
  .exact⟨λf h=>by have:=h1 f h;omega,λf h=>by have:=a f h;omega⟩
  .refine⟨λf h=>?_,λf h=>?_⟩
   .simp only at h;split at h
    .injection h with h;omega
    .have:=h1 f h;omega
   .simp only at h;split at h
    .injection h with h;omega
    .have:=a f h;omega
theorem QC{f:Nat}(h:nF x=some f):f<x.jb.length:=by
 obtain⟨h1,a⟩:=U6 x x.jb.length;unfold nF at h;split at h
 .cases h
 .rename_i q hq;split at h
  .injection h with h;subst h;exact h1 q hq
  .exact a f h
theorem lN.dL{k:Nat}(h:lN x k)(a:x.nw<1048576)(given:Bool):eA (sM x given) (λ_=>k+1) (λ_=>k) (k+1) (8 *k) (1000000 *k+1)/\(sM x given).ts.length=x.ts.length:=by
 unfold sM;split
 .exact⟨(eA.up h a).mono (λ_=>ab2 _) (λ_=>aaH _) (ab2 _) (aaH _) aQ,rfl⟩
 .rename_i i hp;have hi:i<x.jb.length:=by
   unfold oM at hp;split at hp
   .exact QC hp
   .cases hp
  refine⟨lN.run h a hi,?_⟩;unfold tR;simp only;repeat' split
  all_goals rfl
theorem lN.tick{k:Nat}(h:lN x k)(b:x.nw<1048576)(hk:k<=100000)(given:Bool):lN (jF x given) (k+2):=by
 obtain⟨h1,c⟩:=lN.dL h b given;have d:=h1.PM _ (aaH _);have a:(eX (sM x given) (sM x given).jb.length).ts=(sM x given).ts:=(uG _ _).2;have f:=eA.Hi (aaH _) d x.ts.length (by rw[a,c];exact aaH _);have i:=h1.jl;have g:=h.n;exact eA.mono f (λj=>by split <;> omega) (λj=>by split <;> omega) aQ aQ aQ
end
end
section
open Go.RowKit Go.Lib Go.Shelf
variable{l':List Pt}{x':Lb}{y':La}
section
theorem lN.SG{k:Nat}(h:lN x k):IV x (8 *k) (1000000 *k):=
 ⟨h.lr,h.ls,h.ln,h.lw,h.n,λt a=>⟨(h.tk t a).co.1,(h.tk t a).co.2,(h.tk t a).pe.1,(h.tk t a).pe.2,(h.tk t a).de.1,(h.tk t a).de.2,(h.tk t a).se,(h.tk t a).po.1,(h.tk t a).po.2⟩,h.nw.1,h.nw.2,
  λs hs=>by
   obtain⟨i,hi,rfl⟩:=aa2 hs;exact(h.sk i _ (aaG hi)).mono aQ,
  λv d=>by
   obtain⟨i,hi,rfl⟩:=aa2 d;have:=h.nk i _ (aaG hi);omega,
  h.jl,λj e=>by
   have h1:=h.jk j e;have b:=h1.tk;have a2:=h1.ra;have a3:=h1.lf;have a4:=h1.ca;have a5:=h1.de;have f:=h1.rs;have l:=h.nw;exact⟨b.1,b.2,a2.1,a2.2,aQ,a3.2,a4.1,aQ,a5.1,aQ,f.1,aQ⟩,h.lg⟩
section
variable{F:Nat->Prop}{w w':aA}{g:Nat}{x:Lb}{y:La}{i q c:Nat}{A:Option aJ}
theorem Ob.sN{l:List Pt}(h:Ob l F w)(i:Nat)(p d:Pt)(hp:l[i]?=some p)(e:l.set i d=l')(f:∀G,p.X G w->d.X G w'/\Kp G w w'):Ob l' F w'/\Kp F w w':=by
 obtain⟨j,h1⟩:=h;obtain⟨a,b⟩:=f _ (h1.get i hp);obtain⟨o,k⟩:=h1.eV i d a b;rw[e] at o;exact⟨⟨_,o⟩,k⟩
theorem bP.cell(h:bP F w g x y)(i:Nat)(v:Value)(e:fL x' y'=(fL x y).setIfInBounds i v)(d:y'.L.map Tm.t=x'.ts)(f:((iM g x y).set 0 (PB g 193 (fL x' y')))=iM g x' y'):bP F (w.setCell (g,i) v) g x' y'/\Kp F w (w.setCell (g,i) v):=by
 obtain⟨a,b⟩:=h.o.sN 0 (PB g 193 (fL x y)) (PB g 193 (fL x' y')) rfl f (λG j=>j.set i v e);exact⟨⟨d,a⟩,b⟩
theorem bP.now(h:bP F w g x y)(v:Int):bP F (w.setCell (g,11) v) g {x with nw:=v} y/\Kp F w (w.setCell (g,11) v):=h.cell 11 _ rfl h.ts rfl
theorem bP.yC(h:bP F w g x y){v:Ev}(e:n=x.lg.length)(ho:bB rD 4 w' 0 165 A c (x.lg++ [v]))(f:w.grownBy w' (aZ y.G))(j:aZ A=aZ y.G\/aZ A=some w.heap.size):
 bP F (w'.setCell (g,16) (.slice A (n+1) c)) g {x with lg:=x.lg++ [v]} {y with G:=A,cG:=c}/\Kp F w (w'.setCell (g,16) (.slice A (n+1) c)):=by
 obtain⟨a,b⟩:=h.o.sN 8 (PR rD 4 165 y.G y.cG x.lg) (PR rD 4 165 A c (x.lg++ [v])) rfl rfl (λG d=>fT.eV d ho f j);obtain⟨a2,b2⟩:=a.sN (w':=w'.setCell ⟨g,16,none⟩ (.slice A (n+1) c)) (l':=iM g {x with lg:=x.lg++ [v]} {y with G:=A,cG:=c}) 0 (PB g 193 (fL x y)) (PB g 193 (fL {x with lg:=x.lg++ [v]} {y with G:=A,cG:=c})) rfl rfl (λG d=>d.set 16 _ (by simp[fL,e]));exact⟨⟨h.ts,a2⟩,b.trans b2⟩
theorem bP.FT(h:bP F w g x y){v:Jb}(e:n=x.jb.length)(ho:bB jI 11 w' 0 209 A c (x.jb++ [v]))(f:w.grownBy w' (aZ y.J))(j:aZ A=aZ y.J\/aZ A=some w.heap.size):
 bP F (w'.setCell (g,15) (.slice A (n+1) c)) g {x with jb:=x.jb++ [v]} {y with J:=A,cJ:=c}/\Kp F w (w'.setCell (g,15) (.slice A (n+1) c)):=by
 obtain⟨a,b⟩:=h.o.sN 7 (PR jI 11 209 y.J y.cJ x.jb) (PR jI 11 209 A c (x.jb++ [v])) rfl rfl (λG d=>fT.eV d ho f j);obtain⟨a2,b2⟩:=a.sN (w':=w'.setCell ⟨g,15,none⟩ (.slice A (n+1) c)) (l':=iM g {x with jb:=x.jb++ [v]} {y with J:=A,cJ:=c}) 0 (PB g 193 (fL x y)) (PB g 193 (fL {x with jb:=x.jb++ [v]} {y with J:=A,cJ:=c})) rfl rfl (λG d=>d.set 15 _ (by simp[fL,e]));exact⟨⟨h.ts,a2⟩,b.trans b2⟩
theorem bP.left(h:bP F w g x y)(hi:i<x.jb.length)(ho:bB jI 11 w' 0 209 y.J c (x.jb.eraseIdx i))(e:w.grownBy w' (aZ y.J))(f:n=(x.jb.eraseIdx i).length):
 bP F (w'.setCell (g,15) (.slice y.J n c)) g {x with jb:=x.jb.eraseIdx i} {y with cJ:=c}/\Kp F w (w'.setCell (g,15) (.slice y.J n c)):=by
 obtain⟨a,b⟩:=h.o.sN 7 (PR jI 11 209 y.J y.cJ x.jb) (PR jI 11 209 y.J c (x.jb.eraseIdx i)) rfl rfl (λG d=>fT.eV d ho e (.inl rfl));obtain⟨a2,b2⟩:=a.sN (w':=w'.setCell ⟨g,15,none⟩ (.slice y.J n c)) (l':=iM g {x with jb:=x.jb.eraseIdx i} {y with cJ:=c}) 0 (PB g 193 (fL x y)) (PB g 193 (fL {x with jb:=x.jb.eraseIdx i} {y with cJ:=c})) rfl rfl (λG d=>d.set 15 _ (by simp[fL,f]));exact⟨⟨h.ts,a2⟩,b.trans b2⟩
theorem bP.Tg(h:bP F w g x y)(hq:y.U=some ⟨q,0,none⟩)(hi:i<x.nu.length)(v:Int):bP F (w.setCell (q,i) v) g {x with nu:=x.nu.set i v} y/\Kp F w (w.setCell (q,i) v):=by
 obtain⟨a,b⟩:=h.o.sN (w':=w.setCell ⟨q,i,none⟩ v) (l':=iM g {x with nu:=x.nu.set i v} y) 5 (PR eI 1 3 y.U y.cU x.nu) (PR eI 1 3 y.U y.cU (x.nu.set i v)) rfl (by simp[iM,fL]) (λG e=>by
  have d:fT eI 1 3 y.U y.cU x.nu G w:=e;show fT eI 1 3 y.U y.cU (x.nu.set i v) G _/\_;rw[hq] at d⊢;simpa using fT.cell (j:=0) fX.len d hi aQ v (.int .i64 v) rfl)
 exact⟨⟨h.ts,a⟩,b⟩
theorem bP.My(h:bP F w g x y)(hq:y.V=some ⟨q,0,none⟩)(hi:i<x.wt.length)(v:Int):bP F (w.setCell (q,i) v) g {x with wt:=x.wt.set i v} y/\Kp F w (w.setCell (q,i) v):=by
 obtain⟨a,b⟩:=h.o.sN (w':=w.setCell ⟨q,i,none⟩ v) (l':=iM g {x with wt:=x.wt.set i v} y) 6 (PR eI 1 3 y.V y.cV x.wt) (PR eI 1 3 y.V y.cV (x.wt.set i v)) rfl (by simp[iM,fL]) (λG e=>by
  have d:fT eI 1 3 y.V y.cV x.wt G w:=e;show fT eI 1 3 y.V y.cV (x.wt.set i v) G _/\_;rw[hq] at d⊢;simpa using fT.cell (j:=0) fX.len d hi aQ v (.int .i64 v) rfl)
 exact⟨⟨h.ts,a⟩,b⟩
theorem bP.ED(h:bP F w g x y)(hq:y.J=some ⟨q,0,none⟩)(hi:i<x.jb.length){f:Nat}(k:f<11)(j:Jb)(v:Value)(l:jI j=(jI (dN x i)).set f v):bP F (w.setCell (q,i *11+f) v) g (cC x i j) y/\Kp F w (w.setCell (q,i *11+f) v):=by
 have e:jI j=(jI x.jb[i]).set f v:=by
  rw[l];unfold dN;rw[aaU,aaG hi];rfl
 obtain⟨a,b⟩:=h.o.sN (w':=w.setCell ⟨q,i *11+f,none⟩ v) (l':=iM g (cC x i j) y) 7 (PR jI 11 209 y.J y.cJ x.jb) (PR jI 11 209 y.J y.cJ (x.jb.set i j)) rfl (by simp[iM,fL,cC]) (λG m=>by
  have d:fT jI 11 209 y.J y.cJ x.jb G w:=m;show fT jI 11 209 y.J y.cJ (x.jb.set i j) G _/\_;rw[hq] at d⊢;exact fT.cell jR.len d hi k j v e)
 exact⟨⟨h.ts,a⟩,b⟩
theorem bP.XO(h:bP F w g x y)(b:x.sh.length=x.ts.length)(hi:i<x.ts.length):∃q a,y.S=some ⟨q,0,none⟩/\w.cell? ⟨q,i,none⟩=some (.pointer (some ⟨a,0,none⟩))/\Sh w a (jA x i)/\y.a.length=x.ts.length/\
 ∀(w':aA) (s:iY),Sh w' a s->w.grownBy w' (some a)->bP F w' g (dX x i s) y/\Kp F w w':=by
 obtain⟨f,h1⟩:=h.o;have hs:EI (Fo w f 5) w y.a x.sh:=h1.get 4 (p:=OB y.a x.sh) rfl;have k:fT xS 1 194 y.S y.cS y.a (Fo w f 4) w:=h1.get 3 (p:=PR xS 1 194 y.S y.cS y.a) rfl;have d:i<y.a.length:=by rw[hs.len,b];exact hi
 have e:i<x.sh.length:=by rw[b];exact hi
 obtain⟨q,hq⟩:=wC k.o aQ;have ho:=k.o;rw[hq] at ho;have l:jA x i=x.sh[i]:=by unfold jA;rw[aaW,aaU,aaG e];rfl
 refine⟨q,y.a[i],hq,by simpa using bG D3 ho d (j:=0) rfl,by rw[l];exact hs.sh i d e,by rw[hs.len,b],λw' s m n=>?_⟩;obtain⟨r,b1⟩:=h.o.sN (w':=w') (l':=iM g (dX x i s) y) 4 (OB y.a x.sh) (OB y.a (x.sh.set i s)) rfl (by simp[iM,fL,dX]) (λG t=>EI.eV t d e m n);exact⟨⟨h.ts,r⟩,b1⟩
end
end
end
variable{j:Nat}{v:Sv}
section
section
structure Pv where
 sv:Option Sv
 rd:Bool
structure Sd where
 P:List Pv
 b:Bs
 nw:Int
 tu:Int
def kJ(p:Pv):Bool:=match p.sv with|some v=>AB v|none=>false
structure gE(s:Sd):Prop where
 n:1<=s.P.length/\s.P.length<=8
 sv:∀p∈s.P,∀v,p.sv=some v->mE s.nw v
 bk:uA s.b
 nw:0<=s.nw/\s.nw<=1048576
 tu:0<=s.tu/\s.tu<s.P.length
 bn:0<=s.b.bn/\s.b.bn<=s.nw
 nP:(s.b.L.length+s.P.countP kJ:Int)<=s.nw
 has:∀(i:Nat) (p:Pv),s.P[i]?=some p->s.b.f i=p.sv.map λv=>eC v.bu v.pe
 o:∀(i:Nat),s.P.length<=i->s.b.f i=none
variable{s:Sd}
theorem gE.len(h:gE s):s.b.L.length<=1048576:=by
 have:=h.nP;have:=h.nw;omega
def pK(s:Sd)(i:Nat)(bu pe:Int):Sd:=if lI s.b i bu pe=0 then {s with b:=pI s.b i bu pe,P:=s.P.modify i λp=>{p with sv:=some (lK bu pe)}} else s
def rG(s:Sd)(i:Nat)(v:Sv):Sd:={s with b:=pL s.b i (fF v),P:=s.P.modify i λp=>{p with sv:=none}}
def FD(s:Sd)(i:Nat)(r:Bool):Sd:={s with P:=s.P.modify i λp=>{p with rd:=r}}
theorem tE{l:List Pv}{f:Pv->Pv}{p:Pv}(h:l[i]?=some p):(l.modify i f).countP kJ+(if kJ p then 1 else 0)=l.countP kJ+(if kJ (f p) then 1 else 0):=by
 induction l generalizing i with
 |nil=>simp at h
 |cons x l a=>
  cases i with
  |zero=>
   simp at h;subst h;simp only[List.modify_zero_cons,List.countP_cons];omega
  |succ i=>
   have:=a (i:=i) (by simpa using h);simp only[List.modify_succ_cons,List.countP_cons];omega
theorem get_modify{l:List Pv}{f:Pv->Pv}{q:Pv}(h:(l.modify i f)[j]?=some q):∃p,l[j]?=some p/\q=if j=i then f p else p:=by
 rw[ac3] at h;cases hp:l[j]? with
 |none=>rw[hp] at h;simp at h
 |some p=>
  rw[hp] at h;simp at h;refine⟨p,rfl,?_⟩;rw[<-h];by_cases a:i=j
  .rw[aaK a,aaK a.symm]
  .rw[aaL a,aaL (λe=>a e.symm)]
theorem mem_modify{l:List Pv}{f:Pv->Pv}{q:Pv}(h:q∈l.modify i f):∃p∈l,q=p\/q=f p:=by
 obtain⟨j,a,rfl⟩:=aa2 h;obtain⟨p,hp,he⟩:=get_modify (aaG a);refine⟨p,aa1 hp,?_⟩;rw[he];split
 .exact .inr rfl
 .exact .inl rfl
theorem gE.zT(h:gE s)(i:Nat)(r:Bool):gE (FD s i r):=by
 have a:(s.P.modify i λp=>{p with rd:=r}).length=s.P.length:=ab9 ..;refine⟨by simp only[FD];rw[a];exact h.n,λq hq v b=>?_,h.bk,h.nw,by simp only[FD];rw[a];exact h.tu,h.bn,?_,λj q hq=>?_,λj c=>h.o j (by simpa only[FD,a] using c)⟩
 .obtain⟨p,hp,rfl|rfl⟩:=mem_modify hq
  .exact h.sv _ hp v b
  .exact h.sv p hp v b
 .simp only[FD];cases hp:s.P[i]? with
  |none=>rw[List.modify_eq_self (by rw[List.getElem?_eq_none_iff] at hp;exact hp)];exact h.nP
  |some p=>
   have:=tE (f:=λp:Pv=>{p with rd:=r}) hp;have hu:kJ {p with rd:=r}=kJ p:=rfl;rw[hu] at this;have:=h.nP;omega
 .obtain⟨p,hp,he⟩:=get_modify hq;have:=h.has j p hp;rw[he];split
  .exact this
  .exact this
theorem gE.res(h:gE s)(hi:i<s.P.length)(bu pe:Int):gE (pK s i bu pe):=by
 unfold pK;split
 .rename_i he;have k:(s.P.modify i λp=>{p with sv:=some (lK bu pe)}).length=s.P.length:=ab9 ..;have t:=h.n;have e:mY bu pe=true/\s.b.f i=none:=by
   unfold lI at he;split at he
   .rename_i e;split at he
    .cases he
    .rename_i r;exact⟨e,by cases l:s.b.f i with|none=>rfl|some v=>rw[l] at r;simp at r⟩
   .cases he
  have hp:=aaG hi;have g:pI s.b i bu pe={s.b with f:=fZ s.b.f i (some (eC bu pe)),us:=s.b.us+eC bu pe}:=by unfold pI;rw[aaK he]
  have a:s.P[i].sv=none:=by
   have:=h.has i _ hp;rw[e.2] at this;cases c:s.P[i].sv with
   |none=>rfl
   |some v=>rw[c] at this;simp at this
  refine⟨by simp only;rw[k];exact t,λq hq v c=>?_,h.bk.Yx aQ,h.nw,by simp only;rw[k];exact h.tu,by rw[g];exact h.bn,?_,λj q hq=>?_,λj d=>?_⟩
  .obtain⟨p,hp,rfl|rfl⟩:=mem_modify hq
   .exact h.sv _ hp v c
   .simp at c;rw[<-c];exact mE.new (xI e.1) h.nw.1
  .have:=tE (f:=λp:Pv=>{p with sv:=some (lK bu pe)}) hp;have hu:kJ {s.P[i] with sv:=some (lK bu pe)}=false:=rfl;have m:kJ s.P[i]=false:=by unfold kJ;rw[a]
   rw[hu,m] at this;have hc:=h.nP;rw[g];simp only[abB,ab4] at this⊢;omega
  .obtain⟨p,hp,he⟩:=get_modify hq;rw[g,he];simp only[fZ];by_cases d:j=i
   .subst d;rw[aaK rfl,aaK rfl];rfl
   .rw[aaL aQ,aaL d];exact h.has j p hp
  .rw[g];simp only[fZ];simp only[k] at d;rw[aaL aQ];exact h.o j d
 .exact h
theorem gE.rel(h:gE s){p:Pv}(hp:s.P[i]?=some p)(l:p.sv=some v):gE (rG s i v):=by
 have d:(s.P.modify i λp=>{p with sv:=none}).length=s.P.length:=ab9 ..;have r:s.b.f i=some (eC v.bu v.pe):=by rw[h.has i p hp,l];rfl
 have hF:(pL s.b i (fF v)).f=fZ s.b.f i none/\(pL s.b i (fF v)).bn=s.b.bn/\(pL s.b i (fF v)).L.length<=s.b.L.length+(if s.b.bn<fF v then 1 else 0):=by
  unfold pL;rw[r];simp only;split
  .exact⟨rfl,rfl,aT⟩
  .exact⟨rfl,rfl,aT⟩
 refine⟨by simp only[rG];rw[d];exact h.n,λq hq u hu=>?_,h.bk.rel,h.nw,by simp only[rG];rw[d];exact h.tu,by simp only[rG];rw[hF.2.1];exact h.bn,?_,λj q hq=>?_,λj c=>?_⟩
 .obtain⟨y,e,rfl|rfl⟩:=mem_modify hq
  .exact h.sv _ e u hu
  .simp at hu
 .have hc:=tE (f:=λp:Pv=>{p with sv:=none}) hp;have hu:kJ {p with sv:=none}=false:=rfl;have g:kJ p=AB v:=by unfold kJ;rw[l]
  rw[hu,g] at hc;have t:=h.nP;have m:=hF.2.2;simp only[rG];simp only[abB,ab4] at hc;cases a:AB v with
  |true=>
   rw[a] at hc;simp only[acY] at hc;split at m <;> omega
  |false=>
   rw[CP a,aaL (by have:=h.bn;omega)] at m;rw[CP a];rw[a] at hc;simp only[abB,ab4] at hc;omega
 .obtain⟨x,k,he⟩:=get_modify hq;simp only[rG];rw[hF.1,he];simp only[fZ];by_cases c:j=i
  .subst c;rw[aaK rfl,aaK rfl];rfl
  .rw[aaL aQ,aaL c];exact h.has j x k
 .simp only[rG];rw[hF.1];simp only[fZ];simp only[rG,d] at c;split
  .rfl
  .exact h.o j c
end
end
section
open Go.RowKit Go.Lib Go.Shelf
variable{P':List Pv}{v':Sv}{F:Nat->Prop}{w:aA}{g q d:Nat}{s:Sd}{ow:Nat->Nat}{M:Option Nat}{B:Option aJ}
section
structure Pm where
 pt:Option Nat
 rd:Bool
def Ae(p:Option Nat):Option aJ:=p.map λh=>⟨h,0,none⟩
def LF(p:Pm):List Value:= [.pointer (Ae p.pt), .bool p.rd]
theorem RR:eY LF 2:=⟨λ_=>rfl,λx u hu=>by simp[LF] at hu;rcases hu with rfl|rfl <;> rfl⟩
def IP(w:aA)(ow:Nat->Nat)(i:Nat)(r:Pm)(p:Pv):Prop:=r.rd=p.rd/\(p.sv=none->r.pt=none)/\∀v,p.sv=some v->∃h,r.pt=some h/\tA (Fo w ow (3+i)) w h v
structure iG(F:Nat->Prop)(w:aA)(g:Nat)(s:Sd)(ow:Nat->Nat)(q:Nat)(R:List Pm)(M:Option Nat)(B:Option aJ)(d:Nat):Prop where
 fn:zU F w ow
 bk:fY (Fo w ow 1) w g q s.P.length s.P.length s.b M B d s.nw s.tu
 row:bB LF 2 w 0 219 q s.P.length R
 oq:ow q=2
 len:R.length=s.P.length
 ml:∀(i:Nat) (h:i<R.length) (h':i<s.P.length),IP w ow i R[i] s.P[i]
def lM(F:Nat->Prop)(w:aA)(g:Nat)(s:Sd):Prop:=∃ow q R M B d,iG F w g s ow q R M B d
variable{R':List Pm}
section
variable{F G H:Nat->Prop}{w w':aA}{ow:Nat->Nat}{g q i j n c d d':Nat}{s:Sd}{R:List Pm}{M M':Option Nat}{B B' E:Option aJ}{b b':Bs}{nw tu:Int}
theorem fY.bX(g n c d:Nat)(E B:Option aJ)(nw tu:Int)(M:Option Nat)(b:Bs):dV (λF w=>fY F w g E n c b M B d nw tu):=λ_ _ _ _ _ h k a fl hH=>h.move k a fl hH
theorem IP.other{r:Pm}{p:Pv}(h:IP w ow i r p)(k:Kp (Fo w ow j) w w')(f:j≠3+i):IP w' (nx w ow j) i r p:=⟨h.1,h.2.1,λv l=>by
 obtain⟨a,h1,m⟩:=h.2.2 v l;exact⟨a,h1,(tA.bX a v).other m k (λe=>f e.symm)⟩⟩
theorem iG.lq(h:iG F w g s ow q R M B d):q<w.heap.size:=(h.row.lt q rfl).2
theorem iG.Cn(h:iG F w g s ow q R M B d)(i:Nat):nx w ow i q=2:=(yO h.lq).trans h.oq
theorem iG.kX(h:iG F w g s ow q R M B d)(k:Kp (Fo w ow i) w w')(hi:i≠2):bB LF 2 w' 0 219 q s.P.length R:=h.row.kp k (λr a=>by
 injection a with a;subst a;exact⟨h.lq,by rw[h.oq];exact λe=>hi e.symm⟩)
theorem iG.KG(h:iG F w g s ow q R M B d){nw' tu':Int}(hk:fY (Fo w ow 1) w' g q s.P.length s.P.length b' M' B' d' nw' tu')(k:Kp (Fo w ow 1) w w'):iG F w' g {s with b:=b',nw:=nw',tu:=tu'} (nx w ow 1) q R M' B' d'/\Kp F w w':=
 ⟨⟨h.fn.next k 1,dV.own (fY.bX _ _ _ _ _ _ _ _ _ _) hk k,h.kX k cD,h.Cn 1,h.len,λi hi a=>(h.ml i hi a).other k aQ⟩,h.fn.kp k cD⟩
theorem iG.Vb(h:iG F w g s ow q R M B d)(a:P'.length=s.P.length)(e:R'.length=P'.length)(f:bB LF 2 w' 0 219 q s.P.length R')(k:Kp (Fo w ow 2) w w')(hm:∀(i:Nat) (h:i<R'.length) (l:i<P'.length),IP w' (nx w ow 2) i R'[i] P'[i]):iG F w' g {s with P:=P'} (nx w ow 2) q R' M B d/\Kp F w w':=
 ⟨⟨h.fn.next k 2,by rw[a];exact dV.other (fY.bX _ _ _ _ _ _ _ _ _ _) h.bk k cD,by rw[a];exact f,h.Cn 2,e,hm⟩,h.fn.kp k cD⟩
theorem iG.Ky(h:iG F w g s ow q R M B d)(hi:i<s.P.length)(l:i<R.length){a:Nat}(hp:R[i].pt=some a)(o:s.P[i].sv=some v)(hs:tA (Fo w ow (3+i)) w' a v')(k:Kp (Fo w ow (3+i)) w w'):iG F w' g {s with P:=s.P.set i {s.P[i] with sv:=some v'}} (nx w ow (3+i)) q R M B d/\Kp F w w':=by
 refine⟨⟨h.fn.next k _,by simp only[aaV];exact dV.other (fY.bX _ _ _ _ _ _ _ _ _ _) h.bk k aQ,by simp only[aaV];exact h.kX k aQ,h.Cn _,by simp only[aaV];exact h.len,λm hm f=>?_⟩,h.fn.kp k aQ⟩;simp only[aaV] at f;simp only[abF];split
 .rename_i e;subst e;exact⟨(h.ml _ hm f).1,λe=>(by cases e),λu hu=>(by injection hu with hu;subst hu;exact⟨a,hp,(tA.bX a _).own hs k⟩)⟩
 .exact(h.ml m hm f).other k aQ
theorem iG.made(h:iG F w g s ow q R M B d)(hi:i<s.P.length)(l:s.P[i].sv=none){a:Nat}(hs:tA (λb=>b<w.heap.size) w' a v)(o:aD w w w'):iG F w' g s (nx w ow (3+i)) q R M B d/\tA (Fo w' (nx w ow (3+i)) (3+i)) w' a v/\Kp F w w':=by
 have k:Kp (Fo w ow (3+i)) w w':=Kp.dD o λb o=>o.1
 refine⟨⟨h.fn.next k _,dV.other (fY.bX _ _ _ _ _ _ _ _ _ _) h.bk k aQ,h.kX k aQ,h.Cn _,h.len,λm hm f=>?_⟩,?_,h.fn.kp k aQ⟩
 .by_cases e:m=i
  .subst e;exact⟨(h.ml _ hm f).1,(h.ml _ hm f).2.1,λu hu=>by rw[l] at hu;cases hu⟩
  .exact(h.ml m hm f).other k aQ
 .refine hs.move (Kp.refl (λ_=>True) _) (λ_ _ _=>trivial) (Fo.ol _ _ _) (λr t l p=>p.2 (KQ (Nat.not_lt.1 l)))
theorem iG.keep(h:iG F w g s ow q R M B d)(a:aD w w w'):iG F w' g s (nx w ow 0) q R M B d/\Kp F w w':=by
 have k:Kp (Fo w ow 0) w w':=Kp.dD a λb a=>a.1
 exact⟨⟨h.fn.next k _,dV.other (fY.bX _ _ _ _ _ _ _ _ _ _) h.bk k aQ,h.kX k aQ,h.Cn _,h.len,λm hm e=>(h.ml m hm e).other k aQ⟩,h.fn.ol.below a⟩
theorem lM.bX(g:Nat)(s:Sd):dV (λF w=>lM F w g s):=λF G H w w' ⟨ow,q,R,M,B,d,h⟩ k f fl hH=>by
 have m:∀r,r<w.heap.size->ow r≠0->¬F r:=λr e o p=>o (h.fn r p).2
 refine⟨mv w ow H,q,R,M,B,d,zU.mv fl,dV.part (fY.bX _ _ _ _ _ _ _ _ _ _) h.fn k f hH cD h.bk,h.row.kp k (λr e=>?_),(Wk h.lq ?_).trans h.oq,h.len,λi hi l=>?_⟩
 .injection e with e;subst e;exact f _ h.lq (m _ h.lq (by rw[h.oq];decide))
 .exact hH _ h.lq (m _ h.lq (by rw[h.oq];decide))
 .have hp:=h.ml i hi l;refine⟨hp.1,hp.2.1,λv t=>?_⟩;obtain⟨a,h1,u⟩:=hp.2.2 v t;exact⟨a,h1,(tA.bX a v).part h.fn k f hH aQ u⟩
theorem lM.fl(h:lM F w g s):Ol F w:=by obtain⟨ow,q,R,M,B,d,h⟩:=h;exact h.fn.ol
theorem iG.c0(h:iG F w g s ow q R M B d):w.cell? (g,0)=some (.slice q s.P.length s.P.length):=h.bk.b.cell 0 _ rfl
theorem iG.c5(h:iG F w g s ow q R M B d):w.cell? (g,5)=some (.int .i64 s.nw):=h.bk.b.cell 5 _ rfl
theorem iG.c6(h:iG F w g s ow q R M B d):w.cell? (g,6)=some (.int .i64 s.tu):=h.bk.b.cell 6 _ rfl
theorem iG.pl(h:iG F w g s ow q R M B d)(hi:i<R.length):w.cell? (q,i *2)=some (.pointer (Ae R[i].pt))/\w.cell? (q,i *2+1)=some (.bool R[i].rd)/\w.frozen? (q,i *2)=false/\w.frozen? (q,i *2+1)=false:=by
 have a:=h.len;have:=acB 2 (show i+1<=s.P.length from by omega);exact⟨bG RR h.row hi (j:=0) rfl,bG RR h.row hi (j:=1) rfl,(cH h.row _ aQ).2,(cH h.row _ aQ).2⟩
end
theorem LC{R:List Pm}(h:iG F w g s ow q R M B d)(a:s.P.length<=8)(hi:i<s.P.length):aG prog 64 #[.pointer g,i] w λe w'=>e= .returned (.pointer (some ⟨q,i *2,none⟩))/\w=w':=by
 have c0:=h.c0;have i0:¬(i:Int)<0:=aQ;have i2:(0:Int)<=i:=aQ;have i1:(i:Int)<(s.P.length:Int):=aQ;clear h;generalize s.P.length=n at *;go_enter func64,ntmps64
 go_wp2_with fail
 go_ret
 exact⟨aT,rfl⟩
theorem EY{R:List Pm}(h:iG F w g s ow q R M B d)(a:s.P.length<=8)(i:Int)(hi:i<0\/s.P.length<=i):aG prog 64 #[.pointer g,i] w λe w'=>e= .returned (.pointer none)/\w=w':=by
 have c0:=h.c0;clear h;generalize s.P.length=n at *;by_cases f:i<0
 .go_enter func64,ntmps64
  go_wp2_with fail
  go_ret
  exact⟨rfl,rfl⟩
 .have h1:(n:Int)<=i:=aQ;clear hi;go_enter func64,ntmps64
  go_wp2_with fail
  go_ret
  exact⟨rfl,rfl⟩
theorem wK(h:lM F w g s):aG prog 21 #[.pointer g] w λe w'=>e= .returned (.int .i64 s.nw)/\w=w':=by
 obtain⟨ow,q,R,M,B,d,h⟩:=h;have c5:=h.c5;clear h;go_enter func21,ntmps21
 go_wp2_with fail
 go_ret
 exact⟨rfl,rfl⟩
def iI(s:Sd)(e:Int):Bool:=if 0<=e then match s.P[e.toNat]? with|some p=>p.rd|none=>false else false
theorem Ru(h:lM F w g s)(l:s.P.length<=8)(i:Int):aG prog 30 #[.pointer g,i] w λe w'=>e= .returned (.bool (iI s i))/\w=w':=by
 obtain⟨ow,q,R,M,B,d,h⟩:=h;by_cases ho:i<0\/s.P.length<=i
 .have f:=aP (EY h l i ho);have k:aH (iI s i=false):=by
   show iI s i=false;unfold iI;split
   .rw[abZ aQ]
   .rfl
  clear h ho;generalize iI s i=v at *;go_enter func30,ntmps30
  go_wp2_with fail
  refine aR f ?_;rintro e m ⟨rfl,rfl⟩;go_wp2_with fail
  go_ret
  exact⟨by first|rfl|(rw[k.o];rfl),rfl⟩
 .obtain⟨n,rfl⟩:=aaO (show 0<=i by omega);have hi:n<s.P.length:=aQ;have a:n<R.length:=by have:=h.len;omega
  have f:=aP (LC h l hi);obtain⟨c0,c1,f0,f1⟩:=h.pl a;have k:aH (R[n].rd=iI s n):=by
   show R[n].rd=iI s n;unfold iI;rw[aaK aQ,aaW,aaG hi];exact(h.ml n a hi).1
  clear h ho;generalize R[n]=r at *;generalize iI s n=v at *;go_enter func30,ntmps30
  go_wp2_with fail
  refine aR f ?_;rintro e m ⟨rfl,rfl⟩;go_wp2_with fail
  go_ret
  exact⟨by first|rfl|(rw[k.o];rfl),rfl⟩
def rO(s:Sd)(e:Int):Option Sv:=if 0<=e then s.P[e.toNat]?.bind Pv.sv else none
theorem WU(h:lM F w g s)(p:s.P.length<=8)(i:Int):aG prog 115 #[.pointer g,i] w λe w'=>(∃pt,e= .returned (.pointer (Ae pt))/\(rO s i=none->pt=none)/\∀v,rO s i=some v->∃a,pt=some a/\tA F w a v)/\w=w':=by
 obtain⟨ow,q,R,M,B,d,h⟩:=h;by_cases ho:i<0\/s.P.length<=i
 .have m:=aP (EY h p i ho);have l:aH (rO s i=none):=by
   show rO s i=none;unfold rO;split
   .rw[abZ aQ];rfl
   .rfl
  clear h ho;generalize rO s i=v at *;go_enter func115,ntmps115
  go_wp2_with fail
  refine aR m ?_;rintro e t ⟨rfl,rfl⟩;go_wp2_with fail
  go_ret
  exact⟨⟨none,rfl,λ_=>rfl,λv f=>by rw[l.o] at f;cases f⟩,rfl⟩
 .obtain⟨n,rfl⟩:=aaO (show 0<=i by omega);have hi:n<s.P.length:=aQ;have k:n<R.length:=by have:=h.len;omega
  have m:=aP (LC h p hi);obtain⟨c0,c1,f0,f1⟩:=h.pl k;have l:aH ((rO s n=none->R[n].pt=none)/\∀v,rO s n=some v->∃a,R[n].pt=some a/\tA F w a v):=by
   have hq:rO s n=s.P[n].sv:=by
    unfold rO;rw[aaK aQ,aaW,aaG hi];rfl
   have hm:=h.ml n k hi;refine⟨λf=>hm.2.1 (by rw[<-hq];exact f),λv f=>?_⟩;obtain⟨a,h1,u⟩:=hm.2.2 v (by rw[<-hq];exact f);exact⟨a,h1,u.move (Kp.refl (λ_=>True) _) (λ_ _ _=>trivial) h.fn.ol (λr x y z=>y ⟨x,by rw[(h.fn r z).2];omega⟩)⟩
  clear h ho;generalize R[n]=r at *;go_enter func115,ntmps115
  go_wp2_with fail
  refine aR m ?_;rintro e t ⟨rfl,rfl⟩;go_wp2_with fail
  go_ret
  exact⟨⟨r.pt,rfl,l.o.1,l.o.2⟩,rfl⟩
end
end
end Go.Proofs.YtacgiflhgdaeaaaGreat
