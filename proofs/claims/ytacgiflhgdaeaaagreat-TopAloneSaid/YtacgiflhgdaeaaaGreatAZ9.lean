/- Texts laid as one. -/
import Derived.Test.YtacgiflhgdaeaaaGreatAZ7
import Derived.Test.YtacgiflhgdaeaaaGreatAZ8
set_option linter.unusedVariables false
set_option linter.unusedSimpArgs false
set_option maxRecDepth 100000
set_option maxHeartbeats 20000000
namespace Go.Proofs.YtacgiflhgdaeaaaGreat
open Go.Proofs.Tryz
open Go renaming World->aA,Addr->aJ,Calls->aG
open Go.RowKit renaming Below->aD,Hid->aH,intOf->aL
section
open Go.RowKit Go.Lib Go.Shelf
variable{F:Nat->Prop}{w:aA}{g n m:Nat}{x:Lb}{y:La}
section
theorem I8(n:Nat)(p:Nat->Bool):(List.range (n+1)).all p=((List.range n).all p&&p n):=by
 rw[acV,List.all_append];simp
theorem Di(x:Lb)(W:aA):∀(l:Nat),l<8->(Instr.index 62 (.agg #[.int .i64 (x.ce 0), .int .i64 (x.ce 1), .int .i64 (x.ce 2), .int .i64 (x.ce 3), .int .i64 (x.ce 4), .int .i64 (x.ce 5), .int .i64 (x.ce 6), .int .i64 (x.ce 7)]) (.int .i64 l)).run prog W= .ok (.int .i64 (x.ce l)) W:=λl hl=>by
 match l,hl with
 |0,_=>
  show(Instr.index 62 (.agg #[.int .i64 (x.ce 0), .int .i64 (x.ce 1), .int .i64 (x.ce 2), .int .i64 (x.ce 3), .int .i64 (x.ce 4), .int .i64 (x.ce 5), .int .i64 (x.ce 6), .int .i64 (x.ce 7)]) (.int .i64 ((0:Nat):Int))).run prog W= .ok (.int .i64 (x.ce 0)) W;kernel_rfl
 |1,_=>
  show(Instr.index 62 (.agg #[.int .i64 (x.ce 0), .int .i64 (x.ce 1), .int .i64 (x.ce 2), .int .i64 (x.ce 3), .int .i64 (x.ce 4), .int .i64 (x.ce 5), .int .i64 (x.ce 6), .int .i64 (x.ce 7)]) (.int .i64 ((1:Nat):Int))).run prog W= .ok (.int .i64 (x.ce 1)) W;kernel_rfl
 |2,_=>
  show(Instr.index 62 (.agg #[.int .i64 (x.ce 0), .int .i64 (x.ce 1), .int .i64 (x.ce 2), .int .i64 (x.ce 3), .int .i64 (x.ce 4), .int .i64 (x.ce 5), .int .i64 (x.ce 6), .int .i64 (x.ce 7)]) (.int .i64 ((2:Nat):Int))).run prog W= .ok (.int .i64 (x.ce 2)) W;kernel_rfl
 |3,_=>
  show(Instr.index 62 (.agg #[.int .i64 (x.ce 0), .int .i64 (x.ce 1), .int .i64 (x.ce 2), .int .i64 (x.ce 3), .int .i64 (x.ce 4), .int .i64 (x.ce 5), .int .i64 (x.ce 6), .int .i64 (x.ce 7)]) (.int .i64 ((3:Nat):Int))).run prog W= .ok (.int .i64 (x.ce 3)) W;kernel_rfl
 |4,_=>
  show(Instr.index 62 (.agg #[.int .i64 (x.ce 0), .int .i64 (x.ce 1), .int .i64 (x.ce 2), .int .i64 (x.ce 3), .int .i64 (x.ce 4), .int .i64 (x.ce 5), .int .i64 (x.ce 6), .int .i64 (x.ce 7)]) (.int .i64 ((4:Nat):Int))).run prog W= .ok (.int .i64 (x.ce 4)) W;kernel_rfl
 |5,_=>
  show(Instr.index 62 (.agg #[.int .i64 (x.ce 0), .int .i64 (x.ce 1), .int .i64 (x.ce 2), .int .i64 (x.ce 3), .int .i64 (x.ce 4), .int .i64 (x.ce 5), .int .i64 (x.ce 6), .int .i64 (x.ce 7)]) (.int .i64 ((5:Nat):Int))).run prog W= .ok (.int .i64 (x.ce 5)) W;kernel_rfl
 |6,_=>
  show(Instr.index 62 (.agg #[.int .i64 (x.ce 0), .int .i64 (x.ce 1), .int .i64 (x.ce 2), .int .i64 (x.ce 3), .int .i64 (x.ce 4), .int .i64 (x.ce 5), .int .i64 (x.ce 6), .int .i64 (x.ce 7)]) (.int .i64 ((6:Nat):Int))).run prog W= .ok (.int .i64 (x.ce 6)) W;kernel_rfl
 |7,_=>
  show(Instr.index 62 (.agg #[.int .i64 (x.ce 0), .int .i64 (x.ce 1), .int .i64 (x.ce 2), .int .i64 (x.ce 3), .int .i64 (x.ce 4), .int .i64 (x.ce 5), .int .i64 (x.ce 6), .int .i64 (x.ce 7)]) (.int .i64 ((7:Nat):Int))).run prog W= .ok (.int .i64 (x.ce 7)) W;kernel_rfl
theorem Fc(h:bR F w g x y)(D:GS x n m)(hn:n<=1000000){p:Nat}(hp:p<x.jb.length):aG prog 90 #[.pointer g,p] w λr w'=>r= .returned (.bool (IG x p))/\aD w w w':=by
 have R:=D.lI hp;obtain⟨i,hi⟩:=aaB R.t0;have S:i<x.rk.length:=by have:=R.t1;rw[D.lr];omega
 obtain⟨b1,hK,r1⟩:=h.LV S;obtain⟨q,hq,hc⟩:=h.lI hp;have e2:=h.c 2 (.slice y.K x.rk.length y.cK) rfl;have t:=h.c 15 (.slice y.J x.jb.length y.cJ) rfl;rw[hK] at e2;rw[hq] at t;have c0:=hc.c0;rw[hi] at c0;have hr:aH (yY x (dK x p).tk=yY x i):=by unfold aH;rw[hi]
 have i0:(0:Int)<=i:=aQ;have i1:(i:Int)<(x.rk.length:Int):=aQ;have p0:(0:Int)<=p:=aQ;have p1:(p:Int)<(x.jb.length:Int):=aQ;have Q:=aP h;have HI:=aP D;have HQ:=aP hq;have hjl:=D.jl;clear R hi hc hK hq h D;generalize yY x i=r at *;go_enter func90,ntmps90
 go_upto_region 1 with(fail)
 go_quiet (fail)
 go_wp2_with fail
 have T:aH (aD w w (w.drewN nq)):=eX _ _;generalize w.drewN nq=w1 at *;go_loopw [29] (λu wr=>∃k:Nat,k<=x.jb.length/\u= .int .i64 k/\aH ((List.range k).all (DF x p)=true)/\aH (aD w w wr)) (λu _=>x.jb.length - (aL u).toNat)
 case atStart=>exact⟨0,aaH _,rfl,rfl,T.o⟩
 case round=>
  obtain⟨k,hk,rfl,U,s⟩:=hrel;by_cases v:k<x.jb.length
  .have j1:(k:Int)<(x.jb.length:Int):=aQ;have j0:(0:Int)<=k:=aQ;by_cases E:k=p
   .subst E;have V:aH ((List.range (k+1)).all (DF x k)=true):=by unfold aH;rw[I8,U.o];simp[DF]
    go_wp2_with fail
    refine⟨⟨k+1,aQ,rfl,V.o,s.o⟩,by simp only[aL];omega⟩
   .have hkp':¬(k:Int)=(p:Int):=aQ;obtain⟨q',d,G⟩:=(Q.o.below s.o).lI v;have H:=aP G;have X:=aP (HI.o.lI v);rw[HQ.o] at d;injection d with d;injection d with d;subst d;have HM:aH (DF x p k=(List.range 8).all (LM x r (dK x k))):=by unfold aH DF;rw[hr.o];simp[E]
    have a:=Q.o.below s.o;have E0:wr.cell? (g,3)=some (.int .i64 (x.ce 0)):=a.c 3 _ rfl;have E1:wr.cell? (g,4)=some (.int .i64 (x.ce 1)):=a.c 4 _ rfl;have E2:wr.cell? (g,5)=some (.int .i64 (x.ce 2)):=a.c 5 _ rfl;have E3:wr.cell? (g,6)=some (.int .i64 (x.ce 3)):=a.c 6 _ rfl;have E4:wr.cell? (g,7)=some (.int .i64 (x.ce 4)):=a.c 7 _ rfl;have E5:wr.cell? (g,8)=some (.int .i64 (x.ce 5)):=a.c 8 _ rfl;have E6:wr.cell? (g,9)=some (.int .i64 (x.ce 6)):=a.c 9 _ rfl;have E7:wr.cell? (g,10)=some (.int .i64 (x.ce 7)):=a.c 10 _ rfl;have HG:=aP a;clear a e2 t c0;go_upto_region 6 with(fail)
    go_wp2_with fail
    obtain⟨B,I⟩:∃z,z=wr:=⟨_,rfl⟩
    rw[<-I] at H s HG E0 E1 E2 E3 E4 E5 E6 E7⊢;clear I G wr;go_loopw [39] (λv39 ws=>∃l:Nat,l<=8/\v39= .int .i64 l/\aH ((List.range l).all (LM x r (dK x k))=true)/\aH (aD B B ws)) (λv39 _=>8 - (aL v39).toNat)
    case atStart=>exact⟨0,aaH _,rfl,rfl,Below.refl _ _⟩
    case round=>
     clear E0 E1 E2 E3 E4 E5 E6 E7;obtain⟨l,hl,rfl,L,b⟩:=hrel;by_cases M:l<8
     .have l1:(l:Int)<8:=aQ;have N:=λW=>Di x W l M
      have f:aH (aD w w wr/\aD B B wr):=⟨s.o.trans (b.o.mono s.o.size),b.o⟩
      have O:aH ((List.range (l+1)).all (LM x r (dK x k))=LM x r (dK x k) l):=by unfold aH;rw[I8,L.o];simp
      have HD:aH (LM x r (dK x k) l=!(decide (x.ce l<=r)&&BH x (dK x k) l)):=rfl;by_cases P:x.ce l<=r
      .have C:=aP (VY (Q.o.below f.o.1) HI.o (H.o.keep b.o) X.o l);have t:wr.cell? (g,15)=some (.slice q x.jb.length y.cJ):=by
        have:=(Q.o.below f.o.1).c 15 (.slice y.J x.jb.length y.cJ) rfl;rw[HQ.o] at this;exact this
       rw[aa2 P] at HD;generalize x.ce l=cl at *;cases hh:BH x (dK x k) l
       .rw[hh] at C HD;go_wp2_with fail
        refine aR C ?_;rintro e Y ⟨rfl,j⟩;have A:aH (aD B B Y):=b.o.trans (j.mono b.o.size);clear j C N;go_wp2_with fail
        refine⟨⟨l+1,aQ,rfl,by rw[O.o,HD.o];rfl,A.o⟩,by simp only[aL];omega⟩
       .rw[hh] at C HD;have Z:aH (IG x p=false):=by
         have h1:DF x p k=false:=by
          rw[HM.o,List.all_eq_false];exact⟨l,ab1.2 M,by rw[HD.o];simp⟩
         unfold aH IG;rw[List.all_eq_false];exact⟨k,ab1.2 v,by rw[h1];simp⟩
        go_wp2_with fail
        refine aR C ?_;rintro e Y ⟨rfl,j⟩;have A:aH (aD w w Y):=f.o.1.trans (j.mono f.o.1.size);clear j C N;go_wp2_with fail
        go_ret
        rw[Z.o];exact⟨rfl,A.o⟩
      .rw[aaP P] at HD;generalize x.ce l=cl at *;go_wp2_with fail
       refine⟨⟨l+1,aQ,rfl,by rw[O.o,HD.o];rfl,b.o⟩,by simp only[aL];omega⟩
     .have l1:¬(l:Int)<8:=aQ;have a1:l=8:=aQ;have V:aH ((List.range (k+1)).all (DF x p)=true):=by
       unfold aH;rw[I8,U.o,HM.o,<-a1,L.o];rfl
      have f:aH (aD w w wr):=s.o.trans (b.o.mono s.o.size);go_wp2_with fail
      refine⟨⟨k+1,aQ,rfl,V.o,f.o⟩,by simp only[aL];omega⟩
  .have j1:¬(k:Int)<(x.jb.length:Int):=aQ;have a6:k=x.jb.length:=aQ;have Z:aH (IG x p=true):=by have:=U.o;rw[a6] at this;exact this
   go_wp2_with fail
   go_ret
   rw[Z.o];exact⟨rfl,s.o⟩
end
section
def tT:Option Nat->Int
 |none=> -1
 |some f=>f
theorem I6(x:Lb):∀k,(∀f,(fR x k).1=some f->f<k)/\(∀f,(fR x k).2=some f->f<k)
 |0=>⟨λf h=>by simp[fR] at h,λf h=>by simp[fR] at h⟩
 |k+1=>by
  have a:=I6 x k;unfold fR;split
  .exact⟨λf h=>aeC (a.1 f h),λf h=>aeC (a.2 f h)⟩
  .refine⟨λf h=>?_,λf h=>?_⟩
   .simp only at h;split at h
    .injection h with h;omega
    .exact aeC (a.1 f h)
   .simp only at h;split at h
    .injection h with h;omega
    .exact aeC (a.2 f h)
theorem PM(h:bR F w g x y):aG prog 63 #[.pointer g] w λr w'=>r= .returned (.int .i64 x.nw)/\w=w':=by
 have a:=h.c 11 (.int .i64 x.nw) rfl;clear h;go_enter func63,ntmps63
 go_wp2_with fail
 go_ret
 exact⟨rfl,rfl⟩
theorem MX(h:bR F w g x y)(hI:GS x n m)(hn:n<=1000000):aG prog 58 #[.pointer g] w λr w'=>r= .returned (.int .i64 (tT (mV x)))/\aD w w w':=by
 have B:=h.c 15 (.slice y.J x.jb.length y.cJ) rfl;have u:=aP h;have K:=aP hI;have hjl:=hI.jl;clear h hI;go_enter func58,ntmps58
 go_wp2_with fail
 go_loopw [14,3,4] (λO v3 v4 wr=>∃k:Nat,k<=x.jb.length/\O= .int .i64 k/\(∃o1 o2:Option Nat,v3= .int .i64 (tT o1)/\v4= .int .i64 (tT o2)/\aH ((fR x k).1=o1/\(fR x k).2=o2))/\aH (aD w w wr)) (λO v3 v4 _=>x.jb.length - (aL O).toNat)
 case atStart=>exact⟨0,aaH _,rfl,⟨none,none,rfl,rfl,rfl,rfl⟩,Below.refl _ _⟩
 case round=>
  obtain⟨k,hk,rfl,⟨o1,o2,rfl,rfl,L⟩,D⟩:=hrel;clear B;by_cases E:k<x.jb.length
  .have j1:(k:Int)<(x.jb.length:Int):=aQ;have j0:(0:Int)<=k:=aQ;obtain⟨q,hq,hc⟩:=(u.o.below D.o).lI E;have N:=aP hc;have HQ:=aP hq;have Y:=aP (K.o.lI E);have B:=(u.o.below D.o).c 15 (.slice y.J x.jb.length y.cJ) rfl;have e11:=(u.o.below D.o).c 11 (.int .i64 x.nw) rfl;rw[hq] at B;have c2:=hc.c2;have c7:=hc.c7;have Z:=aP (I6 x k);clear hc hq;by_cases R:x.nw<(dK x k).ca
   .have l:aH ((fR x (k+1)).1=o1/\(fR x (k+1)).2=o2):=by
     have:fR x (k+1)=fR x k:=by rw[fR,Zz R]
     unfold aH;rw[this];exact L.o
    generalize (dK x k).ca=ca at *;go_upto_region 8 with(fail)
    go_quiet (fail)
    go_wp2_with fail
    refine⟨⟨k+1,aQ,rfl,⟨o1,o2,rfl,rfl,l.o⟩,fD D.o _⟩,by simp only[aL];omega⟩
   .have l:aH ((fR x (k+1)).1=(if zC x o1 k then some k else o1)/\(fR x (k+1)).2=(if(dK x k).bg&&zC x o2 k then some k else o2)):=by
     have:fR x (k+1)=(if zC x (fR x k).1 k then some k else(fR x k).1,if(dK x k).bg&&zC x (fR x k).2 k then some k else(fR x k).2):=by rw[fR,aaA R]
     unfold aH;rw[this,L.o.1,L.o.2];exact⟨rfl,rfl⟩
    generalize (dK x k).ca=ca at *;go_upto_region 8 with(fail)
    go_quiet (fail)
    have j:aH (aD w w (wr.drewN nq)/\aD wr wr (wr.drewN nq)):=⟨fD D.o _,eX _ _⟩
    have P:(wr.drewN nq).cell? (g,15)=some (.slice q x.jb.length y.cJ):=B;clear D B e11 c2 c7;generalize hwz:wr.drewN nq=wz at *;cases o1 with
    |none=>
     have HF:aH (zC x none k=true):=rfl;rw[HF.o] at l;rw[show tT none= -1 from rfl];go_upto_region 11 with(fail)
     have d:aH (aD w w wz):=j.o.1;have s:aH (aD wr wr wz):=j.o.2;obtain⟨M,S⟩:∃z,z=wz:=⟨_,rfl⟩
     rw[<-S] at d s⊢;clear S P;have p:aH (vV M q (k *11) (dK x k)):=N.o.keep s.o;have d15:=(u.o.below d.o).c 15 (.slice y.J x.jb.length y.cJ) rfl;rw[HQ.o] at d15;have d7:=p.o.c7;cases G:(dK x k).bg
     .rw[G] at d7 l;go_wp2_with fail
      refine⟨⟨k+1,aQ,rfl,⟨some k,o2,rfl,rfl,l.o⟩,d.o⟩,by simp only[aL];omega⟩
     .rw[G] at d7 l;cases o2 with
      |none=>
       rw[show tT none= -1 from rfl] at *;go_wp2_with fail
       refine⟨⟨k+1,aQ,rfl,⟨some k,some k,rfl,rfl,l.o⟩,d.o⟩,by simp only[aL];omega⟩
      |some b=>
       have hb:=Nat.lt_trans (Z.o.2 b L.o.2) E;have b0:(0:Int)<=b:=aQ;have b1:(b:Int)<(x.jb.length:Int):=aQ;obtain⟨q',a,v⟩:=(u.o.below d.o).lI hb;rw[HQ.o] at a;injection a with a;injection a with a;subst a;have t:=aP (xQ (u.o.below d.o) K.o p.o Y.o v (K.o.lI hb));have C:aH (zC x (some b) k=pO x (dK x k) (dK x b)):=rfl;rw[C.o] at l;clear v hb;have H:aH (tT (some b)=(b:Int)):=rfl;rw[H.o];cases I:pO x (dK x k) (dK x b)
       all_goals
        rw[I] at t l;go_wp2_with fail
        refine aR t ?_;rintro e T ⟨rfl,i⟩;have A:aH (aD w w T):=d.o.trans (i.mono d.o.size);clear i t s p d7 d15;go_wp2_with fail
        first
         |exact⟨⟨k+1,aQ,rfl,⟨some k,some b,rfl,rfl,l.o⟩,A.o⟩,by simp only[aL];omega⟩
         |exact⟨⟨k+1,aQ,rfl,⟨some k,some k,rfl,rfl,l.o⟩,A.o⟩,by simp only[aL];omega⟩
    |some f=>
     have hf:=Nat.lt_trans (Z.o.1 f L.o.1) E;have f0:(0:Int)<=f:=aQ;have f1:(f:Int)<(x.jb.length:Int):=aQ;obtain⟨q',a,U⟩:=(u.o.below j.o.1).lI hf;rw[HQ.o] at a;injection a with a;injection a with a;subst a;have t:=aP (xQ (u.o.below j.o.1) K.o (N.o.keep j.o.2) Y.o U (K.o.lI hf));have C:aH (zC x (some f) k=pO x (dK x k) (dK x f)):=rfl;rw[C.o] at l;have HQf:aH (tT (some f)=(f:Int)):=rfl;rw[HQf.o];clear U hf;cases V:pO x (dK x k) (dK x f)
     .rw[V] at t l;go_wp2_with fail
      refine aR t ?_;rintro e M ⟨rfl,i⟩;have d:aH (aD w w M):=j.o.1.trans (i.mono j.o.1.size);have s:aH (aD wr wr M):=j.o.2.trans (i.mono j.o.2.size);clear i t j P;go_upto_region 11 with(fail)
      have p:aH (vV M q (k *11) (dK x k)):=N.o.keep s.o;have d15:=(u.o.below d.o).c 15 (.slice y.J x.jb.length y.cJ) rfl;rw[HQ.o] at d15;have d7:=p.o.c7;cases G:(dK x k).bg
      .rw[G] at d7 l;go_wp2_with fail
       refine⟨⟨k+1,aQ,rfl,⟨some f,o2,rfl,rfl,l.o⟩,d.o⟩,by simp only[aL];omega⟩
      .rw[G] at d7 l;cases o2 with
       |none=>
        rw[show tT none= -1 from rfl] at *;go_wp2_with fail
        refine⟨⟨k+1,aQ,rfl,⟨some f,some k,rfl,rfl,l.o⟩,d.o⟩,by simp only[aL];omega⟩
       |some b=>
        have hb:=Nat.lt_trans (Z.o.2 b L.o.2) E;have b0:(0:Int)<=b:=aQ;have b1:(b:Int)<(x.jb.length:Int):=aQ;obtain⟨q',a,v⟩:=(u.o.below d.o).lI hb;rw[HQ.o] at a;injection a with a;injection a with a;subst a;have t:=aP (xQ (u.o.below d.o) K.o p.o Y.o v (K.o.lI hb));have C:aH (zC x (some b) k=pO x (dK x k) (dK x b)):=rfl;rw[C.o] at l;clear v hb;have H:aH (tT (some b)=(b:Int)):=rfl;rw[H.o];cases I:pO x (dK x k) (dK x b)
        all_goals
         rw[I] at t l;go_wp2_with fail
         refine aR t ?_;rintro e T ⟨rfl,i⟩;have A:aH (aD w w T):=d.o.trans (i.mono d.o.size);clear i t s p d7 d15;go_wp2_with fail
         first
          |exact⟨⟨k+1,aQ,rfl,⟨some f,some b,rfl,rfl,l.o⟩,A.o⟩,by simp only[aL];omega⟩
          |exact⟨⟨k+1,aQ,rfl,⟨some f,some k,rfl,rfl,l.o⟩,A.o⟩,by simp only[aL];omega⟩
     .rw[V] at t l;go_wp2_with fail
      refine aR t ?_;rintro e M ⟨rfl,i⟩;have d:aH (aD w w M):=j.o.1.trans (i.mono j.o.1.size);have s:aH (aD wr wr M):=j.o.2.trans (i.mono j.o.2.size);clear i t j P;go_upto_region 11 with(fail)
      have p:aH (vV M q (k *11) (dK x k)):=N.o.keep s.o;have d15:=(u.o.below d.o).c 15 (.slice y.J x.jb.length y.cJ) rfl;rw[HQ.o] at d15;have d7:=p.o.c7;cases G:(dK x k).bg
      .rw[G] at d7 l;go_wp2_with fail
       refine⟨⟨k+1,aQ,rfl,⟨some k,o2,rfl,rfl,l.o⟩,d.o⟩,by simp only[aL];omega⟩
      .rw[G] at d7 l;cases o2 with
       |none=>
        rw[show tT none= -1 from rfl] at *;go_wp2_with fail
        refine⟨⟨k+1,aQ,rfl,⟨some k,some k,rfl,rfl,l.o⟩,d.o⟩,by simp only[aL];omega⟩
       |some b=>
        have hb:=Nat.lt_trans (Z.o.2 b L.o.2) E;have b0:(0:Int)<=b:=aQ;have b1:(b:Int)<(x.jb.length:Int):=aQ;obtain⟨q',a,v⟩:=(u.o.below d.o).lI hb;rw[HQ.o] at a;injection a with a;injection a with a;subst a;have t:=aP (xQ (u.o.below d.o) K.o p.o Y.o v (K.o.lI hb));have C:aH (zC x (some b) k=pO x (dK x k) (dK x b)):=rfl;rw[C.o] at l;clear v hb;have H:aH (tT (some b)=(b:Int)):=rfl;rw[H.o];cases I:pO x (dK x k) (dK x b)
        all_goals
         rw[I] at t l;go_wp2_with fail
         refine aR t ?_;rintro e T ⟨rfl,i⟩;have A:aH (aD w w T):=d.o.trans (i.mono d.o.size);clear i t s p d7 d15;go_wp2_with fail
         first
          |exact⟨⟨k+1,aQ,rfl,⟨some k,some b,rfl,rfl,l.o⟩,A.o⟩,by simp only[aL];omega⟩
          |exact⟨⟨k+1,aQ,rfl,⟨some k,some k,rfl,rfl,l.o⟩,A.o⟩,by simp only[aL];omega⟩
  .have j1:¬(k:Int)<(x.jb.length:Int):=aQ;have W:k=x.jb.length:=aQ;have HN:aH ((fR x x.jb.length).1=o1/\(fR x x.jb.length).2=o2):=by rw[<-W];exact L.o
   clear L;cases o1 with
   |none=>
    have Q:aH (mV x=none):=by unfold aH mV;rw[HN.o.1]
    rw[show tT none= -1 from rfl];go_wp2_with fail
    go_ret
    rw[Q.o];exact⟨rfl,D.o⟩
   |some f=>
    have hf:=(I6 x x.jb.length).1 f HN.o.1;obtain⟨q,hq,hc⟩:=(u.o.below D.o).lI hf;have B:=(u.o.below D.o).c 15 (.slice y.J x.jb.length y.cJ) rfl;rw[hq] at B;have c7:=hc.c7;have Q:aH (mV x=if(dK x f).bg || IG x f then some f else o2):=by unfold aH mV;rw[HN.o.1,HN.o.2]
    have N:=aP (Fc (u.o.below D.o) K.o hn hf);have f0:(0:Int)<=f:=aQ;have f1:(f:Int)<(x.jb.length:Int):=aQ;rw[show tT (some f)=(f:Int) from rfl];clear hc hq W;cases G:(dK x f).bg
    .rw[G] at c7 Q;cases hm:IG x f
     all_goals
      rw[hm] at N Q;go_wp2_with fail
      refine aR N ?_;rintro e w4 ⟨rfl,X⟩;have HB4:aH (aD w w w4):=D.o.trans (X.mono D.o.size);clear X N;go_wp2_with fail
      go_ret
      rw[Q.o];exact⟨rfl,HB4.o⟩
    .rw[G] at c7 Q;go_wp2_with fail
     go_ret
     rw[Q.o];exact⟨rfl,D.o⟩
theorem WU(h:bR F w g x y)(c:GS x n m)(d:n<=1000000):aG prog 44 #[.pointer g] w λr w'=>r= .returned (.bool (mV x).isSome)/\aD w w w':=by
 have b:=aP (MX h c d);have i:aH (∀o:Option Nat,decide (0<=tT o)=o.isSome):=λo=>by
  cases o with
  |none=>rfl
  |some f=>simp[tT]
 clear h;generalize mV x=o at *;go_enter func44,ntmps44
 go_wp2_with fail
 refine aR b ?_;rintro e k ⟨rfl,a⟩;have j:=aP a;clear a b;go_wp2_with fail
 go_ret
 exact⟨by rw[i.o];rfl,j.o⟩
end
end
variable{n K K' i b m:Nat}{x:Lb}{sb nb:Nat->Nat}
section
section
structure Z0(t:Tk):Prop where
 co:1<=t.co/\t.co<=1048576
 pe:1<=t.pe/\t.pe<=1048576
 de:1<=t.de/\t.de<=1048576
 po:0<=t.po/\t.po<=2
 se:t.se.length<=8
structure zK(n K:Nat)(nw:Int)(j:Jb):Prop where
 tk:0<=j.tk/\j.tk<n
 nu:0<=j.nu/\j.nu<=K
 ca:0<=j.ca/\j.ca<=1048576 *((K:Int)+2)
 de:0<=j.de/\j.de<=1048576 *((K:Int)+3)
 ra:0<=j.ra/\j.ra<=nw
 lf:0<=j.lf/\j.lf<=1048576
 bh:j.bh=false->1<=j.lf
 rs:0<=j.rs/\j.rs<=K
structure dZ(x:Lb)(sb nb:Nat->Nat)(K m e:Nat):Prop where
 n:x.ts.length<=8
 lr:x.rk.length=x.ts.length
 ls:x.sh.length=x.ts.length
 ln:x.nu.length=x.ts.length
 lw:x.wt.length=x.ts.length
 nw:0<=x.nw/\x.nw<=1048576
 tk:∀t∈x.ts,Z0 t
 sk:∀(i:Nat) (s:jJ),x.sh[i]?=some s->mC s (sb i)
 nk:∀(i:Nat) (v:Int),x.nu[i]?=some v->0<=v/\v<=nb i
 jk:∀j∈x.jb,zK x.ts.length K x.nw j
 jl:x.jb.length<=m
 lg:x.lg.length<=e
def kT(x:Lb)(k:Nat):Prop:=dZ x (λ_=>k) (λ_=>k) k (8 *k) (1000000 *k)
theorem zK.mono{nw nw':Int}{j:Jb}(h:zK n K nw j)(hK:K<=K')(hw:nw<=nw'):zK n K' nw' j:=
 ⟨h.tk,by have:=h.nu;omega,by have:=h.ca;omega,by have:=h.de;omega,by have:=h.ra;omega,h.lf,h.bh,by have:=h.rs;omega⟩
theorem mC.mono{s:jJ}{k k':Nat}(h:mC s k)(hk:k<=k'):mC s k':=
 ⟨h.p0,h.p1,h.n0,by have:=h.n1;omega,h.c0,by have:=h.c1;omega,h.r0,by have:=h.r1;omega⟩
section
variable{x:Lb}{sb sb' nb nb':Nat->Nat}{K K' m m' e e':Nat}
theorem dZ.mono(h:dZ x sb nb K m e)(h1:∀i,sb i<=sb' i)(a:∀i,nb i<=nb' i)(b:K<=K')(f:m<=m')(g:e<=e'):dZ x sb' nb' K' m' e':=
 ⟨h.n,h.lr,h.ls,h.ln,h.lw,h.nw,h.tk,λi s hs=>(h.sk i s hs).mono (h1 i),λi v c=>by have:=h.nk i v c;have:=a i;omega,λj d=>(h.jk j d).mono b (ab3 _),by have:=h.jl;omega,by have:=h.lg;omega⟩
theorem dZ.task(h:dZ x sb nb K m e)(hi:i<x.ts.length):iD x i=x.ts[i]/\Z0 (iD x i):=by
 have a:iD x i=x.ts[i]:=by unfold iD;rw[aaG,aaI,Zv hi];rfl
 exact⟨a,by rw[a];exact h.tk _ (aaF hi)⟩
theorem dZ.qQ(h:dZ x sb nb K m e)(hi:i<x.ts.length):∃hs:i<x.sh.length,jR x i=x.sh[i]/\mC (jR x i) (sb i):=by
 have hs:i<x.sh.length:=by rw[h.ls];exact hi
 have a:jR x i=x.sh[i]:=by unfold jR;rw[aaG,aaI,Zv hs];rfl
 exact⟨hs,a,by rw[a];exact h.sk i _ (Zv hs)⟩
theorem dZ.num(h:dZ x sb nb K m e)(hi:i<x.ts.length):∃hs:i<x.nu.length,x.nu.getD i 0=x.nu[i]/\0<=x.nu.getD i 0/\x.nu.getD i 0<=nb i:=by
 have hs:i<x.nu.length:=by rw[h.ln];exact hi
 have a:x.nu.getD i 0=x.nu[i]:=by rw[aaI,Zv hs];rfl
 exact⟨hs,a,by rw[a];exact h.nk i _ (Zv hs)⟩
theorem dZ.lI(h:dZ x sb nb K m e)(hi:i<x.jb.length):dK x i=x.jb[i]/\zK x.ts.length K x.nw (dK x i):=by
 have a:dK x i=x.jb[i]:=by unfold dK;rw[aaI,Zv hi];rfl
 exact⟨a,by rw[a];exact h.jk _ (aaF hi)⟩
theorem dZ.note(h:dZ x sb nb K m e)(kd:Int)(j:Jb):dZ (iY x kd j) sb nb K m (e+1):=
 ⟨h.n,h.lr,h.ls,h.ln,h.lw,h.nw,h.tk,h.sk,h.nk,h.jk,h.jl,by have:=h.lg;simp[iY];omega⟩
theorem dZ.EF(h:dZ x sb nb K m e)(i:Nat){j:Jb}(b:zK x.ts.length K x.nw j):dZ (cH x i j) sb nb K m e:=by
 refine⟨h.n,h.lr,h.ls,h.ln,h.lw,h.nw,h.tk,h.sk,h.nk,λy a=>?_,by simpa[cH] using h.jl,h.lg⟩;rcases abC a with a|rfl
 .exact h.jk y a
 .exact b
theorem dZ.CJ(h:dZ x sb nb K m e)(i:Nat){s:jJ}(hs:mC s b):dZ (dT x i s) (λj=>if j=i then b else sb j) nb K m e:=by
 refine⟨h.n,h.lr,by simpa[dT] using h.ls,h.ln,h.lw,h.nw,h.tk,λj s' a=>?_,h.nk,h.jk,h.jl,h.lg⟩;simp only[dT,aaG] at a;rw[abF] at a;split at a
 .rename_i c;subst c;split at a
  .injection a with a;subst a;simpa using hs
  .cases a
 .rename_i c;simp only[aaA (λd=>c (Eq.symm d))];exact h.sk j s' a
theorem dZ.Wp(h:dZ x sb nb K m e)(i:Nat)(d:Int):dZ {x with wt:=x.wt.set i d} sb nb K m e:=
 ⟨h.n,h.lr,h.ls,h.ln,by simpa using h.lw,h.nw,h.tk,h.sk,h.nk,h.jk,h.jl,h.lg⟩
theorem dZ.comes(h:dZ x sb nb K m e)(hi:i<x.ts.length)(d:Int)(hK:nb i+1<=K):dZ (sK x i d) sb (λj=>if j=i then nb i+1 else nb j) K (m+1) (e+1):=by
 obtain⟨hs,o,n0,n1⟩:=h.num hi;obtain⟨_,f⟩:=h.task hi;have g:zK x.ts.length K x.nw (qJ x i d):=by
  have:=h.nw;have:=f.de;have:=f.co;refine⟨by simp[qJ];omega,by simp only[qJ,aaG];omega,by simp only[qJ];omega,by simp only[qJ];omega,by simp only[qJ];omega,by simp only[qJ];omega,λ_=>by simp only[qJ];omega,by simp[qJ]⟩
 refine dZ.note (x:={x with nu:=x.nu.set (i:Int).toNat (x.nu.getD (i:Int).toNat 0+1),jb:=x.jb++ [qJ x i d]}) ⟨h.n,h.lr,h.ls,by simpa using h.ln,h.lw,h.nw,h.tk,h.sk,λk v a=>?_,λy b=>?_,by have:=h.jl;simp;omega,h.lg⟩ 1 _
 .simp only[aaG] at a;rw[abF] at a;split at a
  .rename_i c;subst c;injection a with a;subst a;simp only[abI];omega
  .rename_i c;simp only[aaA (λl=>c (Eq.symm l))];exact h.nk k v a
 .simp at b;rcases b with b|rfl
  .exact h.jk y b
  .exact g
theorem kT.ask{k:Nat}(h:kT x k)(task d:Int):kT (jD x task d).2 (k+1):=by
 have hu:kT x (k+1):=dZ.mono h (λ_=>abP _) (λ_=>abP _) (abP _) aQ aQ;unfold jD;split
 .exact hu
 .rename_i hc;obtain⟨i,rfl⟩:=aaB (show 0<=task by omega);have hi:i<x.ts.length:=aQ;obtain⟨hs,b,a⟩:=dZ.qQ h hi;have h1:dZ (dT x i (FB x i).1) (λj=>if j=i then k+1 else k) (λ_=>k) (k+1) (8 *k) (1000000 *k):=
   dZ.CJ (dZ.mono h (λ_=>Zw _) (λ_=>Zw _) (abP _) (Zw _) (Zw _)) i (QP a)
  have hm:∀j,(if j=i then k+1 else k)<=k+1:=λj=>by split <;> omega
  split
  .exact h1.mono hm (λ_=>abP _) (Zw _) aQ aQ
  .split
   .exact(h1.comes hi d (Zw _)).mono hm hm (Zw _) aQ aQ
   .exact(h1.Wp i d).mono hm (λ_=>abP _) (Zw _) aQ aQ
theorem zK.vD{nw:Int}{j:Jb}(h:zK n K nw j):zK n K (nw+1) {gN j with bh:=true}/\(1<=(gN j).lf->zK n K (nw+1) (gN j)):=by
 have h1:=h.ra;have c:=h.lf;have a:=h.bh;have hl:0<=(gN j).lf/\(gN j).lf<=1048576:=by
  unfold gN;simp only;cases hb:j.bh
  .have:=a hb;simp;omega
  .simp;omega
 exact⟨⟨h.tk,h.nu,h.ca,h.de,by simp only[gN];omega,hl,λe=>by simp at e,h.rs⟩,λb=>⟨h.tk,h.nu,h.ca,h.de,by simp only[gN];omega,hl,λ_=>b,h.rs⟩⟩
def uK(x:Lb):Lb:={x with nw:=x.nw+1}
theorem dZ.up(h:dZ x sb nb K m e)(b:x.nw<1048576):dZ (uK x) sb nb K m e:=
 ⟨h.n,h.lr,h.ls,h.ln,h.lw,by have:=h.nw;show 0<=x.nw+1/\x.nw+1<=_;omega,h.tk,h.sk,h.nk,λj a=>(h.jk j a).mono (Zw _) (by show _<=x.nw+1;omega),h.jl,h.lg⟩
end
theorem R3(x:Lb)(i:Nat)(j a:Jb)(t:Int)(s:jJ):cH (dT (cH x i j) t s) i a=cH (dT x t s) i a:=by simp[cH,dT]
theorem kT.run{x:Lb}{k:Nat}(h:kT x k)(v:x.nw<1048576){i:Nat}(hi:i<x.jb.length):dZ (qG (uK x) i) (λ_=>k+1) (λ_=>k) (k+1) (8 *k) (1000000 *k+1):=by
 have hu:=dZ.up h v;have hk:dZ (uK x) (λ_=>k) (λ_=>k) (k+1) (8 *k) (1000000 *k):=hu.mono (λ_=>Zw _) (λ_=>Zw _) (abP _) (Zw _) (Zw _);obtain⟨J,a⟩:=dZ.lI h hi;obtain⟨b,q⟩:=zK.vD a;have z:dK (uK x) i=dK x i:=rfl;have fin:∀y:Lb,dZ y (λ_=>k) (λ_=>k) (k+1) (8 *k) (1000000 *k+1)->dZ y (λ_=>k+1) (λ_=>k) (k+1) (8 *k) (1000000 *k+1):=λy A=>A.mono (λ_=>abP _) (λ_=>Zw _) (Zw _) (Zw _) (Zw _)
 have gone:∀kd,dZ (xH (cH (uK x) i (gN (dK x i))) kd i) (λ_=>k+1) (λ_=>k) (k+1) (8 *k) (1000000 *k+1):=λkd=>by
  refine fin _ ⟨hk.n,hk.lr,hk.ls,hk.ln,hk.lw,hk.nw,hk.tk,hk.sk,hk.nk,λj B=>?_,?_,?_⟩
  .have g:j∈(x.jb.set i (gN (dK x i))).eraseIdx i:=B;rw[List.eraseIdx_set_eq] at g;exact hk.jk j (acU g)
  .have:=hk.jl;have:=ac3 (x.jb.set i (gN (dK x i))) i;show((x.jb.set i (gN (dK x i))).eraseIdx i).length<=_;rw[aaL] at this;have:x.jb.length<=8 *k:=hk.jl;omega
  .have:x.lg.length<=1000000 *k:=hk.lg;simp[xH,iY,cH,uK];omega
 unfold qG;simp only[z];generalize C:dK x i=j at *;obtain⟨t,D⟩:=aaB a.tk.1;have c:t<x.ts.length:=by have:=a.tk.2;omega
 have r:(gN j).tk=t:=D;split
 .exact gone 2
 .split
  .rename_i hl;refine fin _ ((hk.EF i ((q aQ).mono (abP _) (ab3 _))).mono (λ_=>Zw _) (λ_=>Zw _) (Zw _) (Zw _) (abP _))
  .rename_i hl;split
   .exact gone 3
   .split
    .split
     .rename_i hb;have:({gN j with bh:=true}:Jb)=gN j:=by
       cases hq:gN j;rw[hq] at hb;simp at hb;subst hb;rfl
      rw[this] at b;exact fin _ ((hk.EF i (b.mono (abP _) (ab3 _))).mono (λ_=>Zw _) (λ_=>Zw _) (Zw _) (Zw _) (abP _))
     .have hq:zK x.ts.length (k+1) (x.nw+1) {gN j with bh:=true,rs:=(gN j).rs+1}:=by
       have d:=b.mono (K':=k+1) (abP _) (ab3 _);exact⟨d.tk,d.nu,d.ca,d.de,d.ra,d.lf,d.bh,by have:0<=j.rs/\j.rs<=k:=a.rs;show 0<=j.rs+1/\j.rs+1<=((k+1:Nat):Int);omega⟩
      have s:=hk.EF i hq;have E:cH (cH (uK x) i (gN j)) i {gN j with bh:=true,rs:=(gN j).rs+1}=cH (uK x) i {gN j with bh:=true,rs:=(gN j).rs+1}:=by simp[cH]
      rw[E];exact fin _ (s.note 4 _)
    .obtain⟨hs,L,f⟩:=dZ.qQ hk (i:=t) c;have l:Z0 (iD (uK x) t):=(dZ.task hk c).2;have o:=hk.nw;have hp:=Ch f o.1 o.2;have F:=f.n1;have G:=f.n0;have s:=hk.CJ t hp;rw[r];rw[R3];refine dZ.mono (dZ.note (dZ.EF s i ?_) 5 _) (λj=>by split <;> omega) (λ_=>Zw _) (Zw _) (Zw _) (Zw _);have:=l.co;have:=l.de;have H:0<=j.rs/\j.rs<=k:=a.rs;have I:0<=j.ra/\j.ra<=x.nw:=a.ra;have u:0<=j.nu/\j.nu<=k:=a.nu;have hmx:0<=(jT (jR (uK x) t) (uK x).nw).2/\(jT (jR (uK x) t) (uK x).nw).2<=1048576 *((k:Int)+2):=by
      show 0<=max (uK x).nw (jR (uK x) t).next/\max (uK x).nw (jR (uK x) t).next<=_;omega
     generalize (jT (jR (uK x) t) (uK x).nw).2=p at *;exact⟨⟨by simp only;omega,by simp only;exact Int.ofNat_lt.2 c⟩,⟨u.1,by show j.nu<=((k+1:Nat):Int);omega⟩,⟨by simp only;omega,by simp only;omega⟩,⟨by simp only;omega,by simp only;omega⟩,⟨by show 0<=j.ra+1;omega,by show j.ra+1<=x.nw+1;omega⟩,⟨by simp only;omega,by simp only;omega⟩,λ_=>by simp only;omega,⟨by show 0<=j.rs+1;omega,by show j.rs+1<=((k+1:Nat):Int);omega⟩⟩
theorem P7(x:Lb)(i:Nat):(AA x i).jb.length=x.jb.length/\(AA x i).ts=x.ts:=by
 unfold AA;simp only;split
 .exact⟨by simp[iY,cH],rfl⟩
 .exact⟨rfl,rfl⟩
theorem tR(x:Lb):∀i,(eJ x i).jb.length=x.jb.length/\(eJ x i).ts=x.ts
 |0=>⟨rfl,rfl⟩
 |i+1=>⟨(P7 _ i).1.trans (tR x i).1,(P7 _ i).2.trans (tR x i).2⟩
theorem dZ.OP{e:Nat}(h:dZ x sb nb K m e):∀i,i<=x.jb.length->dZ (eJ x i) sb nb K m (e+i)
 |0,_=>h
 |i+1,hi=>by
  have h1:=dZ.OP h i aQ;show dZ (AA (eJ x i) i) sb nb K m (e+(i+1));unfold AA;simp only;split
  .have hl:=(tR x i).1;have a:=(h1.lI (i:=i) aQ).2;exact(h1.EF i (j:={dK (eJ x i) i with lt:=true}) ⟨a.tk,a.nu,a.ca,a.de,a.ra,a.lf,a.bh,a.rs⟩).note 6 _
  .exact h1.mono (λ_=>Zw _) (λ_=>Zw _) (Zw _) (Zw _) aQ
theorem Af(x:Lb)(i:Nat):(DL x i).ts=x.ts/\(DL x i).nw=x.nw:=by
 unfold DL;split
 .exact⟨rfl,rfl⟩
 .exact⟨rfl,rfl⟩
theorem FF(x:Lb):∀i,(eC x i).ts=x.ts/\(eC x i).nw=x.nw
 |0=>⟨rfl,rfl⟩
 |i+1=>⟨(Af _ i).1.trans (FF x i).1,(Af _ i).2.trans (FF x i).2⟩
theorem dZ.Gz{a:Nat}{e:Nat}(hK:b+1<=K)(h:dZ x (λ_=>a) (λ_=>b) K m e):∀i,i<=x.ts.length->dZ (eC x i) (λj=>if j<i then a+1 else a) (λj=>if j<i then b+1 else b) K (m+i) (e+i)
 |0,_=>h.mono (λj=>by simp) (λj=>by simp) (Zw _) (Zw _) (Zw _)
 |i+1,hi=>by
  have h1:=dZ.Gz hK h i aQ;have c:=(FF x i).1;show dZ (DL (eC x i) i) _ _ _ _ _;unfold DL;split
  .obtain⟨hs,g,d⟩:=h1.qQ (i:=i) (by rw[c];omega);rw[aaA (abX i)] at d;have f:=(h1.CJ i (QF (now:=(eC x i).nw) d)).comes (i:=i) (by show i<(eC x i).ts.length;rw[c];omega) ((eC x i).wt.getD i 0) (by rw[aaA (abX i)];exact hK);refine f.mono (λj=>?_) (λj=>?_) (Zw _) aQ aQ
   .split
    .split <;> omega
    .split <;> split <;> omega
   .split
    .split <;> split <;> omega
    .split <;> split <;> omega
  .refine h1.mono (λj=>?_) (λj=>?_) (Zw _) aQ aQ
   .split <;> split <;> omega
   .split <;> split <;> omega
theorem TI(x:Lb):∀k,(∀f,(fR x k).1=some f->f<k)/\∀f,(fR x k).2=some f->f<k
 |0=>⟨λf h=>by simp[fR] at h,λf h=>by simp[fR] at h⟩
 |k+1=>by
  obtain⟨h1,a⟩:=TI x k;unfold fR;split
  .exact⟨λf h=>by have:=h1 f h;omega,λf h=>by have:=a f h;omega⟩
  .refine⟨λf h=>?_,λf h=>?_⟩
   .simp only at h;split at h
    .injection h with h;omega
    .have:=h1 f h;omega
   .simp only at h;split at h
    .injection h with h;omega
    .have:=a f h;omega
theorem Q0{f:Nat}(h:mV x=some f):f<x.jb.length:=by
 obtain⟨h1,a⟩:=TI x x.jb.length;unfold mV at h;split at h
 .cases h
 .rename_i q hq;split at h
  .injection h with h;subst h;exact h1 q hq
  .exact a f h
theorem kT.gL{k:Nat}(h:kT x k)(a:x.nw<1048576)(given:Bool):dZ (qZ x given) (λ_=>k+1) (λ_=>k) (k+1) (8 *k) (1000000 *k+1)/\(qZ x given).ts.length=x.ts.length:=by
 unfold qZ;split
 .exact⟨(dZ.up h a).mono (λ_=>abP _) (λ_=>Zw _) (abP _) (Zw _) aQ,rfl⟩
 .rename_i i hp;have hi:i<x.jb.length:=by
   unfold gY at hp;split at hp
   .exact Q0 hp
   .cases hp
  refine⟨kT.run h a hi,?_⟩;unfold qG;simp only;repeat' split
  all_goals rfl
theorem kT.tick{k:Nat}(h:kT x k)(b:x.nw<1048576)(hk:k<=100000)(given:Bool):kT (gG x given) (k+2):=by
 obtain⟨h1,c⟩:=kT.gL h b given;have d:=h1.OP _ (Zw _);have a:(eJ (qZ x given) (qZ x given).jb.length).ts=(qZ x given).ts:=(tR _ _).2;have f:=dZ.Gz (Zw _) d x.ts.length (by rw[a,c];exact Zw _);have i:=h1.jl;have g:=h.n;exact dZ.mono f (λj=>by split <;> omega) (λj=>by split <;> omega) aQ aQ aQ
end
end
section
open Go.RowKit Go.Lib Go.Shelf
variable{l l':List Pt}{x':Lb}{y':La}
section
theorem kT.RD{k:Nat}(h:kT x k):GS x (8 *k) (1000000 *k):=
 ⟨h.lr,h.ls,h.ln,h.lw,h.n,λt a=>⟨(h.tk t a).co.1,(h.tk t a).co.2,(h.tk t a).pe.1,(h.tk t a).pe.2,(h.tk t a).de.1,(h.tk t a).de.2,(h.tk t a).se,(h.tk t a).po.1,(h.tk t a).po.2⟩,h.nw.1,h.nw.2,
  λs hs=>by
   obtain⟨i,hi,rfl⟩:=aa1 hs;exact(h.sk i _ (Zv hi)).mono aQ,
  λv d=>by
   obtain⟨i,hi,rfl⟩:=aa1 d;have:=h.nk i _ (Zv hi);omega,
  h.jl,λj e=>by
   have h1:=h.jk j e;have b:=h1.tk;have a2:=h1.ra;have a3:=h1.lf;have a4:=h1.ca;have a5:=h1.de;have f:=h1.rs;have l:=h.nw;exact⟨b.1,b.2,a2.1,a2.2,aQ,a3.2,a4.1,aQ,a5.1,aQ,f.1,aQ⟩,h.lg⟩
section
variable{F:Nat->Prop}{w w':aA}{g:Nat}{x:Lb}{y:La}{i q c:Nat}{A:Option aJ}
theorem Ob.sC(h:Ob l F w)(i:Nat)(p d:Pt)(hp:l[i]?=some p)(hl:l.set i d=l')(e:∀G,p.X G w->d.X G w'/\Kp G w w'):Ob l' F w'/\Kp F w w':=by
 obtain⟨f,h1⟩:=h;obtain⟨a,b⟩:=e _ (h1.get i hp);obtain⟨o,k⟩:=h1.eQ i d a b;rw[hl] at o;exact⟨⟨_,o⟩,k⟩
theorem bR.cell(h:bR F w g x y)(i:Nat)(v:Value)(e:fO x' y'=(fO x y).setIfInBounds i v)(d:y'.L.map Tm.t=x'.ts)(hl:((jC g x y).set 0 (PB g 193 (fO x' y')))=jC g x' y'):bR F (w.setCell (g,i) v) g x' y'/\Kp F w (w.setCell (g,i) v):=by
 obtain⟨a,b⟩:=h.o.sC 0 (PB g 193 (fO x y)) (PB g 193 (fO x' y')) rfl hl (λG f=>f.set i v e);exact⟨⟨d,a⟩,b⟩
theorem bR.now(h:bR F w g x y)(v:Int):bR F (w.setCell (g,11) v) g {x with nw:=v} y/\Kp F w (w.setCell (g,11) v):=h.cell 11 _ rfl h.ts rfl
theorem bR.OW(h:bR F w g x y){v:Ev}(e:n=x.lg.length)(ho:bI qW 4 w' 0 165 A c (x.lg++ [v]))(f:w.grownBy w' (aY y.G))(ha:aY A=aY y.G\/aY A=some w.heap.size):
 bR F (w'.setCell (g,16) (.slice A (n+1) c)) g {x with lg:=x.lg++ [v]} {y with G:=A,cG:=c}/\Kp F w (w'.setCell (g,16) (.slice A (n+1) c)):=by
 obtain⟨a,b⟩:=h.o.sC 8 (PR qW 4 165 y.G y.cG x.lg) (PR qW 4 165 A c (x.lg++ [v])) rfl rfl (λG d=>gP.eQ d ho f ha);obtain⟨a2,b2⟩:=a.sC (w':=w'.setCell ⟨g,16,none⟩ (.slice A (n+1) c)) (l':=jC g {x with lg:=x.lg++ [v]} {y with G:=A,cG:=c}) 0 (PB g 193 (fO x y)) (PB g 193 (fO {x with lg:=x.lg++ [v]} {y with G:=A,cG:=c})) rfl rfl (λG d=>d.set 16 _ (by simp[fO,e]));exact⟨⟨h.ts,a2⟩,b.trans b2⟩
theorem bR.EL(h:bR F w g x y){v:Jb}(e:n=x.jb.length)(ho:bI jV 11 w' 0 209 A c (x.jb++ [v]))(f:w.grownBy w' (aY y.J))(ha:aY A=aY y.J\/aY A=some w.heap.size):
 bR F (w'.setCell (g,15) (.slice A (n+1) c)) g {x with jb:=x.jb++ [v]} {y with J:=A,cJ:=c}/\Kp F w (w'.setCell (g,15) (.slice A (n+1) c)):=by
 obtain⟨a,b⟩:=h.o.sC 7 (PR jV 11 209 y.J y.cJ x.jb) (PR jV 11 209 A c (x.jb++ [v])) rfl rfl (λG d=>gP.eQ d ho f ha);obtain⟨a2,b2⟩:=a.sC (w':=w'.setCell ⟨g,15,none⟩ (.slice A (n+1) c)) (l':=jC g {x with jb:=x.jb++ [v]} {y with J:=A,cJ:=c}) 0 (PB g 193 (fO x y)) (PB g 193 (fO {x with jb:=x.jb++ [v]} {y with J:=A,cJ:=c})) rfl rfl (λG d=>d.set 15 _ (by simp[fO,e]));exact⟨⟨h.ts,a2⟩,b.trans b2⟩
theorem bR.left(h:bR F w g x y)(hi:i<x.jb.length)(ho:bI jV 11 w' 0 209 y.J c (x.jb.eraseIdx i))(e:w.grownBy w' (aY y.J))(f:n=(x.jb.eraseIdx i).length):
 bR F (w'.setCell (g,15) (.slice y.J n c)) g {x with jb:=x.jb.eraseIdx i} {y with cJ:=c}/\Kp F w (w'.setCell (g,15) (.slice y.J n c)):=by
 obtain⟨a,b⟩:=h.o.sC 7 (PR jV 11 209 y.J y.cJ x.jb) (PR jV 11 209 y.J c (x.jb.eraseIdx i)) rfl rfl (λG d=>gP.eQ d ho e (.inl rfl));obtain⟨a2,b2⟩:=a.sC (w':=w'.setCell ⟨g,15,none⟩ (.slice y.J n c)) (l':=jC g {x with jb:=x.jb.eraseIdx i} {y with cJ:=c}) 0 (PB g 193 (fO x y)) (PB g 193 (fO {x with jb:=x.jb.eraseIdx i} {y with cJ:=c})) rfl rfl (λG d=>d.set 15 _ (by simp[fO,f]));exact⟨⟨h.ts,a2⟩,b.trans b2⟩
theorem bR.Po(h:bR F w g x y)(hq:y.U=some ⟨q,0,none⟩)(hi:i<x.nu.length)(v:Int):bR F (w.setCell (q,i) v) g {x with nu:=x.nu.set i v} y/\Kp F w (w.setCell (q,i) v):=by
 obtain⟨a,b⟩:=h.o.sC (w':=w.setCell ⟨q,i,none⟩ v) (l':=jC g {x with nu:=x.nu.set i v} y) 5 (PR eI 1 3 y.U y.cU x.nu) (PR eI 1 3 y.U y.cU (x.nu.set i v)) rfl (by simp[jC,fO]) (λG e=>by
  have d:gP eI 1 3 y.U y.cU x.nu G w:=e;show gP eI 1 3 y.U y.cU (x.nu.set i v) G _/\_;rw[hq] at d⊢;simpa using gP.cell (j:=0) gK.len d hi aQ v (.int .i64 v) rfl)
 exact⟨⟨h.ts,a⟩,b⟩
theorem bR.Nb(h:bR F w g x y)(hq:y.V=some ⟨q,0,none⟩)(hi:i<x.wt.length)(v:Int):bR F (w.setCell (q,i) v) g {x with wt:=x.wt.set i v} y/\Kp F w (w.setCell (q,i) v):=by
 obtain⟨a,b⟩:=h.o.sC (w':=w.setCell ⟨q,i,none⟩ v) (l':=jC g {x with wt:=x.wt.set i v} y) 6 (PR eI 1 3 y.V y.cV x.wt) (PR eI 1 3 y.V y.cV (x.wt.set i v)) rfl (by simp[jC,fO]) (λG e=>by
  have d:gP eI 1 3 y.V y.cV x.wt G w:=e;show gP eI 1 3 y.V y.cV (x.wt.set i v) G _/\_;rw[hq] at d⊢;simpa using gP.cell (j:=0) gK.len d hi aQ v (.int .i64 v) rfl)
 exact⟨⟨h.ts,a⟩,b⟩
theorem bR.EF(h:bR F w g x y)(hq:y.J=some ⟨q,0,none⟩)(hi:i<x.jb.length){f:Nat}(hf:f<11)(j:Jb)(v:Value)(k:jV j=(jV (dK x i)).set f v):bR F (w.setCell (q,i *11+f) v) g (cH x i j) y/\Kp F w (w.setCell (q,i *11+f) v):=by
 have e:jV j=(jV x.jb[i]).set f v:=by
  rw[k];unfold dK;rw[aaI,Zv hi];rfl
 obtain⟨a,b⟩:=h.o.sC (w':=w.setCell ⟨q,i *11+f,none⟩ v) (l':=jC g (cH x i j) y) 7 (PR jV 11 209 y.J y.cJ x.jb) (PR jV 11 209 y.J y.cJ (x.jb.set i j)) rfl (by simp[jC,fO,cH]) (λG l=>by
  have d:gP jV 11 209 y.J y.cJ x.jb G w:=l;show gP jV 11 209 y.J y.cJ (x.jb.set i j) G _/\_;rw[hq] at d⊢;exact gP.cell kJ.len d hi hf j v e)
 exact⟨⟨h.ts,a⟩,b⟩
theorem bR.V3(h:bR F w g x y)(hl:x.sh.length=x.ts.length)(hi:i<x.ts.length):∃q a,y.S=some ⟨q,0,none⟩/\w.cell? ⟨q,i,none⟩=some (.pointer (some ⟨a,0,none⟩))/\Sh w a (jR x i)/\y.a.length=x.ts.length/\
 ∀(w':aA) (s:jJ),Sh w' a s->w.grownBy w' (some a)->bR F w' g (dT x i s) y/\Kp F w w':=by
 obtain⟨b,h1⟩:=h.o;have hs:EH (Fo w b 5) w y.a x.sh:=h1.get 4 (p:=N9 y.a x.sh) rfl;have d:gP xN 1 194 y.S y.cS y.a (Fo w b 4) w:=h1.get 3 (p:=PR xN 1 194 y.S y.cS y.a) rfl;have ha:i<y.a.length:=by rw[hs.len,hl];exact hi
 have hb:i<x.sh.length:=by rw[hl];exact hi
 obtain⟨q,hq⟩:=vX d.o aQ;have ho:=d.o;rw[hq] at ho;have e:jR x i=x.sh[i]:=by unfold jR;rw[aaG,aaI,Zv hb];rfl
 refine⟨q,y.a[i],hq,by simpa using bM EG ho ha (j:=0) rfl,by rw[e];exact hs.sh i ha hb,by rw[hs.len,hl],λw' s f k=>?_⟩;obtain⟨l,b1⟩:=h.o.sC (w':=w') (l':=jC g (dT x i s) y) 4 (N9 y.a x.sh) (N9 y.a (x.sh.set i s)) rfl (by simp[jC,fO,dT]) (λG m=>EH.eQ m ha hb f k);exact⟨⟨h.ts,l⟩,b1⟩
end
end
end
variable{j:Nat}
section
section
structure Pv where
 sv:Option Sv
 rd:Bool
structure Sd where
 P:List Pv
 b:Bs
 nw:Int
 tu:Int
def kU(p:Pv):Bool:=match p.sv with|some v=>AD v|none=>false
structure gQ(s:Sd):Prop where
 n:1<=s.P.length/\s.P.length<=8
 sv:∀p∈s.P,∀v,p.sv=some v->rR s.nw v
 bk:tC s.b
 nw:0<=s.nw/\s.nw<=1048576
 tu:0<=s.tu/\s.tu<s.P.length
 bn:0<=s.b.bn/\s.b.bn<=s.nw
 u9:(s.b.L.length+s.P.countP kU:Int)<=s.nw
 has:∀(i:Nat) (p:Pv),s.P[i]?=some p->s.b.f i=p.sv.map λv=>jE v.bu v.pe
 o:∀(i:Nat),s.P.length<=i->s.b.f i=none
variable{s:Sd}
theorem gQ.len(h:gQ s):s.b.L.length<=1048576:=by
 have:=h.u9;have:=h.nw;omega
def D3(s:Sd)(i:Nat)(bu pe:Int):Sd:=if nI s.b i bu pe=0 then {s with b:=rZ s.b i bu pe,P:=s.P.modify i λp=>{p with sv:=some (vU bu pe)}} else s
def yE(s:Sd)(i:Nat)(v:Sv):Sd:={s with b:=tE s.b i (sR v),P:=s.P.modify i λp=>{p with sv:=none}}
def L0(s:Sd)(i:Nat)(r:Bool):Sd:={s with P:=s.P.modify i λp=>{p with rd:=r}}
theorem sU{l:List Pv}{f:Pv->Pv}{p:Pv}(h:l[i]?=some p):(l.modify i f).countP kU+(if kU p then 1 else 0)=l.countP kU+(if kU (f p) then 1 else 0):=by
 induction l generalizing i with
 |nil=>simp at h
 |cons x l a=>
  cases i with
  |zero=>
   simp at h;subst h;simp only[List.modify_zero_cons,List.countP_cons];omega
  |succ i=>
   have:=a (i:=i) (by simpa using h);simp only[List.modify_succ_cons,List.countP_cons];omega
theorem get_modify{l:List Pv}{f:Pv->Pv}{q:Pv}(h:(l.modify i f)[j]?=some q):∃p,l[j]?=some p/\q=if j=i then f p else p:=by
 rw[List.getElem?_modify] at h;cases hp:l[j]? with
 |none=>rw[hp] at h;simp at h
 |some p=>
  rw[hp] at h;simp at h;refine⟨p,rfl,?_⟩;rw[<-h];by_cases a:i=j
  .rw[Zz a,Zz a.symm]
  .rw[aaA a,aaA (λe=>a e.symm)]
theorem mem_modify{l:List Pv}{f:Pv->Pv}{q:Pv}(h:q∈l.modify i f):∃p∈l,q=p\/q=f p:=by
 obtain⟨j,a,rfl⟩:=aa1 h;obtain⟨p,hp,he⟩:=get_modify (Zv a);refine⟨p,abV hp,?_⟩;rw[he];split
 .exact .inr rfl
 .exact .inl rfl
theorem gQ.EE{s:Sd}(h:gQ s)(i:Nat)(r:Bool):gQ (L0 s i r):=by
 have hl:(s.P.modify i λp=>{p with rd:=r}).length=s.P.length:=ab0 ..;refine⟨by simp only[L0];rw[hl];exact h.n,λq hq v a=>?_,h.bk,h.nw,by simp only[L0];rw[hl];exact h.tu,h.bn,?_,λj q hq=>?_,λj b=>h.o j (by simpa only[L0,hl] using b)⟩
 .obtain⟨p,hp,rfl|rfl⟩:=mem_modify hq
  .exact h.sv _ hp v a
  .exact h.sv p hp v a
 .simp only[L0];cases hp:s.P[i]? with
  |none=>rw[List.modify_eq_self (by rw[List.getElem?_eq_none_iff] at hp;exact hp)];exact h.u9
  |some p=>
   have:=sU (f:=λp:Pv=>{p with rd:=r}) hp;have hu:kU {p with rd:=r}=kU p:=rfl;rw[hu] at this;have:=h.u9;omega
 .obtain⟨p,hp,he⟩:=get_modify hq;have:=h.has j p hp;rw[he];split
  .exact this
  .exact this
theorem gQ.res(h:gQ s)(hi:i<s.P.length)(bu pe:Int):gQ (D3 s i bu pe):=by
 unfold D3;split
 .rename_i he;have hl:(s.P.modify i λp=>{p with sv:=some (vU bu pe)}).length=s.P.length:=ab0 ..;have m:=h.n;have e:nK bu pe=true/\s.b.f i=none:=by
   unfold nI at he;split at he
   .rename_i e;split at he
    .cases he
    .rename_i hf;exact⟨e,by cases k:s.b.f i with|none=>rfl|some v=>rw[k] at hf;simp at hf⟩
   .cases he
  have hp:=Zv hi;have g:rZ s.b i bu pe={s.b with f:=gC s.b.f i (some (jE bu pe)),us:=s.b.us+jE bu pe}:=by unfold rZ;rw[Zz he]
  have a:s.P[i].sv=none:=by
   have:=h.has i _ hp;rw[e.2] at this;cases c:s.P[i].sv with
   |none=>rfl
   |some v=>rw[c] at this;simp at this
  refine⟨by simp only;rw[hl];exact m,λq hq v c=>?_,h.bk.Zc aQ,h.nw,by simp only;rw[hl];exact h.tu,by rw[g];exact h.bn,?_,λj q hq=>?_,λj d=>?_⟩
  .obtain⟨p,hp,rfl|rfl⟩:=mem_modify hq
   .exact h.sv _ hp v c
   .simp at c;rw[<-c];exact rR.new (zV e.1) h.nw.1
  .have:=sU (f:=λp:Pv=>{p with sv:=some (vU bu pe)}) hp;have hu:kU {s.P[i] with sv:=some (vU bu pe)}=false:=rfl;have l:kU s.P[i]=false:=by unfold kU;rw[a]
   rw[hu,l] at this;have hc:=h.u9;rw[g];simp only[aaZ,aaY] at this⊢;omega
  .obtain⟨p,hp,he⟩:=get_modify hq;rw[g,he];simp only[gC];by_cases d:j=i
   .subst d;rw[Zz rfl,Zz rfl];rfl
   .rw[aaA aQ,aaA d];exact h.has j p hp
  .rw[g];simp only[gC];simp only[hl] at d;rw[aaA aQ];exact h.o j d
 .exact h
theorem gQ.rel(h:gQ s){p:Pv}{v:Sv}(hp:s.P[i]?=some p)(k:p.sv=some v):gQ (yE s i v):=by
 have hl:(s.P.modify i λp=>{p with sv:=none}).length=s.P.length:=ab0 ..;have hf:s.b.f i=some (jE v.bu v.pe):=by rw[h.has i p hp,k];rfl
 have hF:(tE s.b i (sR v)).f=gC s.b.f i none/\(tE s.b i (sR v)).bn=s.b.bn/\(tE s.b i (sR v)).L.length<=s.b.L.length+(if s.b.bn<sR v then 1 else 0):=by
  unfold tE;rw[hf];simp only;split
  .exact⟨rfl,rfl,aT⟩
  .exact⟨rfl,rfl,aT⟩
 refine⟨by simp only[yE];rw[hl];exact h.n,λq hq u hu=>?_,h.bk.rel,h.nw,by simp only[yE];rw[hl];exact h.tu,by simp only[yE];rw[hF.2.1];exact h.bn,?_,λj q hq=>?_,λj c=>?_⟩
 .obtain⟨t,d,rfl|rfl⟩:=mem_modify hq
  .exact h.sv _ d u hu
  .simp at hu
 .have hc:=sU (f:=λp:Pv=>{p with sv:=none}) hp;have hu:kU {p with sv:=none}=false:=rfl;have e:kU p=AD v:=by unfold kU;rw[k]
  rw[hu,e] at hc;have m:=h.u9;have l:=hF.2.2;simp only[yE];simp only[aaZ,aaY] at hc;cases a:AD v with
  |true=>
   rw[a] at hc;simp only[abI] at hc;split at l <;> omega
  |false=>
   rw[K3 a,aaA (by have:=h.bn;omega)] at l;rw[K3 a];rw[a] at hc;simp only[aaZ,aaY] at hc;omega
 .obtain⟨r,g,he⟩:=get_modify hq;simp only[yE];rw[hF.1,he];simp only[gC];by_cases c:j=i
  .subst c;rw[Zz rfl,Zz rfl];rfl
  .rw[aaA aQ,aaA c];exact h.has j r g
 .simp only[yE];rw[hF.1];simp only[gC];simp only[yE,hl] at c;split
  .rfl
  .exact h.o j c
end
end
section
open Go.RowKit Go.Lib Go.Shelf
variable{P':List Pv}{v':Sv}{F:Nat->Prop}{w:aA}{g q d:Nat}{s:Sd}{ow:Nat->Nat}{M:Option Nat}{B:Option aJ}
section
structure Pm where
 pt:Option Nat
 rd:Bool
def ZS(p:Option Nat):Option aJ:=p.map λh=>⟨h,0,none⟩
def KA(p:Pm):List Value:= [.pointer (ZS p.pt), .bool p.rd]
theorem Q5:eL KA 2:=⟨λ_=>rfl,λx u hu=>by simp[KA] at hu;rcases hu with rfl|rfl <;> rfl⟩
def GB(w:aA)(ow:Nat->Nat)(i:Nat)(r:Pm)(p:Pv):Prop:=r.rd=p.rd/\(p.sv=none->r.pt=none)/\∀v,p.sv=some v->∃h,r.pt=some h/\sI (Fo w ow (3+i)) w h v
structure iQ(F:Nat->Prop)(w:aA)(g:Nat)(s:Sd)(ow:Nat->Nat)(q:Nat)(R:List Pm)(M:Option Nat)(B:Option aJ)(d:Nat):Prop where
 fn:zZ F w ow
 bk:gE (Fo w ow 1) w g q s.P.length s.P.length s.b M B d s.nw s.tu
 row:bI KA 2 w 0 219 q s.P.length R
 oq:ow q=2
 len:R.length=s.P.length
 ml:∀(i:Nat) (h:i<R.length) (h':i<s.P.length),GB w ow i R[i] s.P[i]
def lS(F:Nat->Prop)(w:aA)(g:Nat)(s:Sd):Prop:=∃ow q R M B d,iQ F w g s ow q R M B d
variable{ka:List Pm}
section
variable{F G H:Nat->Prop}{w w':aA}{ow:Nat->Nat}{g q i j n c d d':Nat}{s:Sd}{R:List Pm}{M M':Option Nat}{B B' E:Option aJ}{b b':Bs}{nw tu:Int}
theorem gE.cD(g n c d:Nat)(E B:Option aJ)(nw tu:Int)(M:Option Nat)(b:Bs):dN (λF w=>gE F w g E n c b M B d nw tu):=λ_ _ _ _ _ h k a fl hH=>h.move k a fl hH
theorem GB.other{r:Pm}{p:Pv}(h:GB w ow i r p)(k:Kp (Fo w ow j) w w')(f:j≠3+i):GB w' (nx w ow j) i r p:=⟨h.1,h.2.1,λv l=>by
 obtain⟨a,h1,m⟩:=h.2.2 v l;exact⟨a,h1,(sI.cD a v).other m k (λe=>f e.symm)⟩⟩
theorem iQ.lq(h:iQ F w g s ow q R M B d):q<w.heap.size:=(h.row.lt q rfl).2
theorem iQ.ZX(h:iQ F w g s ow q R M B d)(i:Nat):nx w ow i q=2:=(yI h.lq).trans h.oq
theorem iQ.lD(h:iQ F w g s ow q R M B d)(k:Kp (Fo w ow i) w w')(hi:i≠2):bI KA 2 w' 0 219 q s.P.length R:=h.row.kp k (λr a=>by
 injection a with a;subst a;exact⟨h.lq,by rw[h.oq];exact λe=>hi e.symm⟩)
theorem iQ.JH(h:iQ F w g s ow q R M B d){nw' tu':Int}(hk:gE (Fo w ow 1) w' g q s.P.length s.P.length b' M' B' d' nw' tu')(k:Kp (Fo w ow 1) w w'):iQ F w' g {s with b:=b',nw:=nw',tu:=tu'} (nx w ow 1) q R M' B' d'/\Kp F w w':=
 ⟨⟨h.fn.next k 1,dN.own (gE.cD _ _ _ _ _ _ _ _ _ _) hk k,h.lD k cC,h.ZX 1,h.len,λi hi a=>(h.ml i hi a).other k aQ⟩,h.fn.kp k cC⟩
theorem iQ.Ty(h:iQ F w g s ow q R M B d)(a:P'.length=s.P.length)(e:ka.length=P'.length)(f:bI KA 2 w' 0 219 q s.P.length ka)(k:Kp (Fo w ow 2) w w')(hm:∀(i:Nat) (h:i<ka.length) (l:i<P'.length),GB w' (nx w ow 2) i ka[i] P'[i]):iQ F w' g {s with P:=P'} (nx w ow 2) q ka M B d/\Kp F w w':=
 ⟨⟨h.fn.next k 2,by rw[a];exact dN.other (gE.cD _ _ _ _ _ _ _ _ _ _) h.bk k cC,by rw[a];exact f,h.ZX 2,e,hm⟩,h.fn.kp k cC⟩
theorem iQ.Jc(h:iQ F w g s ow q R M B d)(hi:i<s.P.length)(l:i<R.length){v:Sv}{a:Nat}(hp:R[i].pt=some a)(o:s.P[i].sv=some v)(hs:sI (Fo w ow (3+i)) w' a v')(k:Kp (Fo w ow (3+i)) w w'):iQ F w' g {s with P:=s.P.set i {s.P[i] with sv:=some v'}} (nx w ow (3+i)) q R M B d/\Kp F w w':=by
 refine⟨⟨h.fn.next k _,by simp only[aaL];exact dN.other (gE.cD _ _ _ _ _ _ _ _ _ _) h.bk k aQ,by simp only[aaL];exact h.lD k aQ,h.ZX _,by simp only[aaL];exact h.len,λm hm f=>?_⟩,h.fn.kp k aQ⟩;simp only[aaL] at f;simp only[abA];split
 .rename_i e;subst e;exact⟨(h.ml _ hm f).1,λe=>(by cases e),λu hu=>(by injection hu with hu;subst hu;exact⟨a,hp,(sI.cD a _).own hs k⟩)⟩
 .exact(h.ml m hm f).other k aQ
theorem iQ.made(h:iQ F w g s ow q R M B d)(hi:i<s.P.length)(l:s.P[i].sv=none){v:Sv}{a:Nat}(hs:sI (λb=>b<w.heap.size) w' a v)(hb:aD w w w'):iQ F w' g s (nx w ow (3+i)) q R M B d/\sI (Fo w' (nx w ow (3+i)) (3+i)) w' a v/\Kp F w w':=by
 have k:Kp (Fo w ow (3+i)) w w':=Kp.cB hb λb hb=>hb.1
 refine⟨⟨h.fn.next k _,dN.other (gE.cD _ _ _ _ _ _ _ _ _ _) h.bk k aQ,h.lD k aQ,h.ZX _,h.len,λm hm f=>?_⟩,?_,h.fn.kp k aQ⟩
 .by_cases e:m=i
  .subst e;exact⟨(h.ml _ hm f).1,(h.ml _ hm f).2.1,λu hu=>by rw[l] at hu;cases hu⟩
  .exact(h.ml m hm f).other k aQ
 .refine hs.move (Kp.refl (λ_=>True) _) (λ_ _ _=>trivial) (Fo.ol _ _ _) (λr o l hf=>hf.2 (KH (Nat.not_lt.1 l)))
theorem iQ.keep(h:iQ F w g s ow q R M B d)(hb:aD w w w'):iQ F w' g s (nx w ow 0) q R M B d/\Kp F w w':=by
 have k:Kp (Fo w ow 0) w w':=Kp.cB hb λb hb=>hb.1
 exact⟨⟨h.fn.next k _,dN.other (gE.cD _ _ _ _ _ _ _ _ _ _) h.bk k aQ,h.lD k aQ,h.ZX _,h.len,λm hm a=>(h.ml m hm a).other k aQ⟩,h.fn.ol.below hb⟩
theorem lS.cD(g:Nat)(s:Sd):dN (λF w=>lS F w g s):=λF G H w w' ⟨ow,q,R,M,B,d,h⟩ k f fl hH=>by
 have m:∀r,r<w.heap.size->ow r≠0->¬F r:=λr e o hf=>o (h.fn r hf).2
 refine⟨mv w ow H,q,R,M,B,d,zZ.mv fl,dN.part (gE.cD _ _ _ _ _ _ _ _ _ _) h.fn k f hH cC h.bk,h.row.kp k (λr e=>?_),(Ui h.lq ?_).trans h.oq,h.len,λi hi l=>?_⟩
 .injection e with e;subst e;exact f _ h.lq (m _ h.lq (by rw[h.oq];decide))
 .exact hH _ h.lq (m _ h.lq (by rw[h.oq];decide))
 .have hp:=h.ml i hi l;refine⟨hp.1,hp.2.1,λv p=>?_⟩;obtain⟨a,h1,t⟩:=hp.2.2 v p;exact⟨a,h1,(sI.cD a v).part h.fn k f hH aQ t⟩
theorem lS.fl(h:lS F w g s):Ol F w:=by obtain⟨ow,q,R,M,B,d,h⟩:=h;exact h.fn.ol
theorem iQ.c0(h:iQ F w g s ow q R M B d):w.cell? (g,0)=some (.slice q s.P.length s.P.length):=h.bk.b.cell 0 _ rfl
theorem iQ.c5(h:iQ F w g s ow q R M B d):w.cell? (g,5)=some (.int .i64 s.nw):=h.bk.b.cell 5 _ rfl
theorem iQ.c6(h:iQ F w g s ow q R M B d):w.cell? (g,6)=some (.int .i64 s.tu):=h.bk.b.cell 6 _ rfl
theorem iQ.pl(h:iQ F w g s ow q R M B d)(hi:i<R.length):w.cell? (q,i *2)=some (.pointer (ZS R[i].pt))/\w.cell? (q,i *2+1)=some (.bool R[i].rd)/\w.frozen? (q,i *2)=false/\w.frozen? (q,i *2+1)=false:=by
 have hl:=h.len;have:=abU 2 (show i+1<=s.P.length from by omega);exact⟨bM Q5 h.row hi (j:=0) rfl,bM Q5 h.row hi (j:=1) rfl,(cZ h.row _ aQ).2,(cZ h.row _ aQ).2⟩
end
theorem KY{R:List Pm}(h:iQ F w g s ow q R M B d)(a:s.P.length<=8)(hi:i<s.P.length):aG prog 64 #[.pointer g,i] w λe w'=>e= .returned (.pointer (some ⟨q,i *2,none⟩))/\w=w':=by
 have c0:=h.c0;have i0:¬(i:Int)<0:=aQ;have i2:(0:Int)<=i:=aQ;have i1:(i:Int)<(s.P.length:Int):=aQ;clear h;generalize s.P.length=n at *;go_enter func64,ntmps64
 go_wp2_with fail
 go_ret
 exact⟨aT,rfl⟩
theorem DG{R:List Pm}(h:iQ F w g s ow q R M B d)(a:s.P.length<=8)(i:Int)(hi:i<0\/s.P.length<=i):aG prog 64 #[.pointer g,i] w λe w'=>e= .returned (.pointer none)/\w=w':=by
 have c0:=h.c0;clear h;generalize s.P.length=n at *;by_cases f:i<0
 .go_enter func64,ntmps64
  go_wp2_with fail
  go_ret
  exact⟨rfl,rfl⟩
 .have h1:(n:Int)<=i:=aQ;clear hi;go_enter func64,ntmps64
  go_wp2_with fail
  go_ret
  exact⟨rfl,rfl⟩
theorem vR(h:lS F w g s):aG prog 21 #[.pointer g] w λe w'=>e= .returned (.int .i64 s.nw)/\w=w':=by
 obtain⟨ow,q,R,M,B,d,h⟩:=h;have c5:=h.c5;clear h;go_enter func21,ntmps21
 go_wp2_with fail
 go_ret
 exact⟨rfl,rfl⟩
def JU(s:Sd)(e:Int):Bool:=if 0<=e then match s.P[e.toNat]? with|some p=>p.rd|none=>false else false
theorem Yv(h:lS F w g s)(l:s.P.length<=8)(i:Int):aG prog 30 #[.pointer g,i] w λe w'=>e= .returned (.bool (JU s i))/\w=w':=by
 obtain⟨ow,q,R,M,B,d,h⟩:=h;by_cases ho:i<0\/s.P.length<=i
 .have f:=aP (DG h l i ho);have k:aH (JU s i=false):=by
   show JU s i=false;unfold JU;split
   .rw[abR aQ]
   .rfl
  clear h ho;generalize JU s i=v at *;go_enter func30,ntmps30
  go_wp2_with fail
  refine aR f ?_;rintro e m ⟨rfl,rfl⟩;go_wp2_with fail
  go_ret
  exact⟨by first|rfl|(rw[k.o];rfl),rfl⟩
 .obtain⟨n,rfl⟩:=aaB (show 0<=i by omega);have hi:n<s.P.length:=aQ;have a:n<R.length:=by have:=h.len;omega
  have f:=aP (KY h l hi);obtain⟨c0,c1,f0,f1⟩:=h.pl a;have k:aH (R[n].rd=JU s n):=by
   show R[n].rd=JU s n;unfold JU;rw[Zz aQ,aaG,Zv hi];exact(h.ml n a hi).1
  clear h ho;generalize R[n]=r at *;generalize JU s n=v at *;go_enter func30,ntmps30
  go_wp2_with fail
  refine aR f ?_;rintro e m ⟨rfl,rfl⟩;go_wp2_with fail
  go_ret
  exact⟨by first|rfl|(rw[k.o];rfl),rfl⟩
def tL(s:Sd)(e:Int):Option Sv:=if 0<=e then s.P[e.toNat]?.bind Pv.sv else none
theorem VF(h:lS F w g s)(p:s.P.length<=8)(i:Int):aG prog 115 #[.pointer g,i] w λe w'=>(∃pt,e= .returned (.pointer (ZS pt))/\(tL s i=none->pt=none)/\∀v,tL s i=some v->∃a,pt=some a/\sI F w a v)/\w=w':=by
 obtain⟨ow,q,R,M,B,d,h⟩:=h;by_cases ho:i<0\/s.P.length<=i
 .have m:=aP (DG h p i ho);have l:aH (tL s i=none):=by
   show tL s i=none;unfold tL;split
   .rw[abR aQ];rfl
   .rfl
  clear h ho;generalize tL s i=v at *;go_enter func115,ntmps115
  go_wp2_with fail
  refine aR m ?_;rintro e t ⟨rfl,rfl⟩;go_wp2_with fail
  go_ret
  exact⟨⟨none,rfl,λ_=>rfl,λv f=>by rw[l.o] at f;cases f⟩,rfl⟩
 .obtain⟨n,rfl⟩:=aaB (show 0<=i by omega);have hi:n<s.P.length:=aQ;have k:n<R.length:=by have:=h.len;omega
  have m:=aP (KY h p hi);obtain⟨c0,c1,f0,f1⟩:=h.pl k;have l:aH ((tL s n=none->R[n].pt=none)/\∀v,tL s n=some v->∃a,R[n].pt=some a/\sI F w a v):=by
   have hq:tL s n=s.P[n].sv:=by
    unfold tL;rw[Zz aQ,aaG,Zv hi];rfl
   have hm:=h.ml n k hi;refine⟨λf=>hm.2.1 (by rw[<-hq];exact f),λv f=>?_⟩;obtain⟨a,h1,u⟩:=hm.2.2 v (by rw[<-hq];exact f);exact⟨a,h1,u.move (Kp.refl (λ_=>True) _) (λ_ _ _=>trivial) h.fn.ol (λr x y hf=>y ⟨x,by rw[(h.fn r hf).2];omega⟩)⟩
  clear h ho;generalize R[n]=r at *;go_enter func115,ntmps115
  go_wp2_with fail
  refine aR m ?_;rintro e t ⟨rfl,rfl⟩;go_wp2_with fail
  go_ret
  exact⟨⟨r.pt,rfl,l.o.1,l.o.2⟩,rfl⟩
end
end
end Go.Proofs.YtacgiflhgdaeaaaGreat
