/- Texts laid as one. -/
import Derived.Test.YtacgiflhgdaeaaaGreatZ5
import Derived.Test.YtacgiflhgdaeaaaGreatZ8
import Derived.Test.YtacgiflhgdaeaaaGreatZ13
import Derived.Test.YtacgiflhgdaeaaaGreatZ16
import Derived.Test.YtacgiflhgdaeaaaGreatZ18
set_option linter.unusedVariables false
set_option linter.unusedSimpArgs false
set_option maxRecDepth 100000
set_option maxHeartbeats 20000000
namespace Go.Proofs.YtacgiflhgdaeaaaGreat
open Go.Proofs.Tryz
open Go renaming World->aA,Value->aC,Ending->aM,Calls->aG
open Go.RowKit renaming Hid->aH,intOf->aL
section
open Go.RowKit Go.Lib Go.Shelf
variable{i g q2 q:Nat}{F:Nat->Prop}{w w1 w2:aA}{s s':Sd}
section
def uI(now:Int)(P:List Pv)(k:Nat):List Pv:=P.mapIdx λi p=>if i<k then iS now p else p
theorem oE(now:Int)(P:List Pv)(k:Nat):(uI now P k).length=P.length:=List.length_mapIdx
theorem vW{now:Int}{P:List Pv}{k:Nat}(hi:i<P.length):(uI now P k)[i]'(by rw[oE];exact hi)=if i<k then iS now P[i] else P[i]:=aeZ ..
theorem Iv(now:Int)(P:List Pv):uI now P 0=P:=abX (oE ..) λi h1 a=>by rw[vW a,aaL (acK _)]
theorem Mx(now:Int)(P:List Pv):uI now P P.length=P.map (iS now):=abX (by rw[oE,abT]) λi h1 a=>by
 rw[oE] at h1;rw[vW h1,aaK h1,List.getElem_map]
theorem RN{now:Int}{P:List Pv}{k:Nat}(hk:k<P.length):(uI now P k).set k (iS now P[k])=uI now P (k+1):=abX (by rw[aaV,oE,oE]) λi h1 b=>by
 rw[oE] at b;rw[abF];split
 .rename_i e;subst e;rw[vW b,aaK (Nat.lt_succ_self _)]
 .rw[vW b,vW b];rename_i e;by_cases a:i<k
  .rw[aaK a,aaK aQ]
  .rw[aaL a,aaL aQ]
theorem Ew{now:Int}{P:List Pv}{k:Nat}(hk:k<P.length)(h:iS now P[k]=P[k]):uI now P (k+1)=uI now P k:=by
 rw[<-RN hk,h];refine abX (by rw[aaV]) λi h1 a=>?_
 rw[oE] at a;rw[abF];split
 .rename_i e;subst e;rw[vW a,aaL (acA _)]
 .rfl
section
variable{F:Nat->Prop}{w w':aA}{ow:Nat->Nat}{g q d:Nat}{s:Sd}{R:List Pm}{M:Option Nat}{B:Option Addr}
theorem iG.PD(h:iG F w g s ow q R M B d)(v:Int):iG F (w.setCell (g,5) v) g {s with nw:=v} (nx w ow 1) q R M B d/\Kp F w (w.setCell (g,5) v):=by
 obtain⟨h1,a⟩:=h.bk.cells (bn':=s.b.bn) (us':=s.b.us) (nw':=v) (tu':=s.tu) (aY (bE w g) 5 _) (by have:=h.bk.b.bQ 5 v;simpa[ID] using this);exact h.KG h1 a
theorem iG.Vz(h:iG F w g s ow q R M B d)(v:Int):iG F (w.setCell (g,6) v) g {s with tu:=v} (nx w ow 1) q R M B d/\Kp F w (w.setCell (g,6) v):=by
 obtain⟨h1,a⟩:=h.bk.cells (bn':=s.b.bn) (us':=s.b.us) (nw':=s.nw) (tu':=v) (aY (bE w g) 6 _) (by have:=h.bk.b.bQ 6 v;simpa[ID] using this);exact h.KG h1 a
theorem iG.f5(h:iG F w g s ow q R M B d):w.frozen? (g,5)=false/\w.frozen? (g,6)=false:=⟨h.bk.b.frozen 5,h.bk.b.frozen 6⟩
end
theorem mE.Vf{T:Int}{s:Sv}{x:Ck}{xs:List Ck}(h:mE T s)(i:T<=1048576)(hs:s.ch=x::xs):(∀r∈s.rf,r.at_<=x.de)/\(1<=x.lf/\x.lf<=1048576)/\(0<=x.us/\x.us<=1048576)/\0<=s.cg/\s.cg<=1048576:=by
 have a:x∈s.ch:=by rw[hs];simp
 have h1:=h.b.ch x a;have c:=h.b.all;have j:=h.b.bu;have k:=h.b.av;have m:=yK h.b.rf;have n:=GI (l:=xs) λy e=>h.b.ch y (by rw[hs];simp[e])
 have o:=h.cg;rw[hs,kP] at c;exact⟨λr f=>h.b.AF r f x a,aQ,aQ,aQ⟩
theorem modify_eq{l:List Pv}{f:Pv->Pv}(hi:i<l.length):l.modify i f=l.set i (f l[i]):=abX (by rw[ab9,aaV]) λj h1 a=>by
 rw[aeX,abF];split
 .rename_i e;subst e;rfl
 .rfl
def Qg(F:Nat->Prop)(g:Nat)(s:Sd)(w:aA)(e:aM)(w':aA):Prop:=e= .returned (.tuple #[.agg #[.int .i64 (cI s).1.env, .bool (cI s).1.ch],true])/\lM F w' g (cI s).2/\Kp F w w'
theorem QP{x:Rn}(h:lM (Fb F q2) w2 g s')(hq:¬F q2)(k:Kp F w w1)(e:Kp (Fb F q2) w1 w2)(a b:aC)(f:cI s=(x,s')):Qg F g s w (.returned (.tuple #[.agg #[x.env,x.ch],true])) ((w2.setCell (q2,0) a).setCell (q2,1) b):=by
 have c:w2.grownBy ((w2.setCell (q2,0) a).setCell (q2,1) b) (some q2):=aY (aY (bE _ _) 0 _) 1 _;have fl:Ol F w2:=λb i=>h.fl b (.inl i)
 unfold Qg;rw[f];exact⟨rfl,(lM.bX g s').unbox h fl c,(k.trans e.unbox).trans (fl.self hq c)⟩
theorem MK{t:TypeId}{x y:aC}(h:bC w q t #[x,y])(a b:aC):((w.setCell (q,0) a).setCell (q,1) b).cell? (q,0)=some a/\((w.setCell (q,0) a).setCell (q,1) b).cell? (q,1)=some b:=by
 have h1:=(h.bQ 0 a).bQ 1 b;exact⟨h1.cell 0 _ aT,h1.cell 1 _ aT⟩
theorem ZR(h:lM F w g s)(hI:gE s)(hnw:s.nw<1048576):aG prog 77 #[.pointer g] w (Qg F g s w):=by
 have fl:=h.fl;have h1:=(lM.bX g s).box h fl (Obj.cells #[aU,false] 69);have xb:=bC.new w 69 #[aU,false];have kk1:=fl.below (aX w (Obj.cells #[aU,false] 69));have hFq:¬F w.heap.size:=λhf=>acA _ (fl _ hf)
 clear h fl;obtain⟨n,hn⟩:∃n,n=s.P.length:=⟨_,rfl⟩
 have hn8:n<=8/\1<=n:=by have:=hI.n;omega
 have HN:=aP hn;have hw0:=hI.nw;have HI:=aP hI;clear hn hI;go_enter func77,ntmps77
 go_upto_region 1 with(fail)
 generalize w.alloc (Obj.cells #[aU,false] 69)=w1 at *;generalize w.heap.size=q2 at *;obtain⟨ow,q,R,M,B,d,h⟩:=h1;have c5:=h.c5;obtain⟨u,hu⟩:∃u,u=s.nw:=⟨_,rfl⟩
 rw[<-hu] at c5 hw0 hnw;have HU:=aP hu;have hu1:¬(1048576:Int)<=u:=aQ;clear hu;have HH:=aP h;have HK1:=aP kk1;clear h kk1;go_upto_region 3 with(fail)
 have c:=bF c5;refine bS (bV _) (λ_=>bV) [] (λ_ _ _=>True) [7] [] 121 (cM _) (λ_ _ _ h hz=>bZ h hz) (λ_ d hd _ v w w' _ h hz=>by cases hd) aV aV bK ?_;repeat refine fQ ?_
 refine eL ?_;intro γ w5 hb5 hT;clear c;simp only[dG,Act.put,aaI,aaP,aaN];refine eT ?_;obtain⟨Z,k5⟩:=HH.o.keep hb5;have HA:=PT Z.bk HI.o.bk s.nw (by have:=HI.o.len;omega);rw[<-HU.o] at HA;have HA':=aP HA;have H5:=bH Z k5;clear hT HA Z k5 hb5;refine wpList_plain rfl (λK hK=>?_);go_wp2_with fail
 refine aR HA' ?_;rintro e w6 ⟨⟨v6,rfl⟩,⟨M6,B6,d6,m6⟩,k6⟩;obtain⟨h6,kk6⟩:=H5.o.1.KG m6 k6;have hk6:=H5.o.2.trans kk6;have xb6:=hk6.aZ xb (.inr rfl);have H6:=aP h6;have HK6:=aP hk6;have c0:=h6.c0;clear H5 HA' m6 k6 kk6 hk6 h6 HH xb;generalize nx w5 (nx w1 ow 0) 1=ow6 at *;clear ow;rw[show({s with b:=jZ s.b u,nw:=s.nw,tu:=s.tu}:Sd).P.length=n from HN.o.symm] at c0;refine hK _ _ ?_;clear hK K;refine cP ?_;try refine dB ?_
 clear c5 w5;go_upto_region 4 with(fail)
 go_wp2_with fail
 go_loopw [31] (λv31 wr=>∃(k:Nat) (ow:Nat->Nat),v31= .int .i64 k/\k<=n/\aH (iG (Fb F q2) wr g {s with P:=uI u s.P k,b:=jZ s.b u,nw:=u} ow q R M6 B6 d6/\Kp (Fb F q2) w6 wr)) (λv31 _=>n - (aL v31).toNat)
 case atStart=>exact⟨0,ow6,rfl,aaQ _,by show _/\_;rw[Iv];exact⟨H6.o,Kp.refl _ _⟩⟩
 case round=>
  clear c0;obtain⟨k,owk,rfl,hk,S⟩:=hrel;have hRl:R.length=n:=by have:=S.o.1.len;rw[oE] at this;rw[HN.o];exact this
  have c0:=S.o.1.c0;rw[show({s with P:=uI u s.P k,b:=jZ s.b u,nw:=u}:Sd).P.length=n from(oE ..).trans HN.o.symm] at c0;by_cases hkn:k<n
  .have U:k<s.P.length:=by rw[<-HN.o];exact hkn
   have hkR:k<R.length:=by rw[hRl];exact hkn
   have hkb:k<(uI u s.P k).length:=by rw[oE];exact U
   have c5:wr.cell? (g,5)=some (.int .i64 u):=S.o.1.c5;obtain⟨p0,p1,_,_⟩:=S.o.1.pl hkR;have k0:(0:Int)<=k:=aQ;have k1:(k:Int)<(n:Int):=aQ;have y:=S.o.1.ml k hkR hkb;have E:(uI u s.P k)[k]=s.P[k]:=by rw[vW U,aaL (acA _)]
   have L:R[k].rd=s.P[k].rd:=by rw[<-E];exact y.1
   rw[L] at p1;cases r:s.P[k].sv with
   |none=>
    rw[y.2.1 (by rw[E];exact r)] at p0;replace p0:wr.cell? (q,k *2)=some (.pointer none):=p0;have HE:aH (uI u s.P (k+1)=uI u s.P k):=Ew U (by unfold iS;rw[r];cases hp:s.P[k];rw[hp] at r;simp at r;simp[r]);clear y r E L;generalize s.P[k].rd=rd at *;go_upto_region 7 with(fail)
    have z:=bF c0;have c:=bF c5;have A:=bF p0;have C:=bF p1;refine bS (bV _) (λ_=>bV) [] (λ_ _ _=>True) [20] [[20,7,6,5,3], [20,19,18,17,15]] 121 (cM _) (λ_ _ _ h hz=>bZ h hz) (λ_ d hd _ v w w' _ h hz=>by cases hd) aV aV bK ?_;repeat refine fQ ?_
    refine eL ?_;intro γ w5 hb5 hT;clear z c A C;simp only[dG,Act.put,aaI,aaP,aaN];refine eT ?_;obtain⟨Z,k5⟩:=S.o.1.keep hb5;have H5:=bH Z (S.o.2.trans k5);clear hT Z k5 hb5;refine wpList_plain rfl (λK hK=>?_);go_wp2_with fail
    refine aS (VL w5 u rd) ?_;rintro e w6 ⟨rfl,rfl⟩;refine hK _ _ ?_;clear hK K;refine cP ?_;try refine dB ?_
    go_wp2_with fail
    go_roundw
    case rel=>exact⟨k+1,_,by go_num,aQ,by show _/\_;rw[HE.o];exact H5.o⟩
    case measure=>simp[aL];omega
   |some v=>
    obtain⟨a,ha,hs⟩:=y.2.2 v (by rw[E];exact r);rw[ha] at p0;replace p0:wr.cell? (q,k *2)=some (.pointer a):=p0;have G:=HI.o.sv _ (aaM U) v r;have HE:aH ((uI u s.P k).set k {(uI u s.P k)[k] with sv:=some (dE v u s.P[k].rd)}=uI u s.P (k+1)):=by
     unfold aH;rw[<-RN U,E];unfold iS;rw[r];rfl
    have HV:=aP G;have HA:=aP ha;have HG:aH ((uI u s.P k)[k].sv=some v):=by unfold aH;rw[E];exact r
    clear y r E L ha G hs;generalize s.P[k].rd=rd at *;go_upto_region 7 with(fail)
    have z:=bF c0;have c:=bF c5;have A:=bF p0;have C:=bF p1;refine bS (bV _) (λ_=>bV) [] (λ_ _ _=>True) [20] [[20,7,6,5,3], [20,19,18,17,15]] 121 (cM _) (λ_ _ _ h hz=>bZ h hz) (λ_ d hd _ v w w' _ h hz=>by cases hd) aV aV bK ?_;repeat refine fQ ?_
    refine eL ?_;intro γ w5 hb5 hT;clear z c A C;simp only[dG,Act.put,aaI,aaP,aaN];refine eT ?_;obtain⟨Z,k5⟩:=S.o.1.keep hb5;obtain⟨a',ha',hs5⟩:=(Z.ml k hkR hkb).2.2 v HG.o;obtain rfl:a=a':=by have:=HA.o;rw[ha'] at this;injection this with this;exact this.symm
    have HB:=aP (An hs5 u rd HV.o.b (by have:=HV.o.nw;have:=HU.o;omega) aQ HV.o.nw.1 (by have:=HV.o.len;omega));have H5:=bH Z (S.o.2.trans k5);clear hT Z k5 hb5 ha' hs5;refine wpList_plain rfl (λK hK=>?_);go_wp2_with fail
    refine aR HB ?_;rintro e w6 ⟨rfl,hs6,k6⟩;obtain⟨h7,k7⟩:=H5.o.1.Ky hkb hkR HA.o HG.o hs6 k6;have H7:=bH h7 (H5.o.2.trans k7);clear h7 k7 hs6 k6 H5 HB;refine hK _ _ ?_;clear hK K;refine cP ?_;try refine dB ?_
    go_wp2_with fail
    go_roundw
    case rel=>exact⟨k+1,_,by go_num,aQ,by have:=H7.o;rw[HE.o] at this;exact this⟩
    case measure=>simp[aL];omega
  .obtain rfl:k=n:=aQ;have k1:¬(k:Int)<(k:Int):=aQ;have hall:uI u s.P k=s.P.map (iS u):=by rw[HN.o];exact Mx _ _
   obtain⟨h8,k8⟩:=S.o;obtain⟨h9,k9⟩:=h8.PD (u+1);have c5:wr.cell? (g,5)=some (.int .i64 u):=h8.c5;have f5:=h8.f5.1;have V:({s with P:=uI u s.P k,b:=jZ s.b u,nw:=u+1}:Sd)=dC s:=by
    rw[hall,HU.o];rfl
   rw[V] at h9;have H9:=aP h9;have HK9:=aP (k8.trans k9);have H:=(k8.trans k9).aZ xb6 (.inr rfl);obtain⟨hSI,_⟩:=HI.o.step (by rw[<-HU.o];exact hnw);have HSI:=aP hSI;have f:aH ((dC s).P.length=k):=by unfold aH;rw[uK];exact HN.o.symm
   have HEa:=aP (SN (F:=Fb F q2) (w:=wr.setCell ⟨g,5,none⟩ (.int .i64 (u+1))) ⟨_,_,_,_,_,_,h9⟩ (by rw[f.o];exact hn8.1) (λp hp v r=>by have:=(hSI.sv p hp v r).len;omega));clear h8 k8 h9 k9 hall V hSI S H6 xb6 hRl;generalize nx wr owk 1=ow9 at *;clear owk;have HT:aH (cI s=match fU (dC s).P k with
    |some (i,_)=>(⟨i,true⟩,{dC s with P:=(dC s).P.modify i sL})
    |none=>match vT (dC s).P s.tu.toNat with
     |some e=>(⟨e,false⟩,{dC s with tu:=((e+1)%k:Nat)})
     |none=>(⟨-1,false⟩,dC s)):=by
    unfold aH;rw[HN.o];rfl
   have hEL:fU (dC s).P (dC s).P.length=fU (dC s).P k:=by rw[f.o]
   rw[hEL] at HEa;clear hEL;go_upto_region 10 with(fail)
   generalize wr.setCell (g,5) (.int .i64 (u+1))=w9 at *;go_wp2_with fail
   refine aR HEa ?_;rintro e w10 ⟨rfl,rfl⟩;clear HEa c5 f5 c0;have x0:=H.cell 0 (.int .i64 0) rfl;have x1:=H.cell 1 (.bool false) rfl;have y0:=H.frozen 0;have y1:=H.frozen 1;have c0:=H9.o.c0;rw[f.o] at c0;cases he:fU (dC s).P k with
   |some jd=>
    obtain⟨i,dd⟩:=jd;rw[he] at HT;obtain⟨hik,hdd⟩:=wA _ _ _ _ he;have N:i<(dC s).P.length:=by rw[f.o];exact hik
    have hiR:i<R.length:=by rw[H9.o.len];exact N
    rw[aaG N] at hdd;cases r:(dC s).P[i].sv with
    |none=>simp[iT,r] at hdd
    |some v=>
     have I:∃x xs,v.ch=x::xs:=by
      cases I:v.ch with
      |nil=>simp[iT,r,xV,I] at hdd
      |cons x xs=>exact⟨x,xs,rfl⟩
     obtain⟨x,xs,I⟩:=I;obtain⟨p0,_,_,_⟩:=H9.o.pl hiR;obtain⟨a,ha,hs⟩:=(H9.o.ml i hiR N).2.2 v r;rw[ha] at p0;replace p0:w9.cell? (q,i *2)=some (.pointer a):=p0;have G:=HSI.o.sv _ (aaM N) v r;have hnn:(dC s).nw<=1048576:=HSI.o.nw.2;obtain⟨r1,r2,r3,r4⟩:=G.Vf hnn I;have HB:=aP (Fu hs I r1 (by have:=G.len;omega) (by have:=G.len;omega) r2 r3 r4);have HV:=aP r;have HA:=aP ha;have i0:(0:Int)<=i:=aQ;have i1:(i:Int)<(k:Int):=aQ;clear r1 r2 r3 r4 G hs ha r hdd I hnn he HSI;simp only[SD];go_wp2_with fail
     refine aR HB ?_;rintro e w11 ⟨rfl,hs11,X⟩;obtain⟨O,J⟩:=H9.o.Ky N hiR HA.o HV.o hs11 X;have hm:(dC s).P.set i {(dC s).P[i] with sv:=some (iW v)}=(dC s).P.modify i sL:=by
      rw[modify_eq N];unfold sL;rw[HV.o];rfl
     rw[hm] at O;have D:=J.aZ H (.inr rfl);have hE:=QP (s:=s) (x:=⟨i,true⟩) ⟨_,_,_,_,_,_,O⟩ hFq HK1.o (HK6.o.trans (HK9.o.trans J)) (.int .i64 i) (.bool true) HT.o;have HE:=aP hE;clear hE O J hm hs11 X x0 x1 y0 y1 H HB;have x0:=D.cell 0 (.int .i64 0) rfl;have x1:=D.cell 1 (.bool false) rfl;have y0:=D.frozen 0;have y1:=D.frozen 1;go_wp2_with fail
     have hE:=HE.o;obtain⟨z0,z1⟩:=MK D (.int .i64 i) (.bool true);clear HE;generalize (w11.setCell (q2,0) i).setCell (q2,1) (.bool true)=W at *;refine bodyPost_ret (v:= .tuple #[.agg #[i,true],true]) ?_ rfl hE;simp[z0,z1,results,results77,go_sem]
   |none=>
    rw[he] at HT;have c6:w9.cell? (g,6)=some (.int .i64 s.tu):=H9.o.c6;have f6:=H9.o.f5.2;have htu:=HI.o.tu;rw[<-HN.o] at htu;obtain⟨T,hT⟩:=aaO htu.1;rw[hT] at c6 htu HT;have hTk:T<k:=aQ;have HTT:aH ((dC s).tu=(T:Int)):=hT;clear htu hT he x0 x1 y0 y1;simp only[SD];go_upto_region 14 with(fail)
    go_wp2_with fail
    go_loopw [83] (λv83 wz=>∃j:Nat,v83= .int .i64 j/\j<=k/\aH (∀m,m<j->AO (dC s).P ((T+m)%k)=false)/\Below w9 w9 wz) (λv83 _=>k - (aL v83).toNat)
    case atStart=>exact⟨0,rfl,aaQ _,λm hm=>absurd hm (acK _),Below.refl _ _⟩
    case round=>
     clear c0 c6 f6;obtain⟨j,rfl,hj,HJ,hB⟩:=hrel;obtain⟨l,Y⟩:=H9.o.keep hB;have t:=Y.aZ H (.inr rfl);have x0:=t.cell 0 (.int .i64 0) rfl;have x1:=t.cell 1 (.bool false) rfl;have y0:=t.frozen 0;have y1:=t.frozen 1;have c0:=l.c0;rw[f.o] at c0;have c6:wr.cell? (g,6)=some (.int .i64 T):=by rw[<-HTT.o];exact l.c6
     have f6:=l.f5.2;have hBB:=aP hB;clear hB;by_cases hjk:j<k
     .have j0:(0:Int)<=j:=aQ;have j1:(j:Int)<(k:Int):=aQ;obtain⟨m,hm⟩:∃m,m=(T+j)%k:=⟨_,rfl⟩
      have hmk:m<k:=by rw[hm];exact afU _ aQ
      have hrem:Int.tmod ((T:Int)+(j:Int)) (k:Int)=(m:Int):=by rw[hm,<-Int.natCast_add,Int.ofNat_tmod]
      have y:m<(dC s).P.length:=by rw[f.o];exact hmk
      have hmR:m<R.length:=by rw[l.len];exact y
      obtain⟨_,p1,_,_⟩:=l.pl hmR;have m0:(0:Int)<=m:=aQ;have m1:(m:Int)<(k:Int):=aQ;have L:R[m].rd=AO (dC s).P m:=by
       rw[(l.ml m hmR y).1];unfold AO;rw[aaG y]
      rw[L] at p1;have HM:=aP hm;have H10:=aP l;have K10:=aP Y;clear L hm l Y;cases Q:AO (dC s).P m
      .rw[Q] at p1;have HRR:=aP Q;clear Q;go_upto_region 17 with(fail)
       go_quiet (fail)
       go_wp2_with fail
       go_roundw
       case rel=>
        refine⟨j+1,by go_num,aQ,λi hi=>?_,gJ hBB.o _⟩;by_cases hij:i<j
        .exact HJ.o i hij
        .obtain rfl:i=j:=aQ;rw[<-HM.o];exact HRR.o
       case measure=>simp[aL];omega
      .rw[Q] at p1;have HRR:=aP Q;clear Q;go_upto_region 17 with(fail)
       go_quiet (fail)
       go_wp2_with fail
       have hnx:vT (dC s).P T=some m:=by
        have:=Gs (P:=(dC s).P) (tu:=T) (k:=j) (by rw[f.o];exact hjk) (by rw[f.o];exact HJ.o) (by rw[f.o,<-HM.o];exact HRR.o);rw[f.o,<-HM.o] at this;exact this
       obtain⟨h11,X⟩:=H10.o.keep (w':=wr.drewN nq) (gJ (Below.refl _ _) nq);obtain⟨O,J⟩:=h11.Vz (((m:Int)+1)%(k:Int));have hc:(((m:Int)+1)%(k:Int))=(((m+1)%k:Nat):Int):=aT;have hE:=QP (s:=s) (x:=⟨m,false⟩) ⟨_,_,_,_,_,_,O⟩ hFq HK1.o (HK6.o.trans (HK9.o.trans (K10.o.trans (X.trans J)))) (.int .i64 m) (.bool false) (by rw[HT.o];simp only[aaW];rw[hnx,hc]);obtain⟨z0,z1⟩:=MK ((X.trans J).aZ t (.inr rfl)) (.int .i64 m) (.bool false);clear O J;generalize (((wr.drewN nq).setCell (g,6) (.int .i64 (((m:Int)+1)%(k:Int)))).setCell (q2,0) (.int .i64 m)).setCell (q2,1) (.bool false)=W at *;refine bodyPost_ret (v:= .tuple #[.agg #[.int .i64 m,false],true]) ?_ rfl hE;simp[z0,z1,results,results77,go_sem]
     .obtain rfl:j=k:=aQ;have j1:¬(j:Int)<(j:Int):=aQ;have H10:=aP l;have K10:=aP Y;clear l Y;go_wp2_with fail
      have hnx:vT (dC s).P T=none:=Fk (by rw[f.o];exact HJ.o);have hE:=QP (s:=s) (x:=⟨-1,false⟩) ⟨_,_,_,_,_,_,H10.o⟩ hFq HK1.o (HK6.o.trans (HK9.o.trans K10.o)) (.int .i64 (-1)) (.bool false) (by rw[HT.o];simp only[aaW];rw[hnx]);obtain⟨z0,z1⟩:=MK t (.int .i64 (-1)) (.bool false);generalize (wr.setCell (q2,0) (.int .i64 (-1))).setCell (q2,1) (.bool false)=W at *;refine bodyPost_ret (v:= .tuple #[.agg #[.int .i64 (-1),false],true]) ?_ rfl hE;simp[z0,z1,results,results77,go_sem]
end
variable{n:Nat}
section
def wR(n:Nat):Sd:=⟨List.replicate n ⟨none,false⟩,⟨0,0,λ_=>none, []⟩,0,0⟩
theorem gE.new(h1:1<=n)(c:n<=8):gE (wR n):=by
 have a:(wR n).P.length=n:=acZ;refine⟨by rw[a];omega,λp hp v b=>?_,⟨λx v h=>(by cases h),λp hp=>(by cases hp),rfl,(by show(0:Int)<=4294967296;omega)⟩,(by show(0:Int)<=0/\(0:Int)<=1048576;omega),(by rw[a];show(0:Int)<=0/\(0:Int)<n;omega),(by show(0:Int)<=0/\(0:Int)<=0;omega),?_,λi p hp=>?_,λi hi=>rfl⟩
 .have:=abI hp;subst this;cases b
 .show((0:Nat):Int)+((List.replicate n ⟨none,false⟩:List Pv).countP kJ:Int)<=0;rw[List.countP_replicate];simp[kJ]
 .have:=abI (aa1 hp);subst this;rfl
def Zp(n:Nat)(w:aA)(e:aM)(w':aA):Prop:=∃g,e= .returned (.tuple #[.pointer (some ⟨g,0,none⟩),aU])/\lM (λb=>b<w.heap.size) w' g (wR n)/\Below w w w'
theorem Nz:(prog.info? 219).map (λi=>(i.zero,i.size,i.bytes))=some (some (.agg #[PN,false]),2,16):=aV
theorem QQ(w:aA):aG prog 139 #[.int .i64 4] w (Zp 4 w):=by
 obtain⟨u,j,k,l,m⟩:=info_parts Nz;go_enter func139,ntmps139
 go_wp2_with(at_make;refine wpList_make_full _ rfl _ _ 180 rfl w.heap.size 219 u _ 2 underlying180 j k l _ _ _ _ 4 rfl rfl aQ aQ (by rw[m];omega) dT (aaH _) ?_;intro c a d)
 go_ret2
 have ho:bB LF 2 c w.heap.size 219 (some ⟨w.heap.size,0,none⟩) 4 (List.replicate 4 ⟨none,false⟩):=by
  have e:(madeCells (Value.agg #[PN,false]).cells (4 *2)).toList=(List.replicate 4 (⟨none,false⟩:Pm)).flatMap LF:=aV;rw[e] at a;exact a
 have f:Below w w c:=⟨d.os,d.tape,d.output,d.size,λi hi=>d.block i hi aT⟩
 have hq:w.heap.size<c.heap.size:=(ho.lt _ rfl).2;have g:=aX c (Obj.cells #[.slice w.heap.size 4 4,aU,cO, .map none,bA,aU,aU] 186);have x:=bC.new c 186 #[.slice w.heap.size 4 4,aU,cO, .map none,bA,aU,aU];have s:=f.trans (g.mono f.size);have n:=ho.keep g;refine⟨c.heap.size,rfl,⟨λb=>if b<w.heap.size then 0 else if b=w.heap.size then 2 else 1,w.heap.size,_,none,none,0,λb f=>⟨aaJ f s.size,aaK f⟩,⟨x,bB.nil _ _ _,⟨λ_ _=>rfl,λr o=>(by cases o)⟩,Fo.ol _ _ _,λh=>h.2 ?_,λq hq=>(by cases hq),λr o=>(by cases o)⟩,n.from_ (aaQ _),?_,rfl,λi h1 z=>?_⟩,s⟩
 .show(if _ then _ else _)=_;rw[aaL aQ,aaL aQ]
 .show(if _ then _ else _)=_;rw[aaL aQ,aaK rfl]
 .have hp:∀(r:Pm) (p:Pv),r=⟨none,false⟩->p=⟨none,false⟩->∀W t,IP W t i r p:=by
   rintro r p rfl rfl W t;exact⟨rfl,λ_=>rfl,λv y=>(by cases y)⟩
  exact hp _ _ (afG ..) (afG ..) _ _
end
end
section
open Go.RowKit Go.Lib
variable{H F:Nat->Prop}{i j g q:Nat}{w:aA}
section
structure Ln where
 ra:Bool
 ma:Bool
 se:Bool
 dr:Int
def KO(s:Ln):List aC:= [.bool s.ra, .bool s.ma, .bool s.se, .int .i64 s.dr]
theorem D9:eY KO 4:=⟨λ_=>rfl,λx u hu=>by simp[KO] at hu;rcases hu with rfl|rfl|rfl|rfl <;> rfl⟩
structure Ir(F:Nat->Prop)(w:aA)(g q:Nat)(L:List Ln):Prop where
 b:bC w g 334 #[.slice q L.length L.length]
 o:bB KO 4 w 0 267 q L.length L
 n8:L.length<=8
 fl:Ol F w
 fg:¬F g
 fq:¬F q
 ne:g≠q
section
variable{F G:Nat->Prop}{w w':aA}{g q:Nat}{L:List Ln}
theorem Ir.kp(h:Ir F w g q L)(k:Kp G w w')(c:G g)(hq:G q)(fl:Ol H w')(fg:¬H g)(fq:¬H q):Ir H w' g q L:=⟨k.aZ h.b c,h.o.kp k (λr a=>by injection a with a;rw[<-a];exact hq),h.n8,fl,fg,fq,h.ne⟩
theorem Ir.set(h:Ir F w g q L)(hi:i<L.length)(a:j<4)(x:Ln)(v:aC)(c:KO x=(KO L[i]).set j v):Ir F (w.setCell (q,i *4+j) v) g q (L.set i x)/\Kp F w (w.setCell (q,i *4+j) v):=by
 obtain⟨h1,d⟩:=qR D9.len h.o hi a x v c;have k:=h.fl.self h.fq d;exact⟨⟨by rw[aaV];exact h.b.mG (p:=⟨q,i *4+j,none⟩) h.ne v,by rw[aaV];exact h1,by rw[aaV];exact h.n8,h.fl.kp k,h.fg,h.fq,h.ne⟩,k⟩
theorem Ir.at_(h:Ir F w g q L)(hi:i<L.length):w.cell? (q,i *4)=some (.bool L[i].ra)/\w.cell? (q,i *4+1)=some (.bool L[i].ma)/\w.cell? (q,i *4+2)=some (.bool L[i].se)/\w.cell? (q,i *4+3)=some (.int .i64 L[i].dr):=
 ⟨bG D9 h.o hi (j:=0) rfl,bG D9 h.o hi (j:=1) rfl,bG D9 h.o hi (j:=2) rfl,bG D9 h.o hi (j:=3) rfl⟩
end
theorem GS{L:List Ln}(h:Ir F w g q L)(i:Nat)(hi:i<L.length):aG prog 102 #[.pointer g,i] w λe w'=>e= .returned (.pointer (some ⟨q,i *4,none⟩))/\w=w':=by
 have c0:=h.b.cell 0 _ rfl;have i0:¬(i:Int)<0:=aQ;have i2:(0:Int)<=i:=aQ;have i1:(i:Int)<(L.length:Int):=aQ;clear h;generalize L.length=n at *;go_enter func102,ntmps102
 go_wp2_with fail
 go_ret
 exact⟨aT,rfl⟩
theorem JC{L:List Ln}(h:Ir F w g q L)(i:Int)(hi:i<0\/L.length<=i):aG prog 102 #[.pointer g,i] w λe w'=>e= .returned (.pointer none)/\w=w':=by
 have c0:=h.b.cell 0 _ rfl;clear h;generalize L.length=n at *;by_cases a:i<0
 .go_enter func102,ntmps102
  go_wp2_with fail
  go_ret
  exact⟨rfl,rfl⟩
 .have h1:(n:Int)<=i:=aQ;clear hi;go_enter func102,ntmps102
  go_wp2_with fail
  go_ret
  exact⟨rfl,rfl⟩
def Bg(F:Nat->Prop)(g q n:Nat)(w:aA)(e:aM)(w':aA):Prop:=∃(v:Int) (L:List Ln),e= .returned (.int .i64 v)/\L.length=n/\Ir F w' g q L/\Kp F w w'
section
variable{F:Nat->Prop}{w:aA}{g q:Nat}{L:List Ln}
theorem Ir.fz(h:Ir F w g q L)(hi:i<L.length):w.frozen? (q,i *4)=false/\w.frozen? (q,i *4+1)=false/\w.frozen? (q,i *4+2)=false/\w.frozen? (q,i *4+3)=false:=by
 have:=acB 4 (show i+1<=L.length from hi);exact⟨(cH h.o _ aQ).2,(cH h.o _ aQ).2,(cH h.o _ aQ).2,(cH h.o _ aQ).2⟩
theorem Ir.same(h:Ir F w g q L)(v:Int):Bg F g q L.length w (.returned (.int .i64 v)) w:=⟨v,L,rfl,rfl,h,Kp.refl _ _⟩
theorem Ir.done(h:Ir F w g q L)(v:Int)(hi:i<L.length)(a:j<4)(x:Ln)(u:aC)(b:KO x=(KO L[i]).set j u):Bg F g q L.length w (.returned (.int .i64 v)) (w.setCell (q,i *4+j) u):=⟨v,_,rfl,by rw[aaV],(h.set hi a x u b).1,(h.set hi a x u b).2⟩
end
theorem Bu{L:List Ln}(h:Ir F w g q L)(i:Int):aG prog 74 #[.pointer g,i] w (Bg F g q L.length w):=by
 by_cases ho:i<0\/L.length<=i
 .have a:=aP (JC h i ho);have c:=aP h.same;clear h ho;go_enter func74,ntmps74
  go_wp2_with fail
  refine aR a ?_;rintro e b ⟨rfl,rfl⟩;go_wp2_with fail
  go_ret
  exact c.o _
 .obtain⟨n,rfl⟩:=aaO (show 0<=i by omega);have hi:n<L.length:=aQ;have a:=aP (GS h n hi);obtain⟨c0,c1,c2,c3⟩:=h.at_ hi;have d:=aP (λv=>h.done v hi (j:=0) aQ {L[n] with ra:=true} (.bool true) rfl);have f:=aP (λv x=>h.done v hi (j:=3) aQ {L[n] with dr:=x} (.int .i64 x) rfl);obtain⟨f0,f1,f2,f3⟩:=h.fz hi;clear h ho;generalize L[n]=x at *;obtain⟨r1,k,l,m⟩:=x;simp only at c0 c1 c2 c3;cases r1
  .go_enter func74,ntmps74
   go_wp2_with fail
   refine aR a ?_;rintro e b ⟨rfl,rfl⟩;go_wp2_with fail
   go_ret
   exact d.o _
  .go_enter func74,ntmps74
   go_wp2_with fail
   refine aR a ?_;rintro e b ⟨rfl,rfl⟩;go_wp2_with fail
   go_ret
   exact f.o _ _
theorem P7{L:List Ln}(h:Ir F w g q L)(i:Int)(m:Bool):aG prog 195 #[.pointer g,i,m] w (Bg F g q L.length w):=by
 by_cases ho:i<0\/L.length<=i
 .have a:=aP (JC h i ho);have b:=aP h.same;clear h ho;go_enter func195,ntmps195
  go_wp2_with fail
  refine aR a ?_;rintro e c ⟨rfl,rfl⟩;go_wp2_with fail
  go_ret
  exact b.o _
 .obtain⟨n,rfl⟩:=aaO (show 0<=i by omega);have hi:n<L.length:=aQ;have a:=aP (GS h n hi);obtain⟨c0,c1,c2,c3⟩:=h.at_ hi;obtain⟨f0,f1,f2,f3⟩:=h.fz hi;have d:=aP (λv=>h.done v hi (j:=1) aQ {L[n] with ma:=m} (.bool m) rfl);clear h ho;go_enter func195,ntmps195
  go_wp2_with fail
  refine aR a ?_;rintro e c ⟨rfl,rfl⟩;go_wp2_with fail
  go_ret
  exact d.o _
theorem UQ{L:List Ln}(h:Ir F w g q L)(i:Int):aG prog 196 #[.pointer g,i] w (Bg F g q L.length w):=by
 by_cases ho:i<0\/L.length<=i
 .have a:=aP (JC h i ho);have b:=aP h.same;clear h ho;go_enter func196,ntmps196
  go_wp2_with fail
  refine aR a ?_;rintro e c ⟨rfl,rfl⟩;go_wp2_with fail
  go_ret
  exact b.o _
 .obtain⟨n,rfl⟩:=aaO (show 0<=i by omega);have hi:n<L.length:=aQ;have a:=aP (GS h n hi);have b:=aP h.same;obtain⟨c0,c1,c2,c3⟩:=h.at_ hi;obtain⟨f0,f1,f2,f3⟩:=h.fz hi;have d:=aP (λv=>h.done v hi (j:=2) aQ {L[n] with se:=false} (.bool false) rfl);clear h ho;generalize L[n]=x at *;obtain⟨r1,k,f,l⟩:=x;simp only at c0 c1 c2 c3;cases f
  all_goals
   go_enter func196,ntmps196
   go_wp2_with fail
   refine aR a ?_;rintro e c ⟨rfl,rfl⟩;go_wp2_with fail
   go_ret
   first|exact d.o _|exact b.o _
theorem Ex{L:List Ln}(h:Ir F w g q L):aG prog 153 #[.pointer g] w λe w'=>e= .returned (.int .i64 L.length)/\w=w':=by
 have c0:=h.b.cell 0 _ rfl;clear h;go_enter func153,ntmps153
 go_wp2_with fail
 go_ret
 exact⟨rfl,rfl⟩
end
section
def BY(L:List Ln):Nat:=L.countP λx=>!x.se
theorem Ow{L:List Ln}(hi:i<L.length)(h:L[i].se=false){x:Ln}(a:x.se=true):BY (L.set i x)<BY L:=by
 have h1:0<BY L:=List.countP_pos_iff.2 ⟨L[i],aaM hi,by simp[h]⟩;unfold BY at *;rw[List.countP_set hi];simp[h,a];omega
def Xj(F:Nat->Prop)(g q:Nat)(L:List Ln)(w:aA)(e:aM)(w':aA):Prop:=∃L':List Ln,L'.length=L.length/\Ir F w' g q L'/\Kp F w w'/\((∃i:Nat,i<L.length/\e= .returned (.tuple #[i,true])/\BY L'<BY L)\/e= .returned (.tuple #[aU,false]))
theorem Gm{L:List Ln}(h:Ir F w g q L):aG prog 109 #[.pointer g] w (Xj F g q L w):=by
 have a:=aP h;have c:=aP (Ex h);have d:=h.n8;clear h;go_enter func109,ntmps109
 go_wp2_with fail
 refine aR c ?_;rintro e f ⟨rfl,rfl⟩;go_wp2_with fail
 go_loop [8] (λv8=>∃k:Nat,v8= .int .i64 k/\k<=L.length) (λv8=>L.length - (aL v8).toNat)
 case atStart=>exact⟨0,rfl,aaQ _⟩
 case round=>
  obtain⟨k,rfl,hk⟩:=hrel;by_cases hi:k<L.length
  .have l:=aP (GS a.o k hi);obtain⟨c0,c1,c2,c3⟩:=a.o.at_ hi;obtain⟨f0,f1,f2,f3⟩:=a.o.fz hi;have h1:=a.o.set hi (j:=2) aQ {L[k] with se:=true} (.bool true) rfl;have b:=h1.1.set (i:=k) (by rw[aaV];exact hi) (j:=0) aQ {L[k] with se:=true,ra:=false} (.bool false) (by rw[adH];rfl);rw[afH] at b;have HD:aH (L[k].se=false->Xj F g q L w (.returned (.tuple #[k,true])) ((w.setCell (q,k *4+2) (.bool true)).setCell (q,k *4+0) (.bool false))):=λhs=>⟨_,by rw[aaV],b.1,h1.2.trans b.2, .inl ⟨k,hi,rfl,Ow hi hs rfl⟩⟩
   have p:(k:Int)<(L.length:Int):=aQ;clear h1 b;generalize L[k]=x at *;obtain⟨r1,m,n,r⟩:=x;simp only at c0 c1 c2 c3 HD;cases r1 <;> cases m <;> cases n
   all_goals
    go_wp2_with fail
    refine aR l ?_;rintro e f ⟨rfl,rfl⟩;go_wp2_with fail
    first
     |(go_round;(case rel=>exact⟨k+1,by go_num,aQ⟩);(case measure=>simp[aL];omega))
     |(go_ret2;exact HD.o trivial)
  .obtain rfl:k=L.length:=aQ;go_wp2_with fail
   go_ret2
   exact⟨L,rfl,a.o,Kp.refl _ _, .inr rfl⟩
end
end
section
open Go.RowKit Go.Lib Go.Shelf dH Fr Up Nt
structure Kv where
 c:Cf
 f:fO
 t:List En
 b:List Nt
 v:List Vc
 s:Sd
 n:Nat
 p:Nat×Nat
structure Ka where
 gf:Nat
 gt:Nat
 gc:Nat
 gi:Nat
 gr:Nat
 gb:Nat
 gs:Nat
 gw:Nat
 al:List Int
 bd:List Int
 iq:Nat
 ln:List Ln
def pA(g:Nat):aC:= .pointer g
def kL(a:Ka):List aC:= [pA a.gf,pA a.gt,pA a.gc,pA a.gi,pA a.gr,pA a.gb,pA a.gs, .int .i64 6, .int .i64 2, .int .i64 4,pA a.gw]++(a.al.map (Value.int .i64)++a.bd.map (Value.int .i64))
def UZ(g:Nat)(s:fO):Pt:=⟨λF w=>DT F w g s,DT.bX g s⟩
def Lp(g:Nat)(L:List En):Pt:=⟨λF w=>iJ F w g L,iJ.bX g L⟩
def TY(g:Nat)(C:Cf):Pt:=⟨λF w=>eJ F w g C,eJ.bX g C⟩
theorem Ir.bX(g q:Nat)(L:List Ln):dV (λF w=>Ir F w g q L):=λ_ _ _ _ _ h k c fl hH=>
 h.kp k (c g h.b.lt h.fg) (c q (h.o.lt q rfl).2 h.fq) fl (hH g h.b.lt h.fg) (hH q (h.o.lt q rfl).2 h.fq)
def Cv(g q:Nat)(L:List Ln):Pt:=⟨λF w=>Ir F w g q L,Ir.bX g q L⟩
def Ld(g:Nat):Pt:=⟨λF w=>u7 F w g,u7.bX g⟩
def TF(g:Nat)(L:List Nt)(VS:List Vc):Pt:=⟨λF w=>vN F w g L VS,vN.bX g L VS⟩
def Z8(g:Nat)(s:Sd):Pt:=⟨λF w=>lM F w g s,lM.bX g s⟩
def QR(g n:Nat):Pt:=⟨λF w=>B7 F w g n,B7.bX g n⟩
def Mb(g:Nat)(a:Ka)(k:Kv):List Pt:= [PB g 64 (kL a).toArray,UZ a.gf k.f,Lp a.gt k.t,TY a.gc k.c,Cv a.gi a.iq a.ln,Ld a.gr,TF a.gb k.b k.v,Z8 a.gs k.s,QR a.gw k.n]
structure bJ(F:Nat->Prop)(w:aA)(g:Nat)(a:Ka)(k:Kv):Prop where
 o:Ob (Mb g a k) F w
 al:a.al.length=8
 bd:a.bd.length=8
 ln:a.ln.length=2
 pp:k.p=(a.gt,a.gf)
def KM(F:Nat->Prop)(w:aA)(g:Nat)(k:Kv):Prop:=∃a,bJ F w g a k
theorem bJ.bX(g:Nat)(a:Ka)(k:Kv):dV (λF w=>bJ F w g a k):=λF G H w w' h x b fl hH=>⟨Ob.bX _ F G H w w' h.o x b fl hH,h.al,h.bd,h.ln,h.pp⟩
variable{i:Nat}
section
variable{F:Nat->Prop}{w w':aA}{g:Nat}{a:Ka}{k:Kv}
theorem bJ.fl(h:bJ F w g a k):Ol F w:=h.o.fl
theorem bJ.below(h:bJ F w g a k)(b:Below w w w'):bJ F w' g a k/\Kp F w w':=⟨⟨h.o.below b,h.al,h.bd,h.ln,h.pp⟩,h.o.NH b⟩
theorem bJ.bk(h:bJ F w g a k):bC w g 64 (kL a).toArray:=by
 obtain⟨c,h1⟩:=h.o;exact(h1.get 0 (p:=PB g 64 (kL a).toArray) rfl).b
theorem bJ.pf(h:bJ F w g a k):w.cell? (g,0)=some (pA a.gf):=h.bk.cell 0 _ rfl
theorem bJ.pt(h:bJ F w g a k):w.cell? (g,1)=some (pA a.gt):=h.bk.cell 1 _ rfl
theorem bJ.pc(h:bJ F w g a k):w.cell? (g,2)=some (pA a.gc):=h.bk.cell 2 _ rfl
theorem bJ.pi(h:bJ F w g a k):w.cell? (g,3)=some (pA a.gi):=h.bk.cell 3 _ rfl
theorem bJ.pr(h:bJ F w g a k):w.cell? (g,4)=some (pA a.gr):=h.bk.cell 4 _ rfl
theorem bJ.pb(h:bJ F w g a k):w.cell? (g,5)=some (pA a.gb):=h.bk.cell 5 _ rfl
theorem bJ.ps(h:bJ F w g a k):w.cell? (g,6)=some (pA a.gs):=h.bk.cell 6 _ rfl
theorem bJ.pw(h:bJ F w g a k):w.cell? (g,10)=some (pA a.gw):=h.bk.cell 10 _ rfl
theorem bJ.LX(h:bJ F w g a k):w.cell? (g,7)=some (.int .i64 6)/\w.cell? (g,8)=some (.int .i64 2)/\w.cell? (g,9)=some (.int .i64 4):=⟨h.bk.cell 7 _ rfl,h.bk.cell 8 _ rfl,h.bk.cell 9 _ rfl⟩
theorem bJ.fz(h:bJ F w g a k)(i:Nat):w.frozen? (g,i)=false:=h.bk.frozen i
theorem bJ.vM(h:bJ F w g a k)(hi:i<8):∃v:Int,w.cell? (g,11+i)=some (.int .i64 v):=by
 have b:=h.al;refine⟨a.al[i]'(by omega),h.bk.cell (11+i) _ ?_⟩;rw[aaY,kL,aaS aT,abC bL];simp[show 11+i - 11=i by omega,b,hi]
theorem bJ.ZW(h:bJ F w g a k)(hi:i<8):∃v:Int,w.cell? (g,19+i)=some (.int .i64 v)/\a.bd.getD i 0=v:=by
 have b:=h.al;have hm:=h.bd;refine⟨a.bd[i]'(by omega),h.bk.cell (19+i) _ ?_,by simp[hm,hi]⟩;rw[aaY,kL,aaS bL,aaS bL];simp[b,hm,hi,show 19+i - 11 - 8=i by omega]
theorem bJ.bound(h:bJ F w g a k)(hi:i<8):∃v:Int,w.cell? (g,19+i)=some (.int .i64 v):=by
 obtain⟨v,h1,_⟩:=h.ZW hi;exact⟨v,h1⟩
theorem bJ.store(h:bJ F w g a k)(i:Nat)(hi:11<=i/\i<27)(v:Int):(∃a',bJ F (w.setCell (g,i) v) g a' k)/\Kp F w (w.setCell (g,i) v):=by
 obtain⟨G,b,back⟩:=h.o.use 0 _ rfl;have c:=h.al;have hm:=h.bd;by_cases d:i<19
 .obtain⟨b1,b2⟩:=back (PB g 64 (kL {a with al:=a.al.set (i - 11) v}).toArray) _ (b.set i (.int .i64 v) (by
   rw[aaI];congr 1
   unfold kL;rw[aa6 _ _ bL,ac9 _ _ bL,ab1];simp)).1 (b.set i (.int .i64 v) rfl).2
  exact⟨⟨_,b1,by simp[c],hm,h.ln,h.pp⟩,b2⟩
 .obtain⟨b1,b2⟩:=back (PB g 64 (kL {a with bd:=a.bd.set (i - 19) v}).toArray) _ (b.set i (.int .i64 v) (by
   rw[aaI];congr 1
   unfold kL;rw[aa6 _ _ bL,aa6 _ _ bL,ab1];simp[c,show i - 11 - 8=i - 19 by omega])).1 (b.set i (.int .i64 v) rfl).2
  exact⟨⟨_,b1,c,by simp[hm],h.ln,h.pp⟩,b2⟩
theorem bJ.fr(h:bJ F w g a k):∃G,DT G w a.gf k.f/\(∀(f:fO) (w':aA),DT G w' a.gf f->Kp G w w'->bJ F w' g a {k with f:=f}/\Kp F w w'):=by
 obtain⟨G,c,back⟩:=h.o.use 1 _ rfl;exact⟨G,c,λf w' b k'=>⟨⟨(back (UZ a.gf f) w' b k').1,h.al,h.bd,h.ln,h.pp⟩,(back (UZ a.gf f) w' b k').2⟩⟩
theorem bJ.tb(h:bJ F w g a k):∃G,iJ G w a.gt k.t/\(∀(t:List En) (w':aA),iJ G w' a.gt t->Kp G w w'->bJ F w' g a {k with t:=t}/\Kp F w w'):=by
 obtain⟨G,c,back⟩:=h.o.use 2 _ rfl;exact⟨G,c,λf w' b k'=>⟨⟨(back (Lp a.gt f) w' b k').1,h.al,h.bd,h.ln,h.pp⟩,(back (Lp a.gt f) w' b k').2⟩⟩
theorem bJ.cp(h:bJ F w g a k):∃G,eJ G w a.gc k.c/\(∀(c:Cf) (w':aA),eJ G w' a.gc c->Kp G w w'->bJ F w' g a {k with c:=c}/\Kp F w w'):=by
 obtain⟨G,d,back⟩:=h.o.use 3 _ rfl;exact⟨G,d,λf w' b k'=>⟨⟨(back (TY a.gc f) w' b k').1,h.al,h.bd,h.ln,h.pp⟩,(back (TY a.gc f) w' b k').2⟩⟩
theorem bJ.ir(h:bJ F w g a k):∃G,Ir G w a.gi a.iq a.ln/\(∀(L:List Ln) (w':aA),L.length=a.ln.length->Ir G w' a.gi a.iq L->Kp G w w'->bJ F w' g {a with ln:=L} k/\Kp F w w'):=by
 obtain⟨G,c,back⟩:=h.o.use 4 _ rfl;exact⟨G,c,λL w' d b k'=>⟨⟨(back (Cv a.gi a.iq L) w' b k').1,h.al,h.bd,(by show L.length=2;rw[d];exact h.ln),h.pp⟩,(back (Cv a.gi a.iq L) w' b k').2⟩⟩
theorem bJ.rw(h:bJ F w g a k):∃G,u7 G w a.gr/\(∀(w':aA),u7 G w' a.gr->Kp G w w'->bJ F w' g a k/\Kp F w w'):=by
 obtain⟨G,c,back⟩:=h.o.use 5 _ rfl;exact⟨G,c,λw' b k'=>⟨⟨(back (Ld a.gr) w' b k').1,h.al,h.bd,h.ln,h.pp⟩,(back (Ld a.gr) w' b k').2⟩⟩
theorem bJ.bo(h:bJ F w g a k):∃G,vN G w a.gb k.b k.v/\(∀(b:List Nt) (v:List Vc) (w':aA),vN G w' a.gb b v->Kp G w w'->bJ F w' g a {k with b:=b,v:=v}/\Kp F w w'):=by
 obtain⟨G,d,back⟩:=h.o.use 6 _ rfl;exact⟨G,d,λb v w' c k'=>⟨⟨(back (TF a.gb b v) w' c k').1,h.al,h.bd,h.ln,h.pp⟩,(back (TF a.gb b v) w' c k').2⟩⟩
theorem bJ.sd(h:bJ F w g a k):∃G,lM G w a.gs k.s/\(∀(s:Sd) (w':aA),lM G w' a.gs s->Kp G w w'->bJ F w' g a {k with s:=s}/\Kp F w w'):=by
 obtain⟨G,c,back⟩:=h.o.use 7 _ rfl;exact⟨G,c,λf w' b k'=>⟨⟨(back (Z8 a.gs f) w' b k').1,h.al,h.bd,h.ln,h.pp⟩,(back (Z8 a.gs f) w' b k').2⟩⟩
theorem bJ.wh(h:bJ F w g a k):∃G,B7 G w a.gw k.n/\(∀(n:Nat) (w':aA),B7 G w' a.gw n->Kp G w w'->bJ F w' g a {k with n:=n}/\Kp F w w'):=by
 obtain⟨G,c,back⟩:=h.o.use 8 _ rfl;exact⟨G,c,λf w' b k'=>⟨⟨(back (QR a.gw f) w' b k').1,h.al,h.bd,h.ln,h.pp⟩,(back (QR a.gw f) w' b k').2⟩⟩
end
variable{n m:Nat}
section
structure KI(k:Kv)(n:Nat):Prop where
 sd:gE k.s
 p4:k.s.P.length=4
 cn:0<=k.c.n/\k.c.n<=n
 tl:k.t.length<=16
 tu:DS k.t
 bb:∀x∈k.b,(0<=x.eO/\x.eO<4)/\0<=x.fV/\x.fV<6
 bu:k.b.Pairwise λx y=>¬(x.eO=y.eO/\x.fV=y.fV)
 f6:k.f.n=6
 an:k.n<=n
theorem KI.mono{k:Kv}(h:KI k n)(hm:n<=m):KI k m:=⟨h.sd,h.p4,⟨h.cn.1,by have:=h.cn.2;omega⟩,h.tl,h.tu,h.bb,h.bu,h.f6,aaR h.an hm⟩
def oZ(e:Int):Bool:=decide (0<=e/\e<4)
def fI(k:Kv)(e:Int):Kv:=if oZ e then {k with s:=gS k.s e true} else k
def PK(t:List En)(e o:Int):List En:=t.filter λx=>!(decide (x.frame=o/\x.env=e))
def CZ(t:List En)(p:dK):List En:=if p.h.kd=1 then PK t p.e p.h.ob else t
def jO(t:List En)(l:List dK):List En:=l.foldl CZ t
def uV(o:Int)(p:dK):Option Int:=if p.h.kd=1/\p.h.ob=o then some p.s else none
def fG(k:Kv)(e o:Int):List Int:=(AA k.c e).filterMap (uV o)
def mJ(k:Kv)(o:Int):Bool:=(List.range 8).any λe=>decide (0<(fG k (e:Nat) o).length)
def rM(L:List Nt)(o:Int):Nat->List Nt
 |0=>L
 |n+1=>qX (rM L o n) (n:Nat) o
def Vl(k:Kv)(o:Int)(L:List dK):Kv:={k with c:=jW k.c (L.filter (rS 1 o)),t:=jO k.t (L.filter (rS 1 o)),b:=rM k.b o 8,f:=C7 k.f o}
def pE(k:Kv)(o:Int)(k':Kv):Prop:=∃L,L.Perm (vH k.c)/\k'=Vl k o L
def vK(k:Kv)(num:Int)(self:Bool)(L:List dK):Kv:={k with c:=jW k.c (dF num self L).2,t:=jO k.t (dF num self L).2}
def AK(k:Kv)(L:List dK):Prop:=L.Perm (vH k.c)/\L.Pairwise λx y=>x.h.nu<=y.h.nu
inductive iF:List dK->Kv->Kv->Prop
 |nil (k:Kv):iF [] k k
 |skip {p:dK} {l:List dK} {k k':Kv} (h:¬(p.h.kd=1/\mJ k p.h.ob=false/\gI k.f p.h.ob=true)) (r:iF l k k'):iF (p::l) k k'
 |rH {p:dK} {l:List dK} {k k1 k':Kv} (h:p.h.kd=1/\mJ k p.h.ob=false/\gI k.f p.h.ob=true) (r1:pE k p.h.ob k1) (r:iF l k1 k'):iF (p::l) k k'
inductive iU (e:Int):List Int->Kv->Kv->Prop
 |nil (k:Kv):iU e [] k k
 |no {s:Int} {l:List Int} {k k':Kv} (h:fW k.c e s=none) (r:iU e l k k'):iU e (s::l) k k'
 |drop {s:Int} {l:List Int} {k k':Kv} {i:Nat} (h:fW k.c e s=some i) (L:List dK) (hL:AK k L) (r:iU e l (vK k (cN k.c i).nu true L) k'):iU e (s::l) k k'
inductive pH (e o:Int) (k k':Kv):Prop
 |no (h:fG k e o= []) (h':k'=k)
 |keep (h:fG k e o≠[]) (r:iU e (fG k e o) k k') (h2:mJ k' o=true)
 |rH (h:fG k e o≠[]) {k1:Kv} (r:iU e (fG k e o) k k1) (h2:mJ k1 o=false) (r2:pE k1 o k')
def eZ(k:Kv)(l:List Int):Kv:=l.foldl fI k
inductive kD:List Nt->Kv->Kv->Prop
 |nil (k:Kv):kD [] k k
 |cons {x:Nt} {l:List Nt} {k k1 k':Kv} (r1:pH x.eO x.fV k k1) (r:kD l (fI k1 x.eO) k'):kD (x::l) k k'
def jV(k k':Kv):Prop:=∃(l1 l2:List Int) (T:List Nt) (k2:Kv),T.Perm (iV 0 (k.b.filter λx=>decide (x.bO<=k.s.nw)))/\
 kD T {eZ k l1 with b:=k.b.filter λx=>decide (k.s.nw<x.bO),v:=T.foldl pD k.v} k2/\k'=eZ k2 l2
def jQ(k:Kv)(e o gr:Int):Int×Kv:=
 if !(oZ e)\/o<0\/6<=o then(1,k) else if fG k e o= [] then(23,k) else
 if(gP k.b e o k.s.nw gr).1≠0 then((gP k.b e o k.s.nw gr).1,k) else(0,fI {k with b:=(gP k.b e o k.s.nw gr).2} e)
def pS(k:Kv)(e s:Int):Int×Int×Kv:=
 if 16<=s then(0,1,k) else if(tQ k.c e s).isSome then(0,7,k) else match n9 k.f with
 |none=>(0,20,{k with f:=kG k.f})
 |some i=>if(dM k.c e s 1 i 15 0).1≠0 then(0,(dM k.c e s 1 i 15 0).1,{k with f:=kG k.f,c:=(dM k.c e s 1 i 15 0).2}) else(i,0,{k with f:=kG k.f,c:=(dM k.c e s 1 i 15 0).2})
def yA(k:Kv)(e s E:Int)(k':Kv):Prop:=match jY k.c e s 1 8 with
 |none=>E=23/\k'=k
 |some h=>E=0/\pE k h.ob k'
def C9(k:Kv)(e s at_:Int):Int×Int:=match jY k.c e s 1 1 with
 |none=>(0,23)
 |some h=>(if gX k.f h.ob at_≠0 then 0 else IntKind.u64.wrap (tG k.f h.ob at_),gX k.f h.ob at_)
def sY(k:Kv)(e s at_ v:Int):Int×Kv:=match jY k.c e s 1 2 with
 |none=>(23,k)
 |some h=>if 255<v then(1,k) else(gX k.f h.ob at_,{k with f:=mV k.f h.ob at_ (v%256)})
def qQ(k:Kv)(e s pg wr:Int):Int×Kv:=if 1<wr then(1,k) else match jY k.c e s 1 (if wr=1 then 3 else 1) with
 |none=>(23,k)
 |some h=>(if lE ⟨e,pg,h.ob,decide (wr=1)⟩ then 0 else 1,{k with t:=B8 k.t ⟨e,pg,h.ob,decide (wr=1)⟩})
def PF(t:List En)(e pg:Int):List En:=t.filter λx=>!(decide (x.env=e/\x.cY=pg))
def GQ(k:Kv)(e s E:Int)(k':Kv):Prop:=match fW k.c e s with
 |none=>E=23/\k'=k
 |some i=>E=0/\∃L,AK k L/\iF (dF (cN k.c i).nu true L).2 (vK k (cN k.c i).nu true L) k'
def yI(k:Kv)(e s E:Int)(k':Kv):Prop:=match uX k.c e s with
 |none=>E=23/\k'=k
 |some i=>E=0/\∃L,AK k L/\k'=vK k (cN k.c i).nu false L
def iL(k:Kv)(e op A B C D E:Int)(k':Kv):Prop:=
 if op=7 then(E,k')=((iC k.c e A e B C 0).1,{k with c:=(iC k.c e A e B C 0).2})
 else if op=8 then(if oZ B then(E,k')=((iC k.c e A B C D 4).1,{k with c:=(iC k.c e A B C D 4).2}) else E=1/\k'=k)
 else if op=9 then yI k e A E k' else GQ k e A E k'
def qM(k:Kv)(e op C D E:Int)(k':Kv):Prop:=
 if op=15 then E=sP k.s e C D/\k'={k with s:=kK k.s e C D}
 else if op=16 then E=uB k.s e/\k'={k with s:=lU k.s e}
 else k'=k\/k'={k with s:=gS k.s e false}
inductive nV (k:Kv) (e op A B C D:Int):Int->Int->Kv->Prop
 |alloc (h:op=1):nV k e op A B C D (pS k e A).1 (pS k e A).2.1 (pS k e A).2.2
 |free (h:op=2) {E:Int} {k':Kv} (r:yA k e A E k'):nV k e op A B C D 0 E k'
 |read (h:op=3):nV k e op A B C D (C9 k e A B).1 (C9 k e A B).2 k
 |write (h:op=4):nV k e op A B C D 0 (sY k e A B C).1 (sY k e A B C).2
 |load (h:op=5):nV k e op A B C D 0 (qQ k e A B C).1 (qQ k e A B C).2
 |ER (h:op=6) {E:Int}:nV k e op A B C D 0 E {k with t:=PF k.t e A}
 |hand (h:7<=op/\op<=10) {E:Int} {k':Kv} (r:iL k e op A B C D E k'):nV k e op A B C D 0 E k'
 |line (h:11<=op/\op<=13) {E:Int}:nV k e op A B C D 0 E k
 |vM (h:op=14) {E:Int} {m:Nat} (hm:k.n<=m/\m<=k.n+1):nV k e op A B C D 0 E {k with n:=m}
 |time (h:op=15\/op=16\/op=19) {E:Int} {k':Kv} (r:qM k e op C D E k'):nV k e op A B C D 0 E k'
 |send (h:op=17) {E:Int} {k':Kv} (r:k'=k\/∃o,k'=fI k o):nV k e op A B C D 0 E k'
 |next (h:op=18) {N E:Int} (hN:0<=N/\N<18446744073709551616):nV k e op A B C D N E k
 |null (h:op=0):nV k e op A B C D 0 0 k
end
end
end Go.Proofs.YtacgiflhgdaeaaaGreat
