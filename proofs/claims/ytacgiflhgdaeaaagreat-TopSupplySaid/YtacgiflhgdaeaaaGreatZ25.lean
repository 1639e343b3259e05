/- Texts laid as one. -/
import Derived.Test.YtacgiflhgdaeaaaGreatZ17
import Derived.Test.YtacgiflhgdaeaaaGreatZ23
import Derived.Test.YtacgiflhgdaeaaaGreatZ24
set_option linter.unusedVariables false
set_option linter.unusedSimpArgs false
set_option maxRecDepth 100000
set_option maxHeartbeats 20000000
namespace Go.Proofs.YtacgiflhgdaeaaaGreat
open Go.Proofs.Tryz
open Go renaming World->aA,Addr->aJ,Calls->aG
open Go.RowKit renaming Hid->aH,intOf->aL
section
open Go.RowKit Go.Lib Go.Shelf Go.Sort
variable{w:aA}{q:Nat}
section
def Em(x y:Du):Int:=Lib.compareInt x.hd y.hd
theorem Lt(x y:Du):ltOf Em x y=decide (x.hd<y.hd):=by
 unfold ltOf Em Lib.compareInt;by_cases h1:x.hd<y.hd
 .simp[h1]
 .by_cases a:y.hd<x.hd <;> simp[h1,a]
theorem Yj:SWO (ltOf Em) where
 irrefl x:=by rw[Lt];simp
 trans x y z h1 h2:=by rw[Lt] at *;simp at *;omega
 ntrans x y z h1 h2:=by rw[Lt] at *;simp at *;omega
theorem Ki(x y:Du)(W:aA):aG prog 189 #[.agg (vJ x).toArray, .agg (vJ y).toArray] W λe w'=>e= .returned (.int .i64 (Em x y))/\∃q b,w'=grow (W.drewN q) b:=by
 have a:=λc=>AnyG.cmp_Compare_int Dc x.hd y.hd c
 change ∀c,aG prog 147 _ _ _ at a
 show aG prog _ _ _ λe w'=>e= .returned (.int .i64 (Lib.compareInt x.hd y.hd))/\_
 generalize Lib.compareInt x.hd y.hd=r at a⊢;simp only[vJ];obtain⟨d,f,g⟩:=x;go_enter func189,ntmps189
 go_wp2_with(go_at_call 147;refine(a _).mono ?_;rintro e w' ⟨rfl,rfl⟩)
 go_ret
 exact⟨rfl,0,_,by rw[alloc_eq_grow,alloc_eq_grow,grow_grow];rfl⟩
theorem Ef(w:aA):aG prog 260 #[bA,aU,aU, .func (.func 189) #[] #[]] w λe w'=>e= .returned (.tuple #[])/\w=w':=by
 go_enter func260,ntmps260
 go_wp2_with fail
 go_loop [8] (λv8=>v8= .int .i64 1) (λ_=>0)
 case atStart=>exact rfl
 case round=>
  subst hrel;go_wp2_with fail
  refine bodyPost_end (v:= .tuple #[]) ?_ rfl ⟨rfl,rfl⟩;simp[results,results260,go_sem]
theorem Bm(w:aA):aG prog 230 #[bA,aU,aU,aU, .func (.func 189) #[] #[]] w λe w'=>e= .returned (.tuple #[])/\w=w':=by
 go_enter func230,ntmps230
 go_wp2_with fail
 go_loop [1,2,3] (λv1 v2 v3=>v1= .int .i64 0/\v2= .int .i64 0/\v3= .int .i64 0) (λ_ _ _=>0)
 case atStart=>exact⟨rfl,rfl,rfl⟩
 case round=>
  obtain⟨rfl,rfl,rfl⟩:=hrel;go_wp2_with fail
  refine aS (Ef _) ?_;rintro e a ⟨rfl,rfl⟩;go_wp2_with fail
  first
   |(refine bodyPost_ret (v:= .tuple #[]) ?_ rfl ⟨rfl,rfl⟩;simp[results,results230,go_sem])
   |(refine bodyPost_end (v:= .tuple #[]) ?_ rfl ⟨rfl,rfl⟩;simp[results,results230,go_sem])
theorem XT(w:aA):aG prog 188 #[bA, .func (.func 189) #[] #[]] w λe w'=>e= .returned (.tuple #[])/\w=w':=by
 have a:aG prog 231 #[cO] w λe w'=>e= .returned (.int .i64 0)/\w'=w:=by
  have h:=Any.bits_Len (SlLaysF0.n15.bits (P:=prog) (ρ:=IU) {UG with}) 0 w aQ aQ;exact h
 go_enter func188,ntmps188
 go_wp2_with fail
 with_reducible refine a.mono ?_
 rintro e b ⟨rfl,rfl⟩;go_wp2_with fail
 refine aS (Bm _) ?_;rintro e b ⟨rfl,rfl⟩;go_wp2_with fail
 go_end0
 exact⟨rfl,rfl⟩
def Zg(base c q:Nat)(L:List Du)(w:aA)(e:Ending)(w':aA):Prop:=e= .returned (.tuple #[])/\∃L':List Du,L'.Perm L/\L'.Pairwise (λx y=>x.hd<=y.hd)/\bB vJ 3 w' base 274 q c L'/\w.grownBy w' (some q)
theorem VX{base c:Nat}{L:List Du}(h:bB vJ 3 w base 274 q c L)(k:L.length<=1000000):aG prog 188 #[.slice q L.length c, .func (.func 189) #[] #[]] w (Zg base c q L w):=by
 have a:=AnyQ.slices_SortFunc UG 3 (λw=>by kernel_rfl) (λw=>by kernel_rfl) vJ rZ.len rZ.one Em Yj 189 #[] q 0 c L.toArray w (enters_of func189 aV rfl) (λ_ _ _ _ x y=>Ki x y _) (OU rZ cD h) (h.lt q rfl).2 (by rw[adP];omega);refine Calls.mono (f:=188) a ?_;rintro e w' ⟨rfl,d,n,os,hp,hs,rfl⟩;obtain⟨h1,i⟩:=UX hp;have j:d.size=L.length:=by rw[i,adP]
 have g:L.toArray.size=d.size:=i.symm;rw[g] at hs;obtain⟨o1,o2⟩:=KD rZ cD h d j n os;exact⟨rfl,d.toList,h1,IA hs (λx y b=>by rw[Lt] at b;have:=adJ b;omega),o1,o2⟩
end
end
section
open Go.RowKit Go.Lib Go.Shelf
variable{w w' wr w9:aA}{n g c9:Nat}{X:(Nat->Prop)->aA->Prop}{F:Nat->Prop}{A A' A2 A9:Option aJ}
section
def AI(f:Int->Option Du)(x:Int):Du:=(f x).getD ⟨0,0,0⟩
theorem GW{M:Nat}{f:Int->Option Du}(h:gV zP w M f)(x:Int):(Instr.lookup 335 (.map (some M)) (.int .i64 x) false).run prog w= .ok (zP (AI f x)) w:=by
 rw[wQ underlying335 underlying3 (z:= .agg #[aU,aU,aU]) aV h x false];unfold AI;cases f x <;> rfl
theorem J4{y:Wa}(h:Wr y n)(x:Int):(0<=(AI y.f x).wh/\(AI y.f x).wh<4)/\0<=(AI y.f x).at_/\(AI y.f x).at_<=2097152:=by
 unfold AI;cases a:y.f x with
 |none=>simp
 |some d=>exact h.ok x d a
theorem Tu:jM prog 270 274 3 24:=gA (z:= .agg #[aU,aU,aU]) underlying270 aV (by simp[Value.cells]) aQ
theorem dV.app(M:dV X)(h:X (cB F A) w)(fl:Ol F w)(hF:∀b,F b->aZ A≠some b)(g:w.grownBy w' (aZ A))(c:aZ A'=aZ A\/aZ A'=some w.heap.size)(f:∀q,aZ A'=some q->q<w'.heap.size):X (cB F A') w'/\Kp F w w':=by
 have k:Kp F w w':=Kp.grown g λb a=>⟨fl b a,λe=>hF b a e.symm⟩
 refine⟨M (cB F A) (λb=>b<w.heap.size/\aZ A≠some b) _ w w' h (Kp.grown g λb a=>⟨a.1,λe=>a.2 e.symm⟩) (λr i d=>⟨i,λe=>d (.inr e)⟩) (λb a=>?_) (λr i d hc=>?_),k⟩
 .rcases a with a|a
  .exact fl.kp k b a
  .exact f b a
 .rcases hc with hc|hc
  .exact d (.inl hc)
  .rcases c with c|c
   .exact d (.inr (c.symm.trans hc))
   .rw[c] at hc;injection hc with hc;omega
def VZ(F:Nat->Prop)(g n:Nat)(nw:Int)(w:aA)(e:Ending)(w':aA):Prop:=∃(A:Option aJ) (c:Nat) (D:List Du),e= .returned (.slice A D.length c)/\D.length<=n/\(∀d∈D,0<=d.wh/\d.wh<4)/\bB vJ 3 w' w.heap.size 274 A c D/\(∃y',dJ (cB F A) w' g n y'/\y'.nw=nw)/\Kp F w w'
structure OM(F:Nat->Prop)(w wr:aA)(g n:Nat)(nw:Int)(A2:Option aJ)(c2:Nat)(D:List Du)(A:Option aJ)(c:Nat)(xs:List Int)(y:Wa):Prop where
 o:bB vJ 3 wr w.heap.size 274 A2 c2 D
 d:∀d∈D,0<=d.wh/\d.wh<4
 m:dJ (cB F A2) wr g n y
 r:bB eI 1 wr 0 3 A c xs
 nw:y.nw=nw
 k:Kp F w wr
theorem OM.app{c2 c:Nat}{nw:Int}{D:List Du}{xs:List Int}{y:Wa}(h:OM F w wr g n nw A2 c2 D A c xs y)(fl:Ol F w)(o:Obj){d:Du}(hd:0<=d.wh/\d.wh<4)(a:bB vJ 3 w9 w.heap.size 274 A9 c9 (D++ [d]))(l:(wr.alloc o).grownBy w9 (aZ A2))(p:aZ A9=aZ A2\/aZ A9=some (wr.alloc o).heap.size):OM F w w9 g n nw A9 c9 (D++ [d]) A c xs y:=by
 obtain⟨h1,_⟩:=h.m.below (aX wr o);have j:Ol F (wr.alloc o):=λb f=>h1.fl b (.inl f)
 have s:Kp F w (wr.alloc o):=h.k.trans (Kp.dD (aX wr o) λb f=>h.m.fl b (.inl f));obtain⟨t,u⟩:=dV.app (BN g n y) h1 j (λb f e=>by have:=(h.o.lt b e).1;have:=fl b f;omega) l p (λq hq=>(a.lt q hq).2);refine⟨a,λx i=>?_,t,(h.r.alloc o).kept l (wX (h.r.alloc o) (h.o.alloc o) cD),h.nw,s.trans u⟩;rcases aa8.1 i with i|i
 .exact h.d x i
 .rw[aaZ.1 i];exact hd
theorem OM.del{c2 c:Nat}{nw:Int}{D:List Du}{xs:List Int}{y:Wa}(h:OM F w wr g n nw A2 c2 D A c xs y){x:Int}(hm:gV zP w9 y.M (fZ y.f x none))(l:wr.grownBy w9 (some y.M)):OM F w w9 g n nw A2 c2 D A c xs {y with f:=fZ y.f x none}:=by
 obtain⟨h1,p⟩:=h.m.YM hm l (λz d a=>by
  unfold fZ at a;split at a
  .cases a
  .exact h.m.i.ok z d a)
 refine⟨h.o.kp p (λq hq=> .inr hq),h.d,h1,h.r.kept l ?_,h.nw,h.k.trans (p.mono λb j=> .inl j)⟩;cases t:aZ A with
 |none=>exact .inl rfl
 |some q=>
  refine .inr (λe=>?_);injection e with e;obtain⟨cs,j⟩:=yV h.r q t;obtain⟨es,cl,s,_⟩:=h.m.mp;rw[e] at j;have u:wr.heap[y.M]?=some (.cells cs 3):=j;rw[u] at s;cases s
theorem Cg{y:Wa}(h:dJ F w g n y)(hn:n<=1000000)(hw:y.nw+1<=1048576):aG prog 144 #[.pointer g] w (VZ F g n (y.nw+1) w):=by
 have c1:=h.c1;have f1:=h.fz 1;have hnw:=h.i.nw;have HN:=aP hn;have HF:=aP h.fl;obtain⟨nw,Z⟩:∃v,v=y.nw+1:=⟨_,rfl⟩
 have hnwb:0<=nw/\nw<=1048576:=aQ;have HQ0:=aP (h.PD hnwb);have HQ1:aH (∃a,dJ F (w.setCell (g,1) nw) g n a/\a.nw=nw/\Kp F w (w.setCell (g,1) nw)):=⟨_,HQ0.o.1,rfl,HQ0.o.2⟩
 rw[<-Z];clear h hn HQ0;go_enter func144,ntmps144
 go_upto_region 2 with(fail)
 rw[<-Z];clear Z hnw hw c1 f1;generalize w.setCell (g,1) nw=w1 at *;go_wp2_with fail
 go_loopw [20] (λv20 wr=>∃i:Int,v20= .int .i64 i/\0<=i/\i<=3/\aH (∃a,dJ F wr g n a/\a.nw=nw/\Kp F w wr)) (λv20 _=>3 - (aL v20).toNat)
 case atStart=>exact⟨0,rfl,aQ,aQ,HQ1.o⟩
 case round=>
  clear HQ1;obtain⟨i,rfl,hi0,a1,l⟩:=hrel;obtain⟨a,hx⟩:=l.o;have l:=aP hx;clear hx;by_cases hi:i<3
  .obtain rfl|rfl|rfl:i=0\/i=1\/i=2:=aQ
   ·
    by_cases z:bits .and .i64 nw 262143=0
    .have N:(bits .and .i64 nw 262143 !=0)=false:=by simp[z]
     obtain⟨s,hs,V⟩:∃s:Nat,s<=63/\bits .and .i64 (nw /262144) 63=(s:Int):=⟨_,(lD (nw /262144) aQ aQ).1,(lD (nw /262144) aQ aQ).2⟩
     have s0:¬(s:Int)<0:=aQ;have W:(s:Int)<64:=aQ;have hlen:a.R.length=256:=l.o.1.i.len;have hi:3 *64+s<a.R.length:=aQ;have c1:wr.cell? (g,1)=some (.int .i64 nw):=by rw[<-l.o.2.1];exact l.o.1.c1
     have c4:wr.cell? (g,196+s)=some (sF (a.R[3 *64+s]'hi)):=by
      rw[show 196+s=4+(3 *64+s) by omega];exact l.o.1.cr hi
     have f4:wr.frozen? (g,196+s)=false:=l.o.1.fz _;have E:aH (∀nq,dJ F (wr.drewN nq) g n a/\Kp F w (wr.drewN nq)):=λnq=>⟨(l.o.1.below (gJ (Below.refl _ _) nq)).1,l.o.2.2.trans (l.o.1.below (gJ (Below.refl _ _) nq)).2⟩
     have HQ:aH (∀nq,∃p,dJ (cB F (a.R[3 *64+s]'hi).A) ((wr.drewN nq).setCell (g,196+s) (.slice none 0 0)) g n p/\p.nw=nw/\gQ p.R+(a.R[3 *64+s]'hi).xs.length<=n/\Kp F w ((wr.drewN nq).setCell (g,196+s) (.slice none 0 0))/\bB eI 1 ((wr.drewN nq).setCell (g,196+s) (.slice none 0 0)) 0 3 (a.R[3 *64+s]'hi).A (a.R[3 *64+s]'hi).c (a.R[3 *64+s]'hi).xs):=λnq=>by
      obtain⟨t1,t2,t3⟩:=(E.o nq).1.take hi;rw[show 4+(3 *64+s)=196+s by omega] at t1 t2;exact⟨_,t1,l.o.2.1,aaR (afS t3) l.o.1.i.sum,(E.o nq).2.trans (t2.mono λb B=> .inl B),((E.o nq).1.row hi).kp t2 (λq hq=> .inr hq)⟩
     have Q:(a.R[3 *64+s]'hi).xs.length<=1000000:=by
      have h1:=yM hi;have M:=l.o.1.i.sum;have:=HN.o;omega
     generalize hr:a.R[3 *64+s]'hi=r at *;obtain⟨A,c,xs⟩:=r;simp only[sF] at c4 Q HQ;clear hr;go_upto_region 6 with(fail)
     go_quiet (fail)
     clear l E z N hlen hi;go_wp2_with fail
     go_loopw [60] (λv60 X=>∃k:Nat,v60= .int .i64 k/\k<=xs.length/\aH (∃p,dJ (cB F A) X g n p/\p.nw=nw/\gQ p.R+(xs.length - k)<=n/\Kp F w X/\bB eI 1 X 0 3 A c xs)) (λv60 _=>xs.length - (aL v60).toNat)
     case atStart=>exact⟨0,rfl,aaQ _,HQ.o _⟩
     case round=>
      clear HQ c1 c4 f4 V hs s0 W;obtain⟨k,rfl,hk,I⟩:=hrel;by_cases C:k<xs.length
      .obtain⟨p,J,K,a6,G,u⟩:=I.o;clear I;obtain⟨q,rfl⟩:∃q,A=some ⟨q,0,none⟩:=by
        rcases u.shape with⟨_,M,_⟩|M
        .rw[M] at C;simp at C
        .exact M
       have e0:=bG fX u C (j:=0) (v:= .int .i64 xs[k]) rfl;rw[acI,aa3] at e0;have k0:(0:Int)<=k:=aQ;have k1:(k:Int)<(xs.length:Int):=aQ;have c3:=J.c3;have t:=GW J.mp xs[k];have hd:=J4 J.i xs[k];have HP:=aP (DJ (m:=n) J (AI p.f xs[k]) hd.2 (aaH _) aQ HN.o);have S:=cZ u G K;have T:aH (gQ p.R+1+(xs.length - (k+1))<=n):=by unfold aH;omega
       generalize AI p.f xs[k]=d at *;generalize xs[k]=x at *;obtain⟨da,dh,dw⟩:=d;simp only[zP] at t HP;clear J a6 G u hd;go_wp2_with fail
       refine aR HP ?_;rintro e U ⟨rfl,R,h5,O,Y⟩;have H:aH (∃p,dJ (cB F (some ⟨q,0,none⟩)) U g n p/\p.nw=nw/\gQ p.R+(xs.length - (k+1))<=n/\Kp F w U/\bB eI 1 U 0 3 (some ⟨q,0,none⟩) c xs):=⟨_,h5,S.o.2.2,by show gQ R+_<=n;rw[O];exact T.o,S.o.2.1.trans (Y.mono λb B=> .inl B),S.o.1.kp Y (λq hq=> .inr hq)⟩
       clear h5 O Y S T HP t c3 e0;go_wp2_with fail
       go_roundw
       case rel=>exact⟨k+1,by go_num,aQ,H.o⟩
       case measure=>simp[aL];omega
      .obtain rfl:k=xs.length:=aQ;have k1:¬(xs.length:Int)<(xs.length:Int):=aQ;have H:aH (∃a,dJ F wr g n a/\a.nw=nw/\Kp F w wr):=by
        obtain⟨p,J,K,_,G,_⟩:=I.o;exact⟨p,J.less (λb B=> .inl B),K,G⟩
       clear I;go_wp2_with fail
       go_roundw
       case rel=>exact⟨1,by go_num,aQ,aQ,H.o⟩
       case measure=>simp[aL]
    .have N:(bits .and .i64 nw 262143 !=0)=true:=by simp[z]
     have c1:wr.cell? (g,1)=some (.int .i64 nw):=by rw[<-l.o.2.1];exact l.o.1.c1
     have H:aH (∀nq,∃a,dJ F (wr.drewN nq) g n a/\a.nw=nw/\Kp F w (wr.drewN nq)):=λnq=>⟨a,(l.o.1.below (gJ (Below.refl _ _) nq)).1,l.o.2.1,l.o.2.2.trans (l.o.1.below (gJ (Below.refl _ _) nq)).2⟩
     clear z l;go_upto_region 6 with(fail)
     go_quiet (fail)
     go_wp2_with fail
     go_roundw
     case rel=>exact⟨1,by go_num,aQ,aQ,H.o _⟩
     case measure=>simp[aL]
   ·
    by_cases z:bits .and .i64 nw 4095=0
    .have N:(bits .and .i64 nw 4095 !=0)=false:=by simp[z]
     obtain⟨s,hs,V⟩:∃s:Nat,s<=63/\bits .and .i64 (nw /4096) 63=(s:Int):=⟨_,(lD (nw /4096) aQ aQ).1,(lD (nw /4096) aQ aQ).2⟩
     have s0:¬(s:Int)<0:=aQ;have W:(s:Int)<64:=aQ;have hlen:a.R.length=256:=l.o.1.i.len;have hi:2 *64+s<a.R.length:=aQ;have c1:wr.cell? (g,1)=some (.int .i64 nw):=by rw[<-l.o.2.1];exact l.o.1.c1
     have c4:wr.cell? (g,132+s)=some (sF (a.R[2 *64+s]'hi)):=by
      rw[show 132+s=4+(2 *64+s) by omega];exact l.o.1.cr hi
     have f4:wr.frozen? (g,132+s)=false:=l.o.1.fz _;have E:aH (∀nq,dJ F (wr.drewN nq) g n a/\Kp F w (wr.drewN nq)):=λnq=>⟨(l.o.1.below (gJ (Below.refl _ _) nq)).1,l.o.2.2.trans (l.o.1.below (gJ (Below.refl _ _) nq)).2⟩
     have HQ:aH (∀nq,∃p,dJ (cB F (a.R[2 *64+s]'hi).A) ((wr.drewN nq).setCell (g,132+s) (.slice none 0 0)) g n p/\p.nw=nw/\gQ p.R+(a.R[2 *64+s]'hi).xs.length<=n/\Kp F w ((wr.drewN nq).setCell (g,132+s) (.slice none 0 0))/\bB eI 1 ((wr.drewN nq).setCell (g,132+s) (.slice none 0 0)) 0 3 (a.R[2 *64+s]'hi).A (a.R[2 *64+s]'hi).c (a.R[2 *64+s]'hi).xs):=λnq=>by
      obtain⟨t1,t2,t3⟩:=(E.o nq).1.take hi;rw[show 4+(2 *64+s)=132+s by omega] at t1 t2;exact⟨_,t1,l.o.2.1,aaR (afS t3) l.o.1.i.sum,(E.o nq).2.trans (t2.mono λb B=> .inl B),((E.o nq).1.row hi).kp t2 (λq hq=> .inr hq)⟩
     have Q:(a.R[2 *64+s]'hi).xs.length<=1000000:=by
      have h1:=yM hi;have M:=l.o.1.i.sum;have:=HN.o;omega
     generalize hr:a.R[2 *64+s]'hi=r at *;obtain⟨A,c,xs⟩:=r;simp only[sF] at c4 Q HQ;clear hr;go_upto_region 6 with(fail)
     go_quiet (fail)
     clear l E z N hlen hi;go_wp2_with fail
     go_loopw [60] (λv60 X=>∃k:Nat,v60= .int .i64 k/\k<=xs.length/\aH (∃p,dJ (cB F A) X g n p/\p.nw=nw/\gQ p.R+(xs.length - k)<=n/\Kp F w X/\bB eI 1 X 0 3 A c xs)) (λv60 _=>xs.length - (aL v60).toNat)
     case atStart=>exact⟨0,rfl,aaQ _,HQ.o _⟩
     case round=>
      clear HQ c1 c4 f4 V hs s0 W;obtain⟨k,rfl,hk,I⟩:=hrel;by_cases C:k<xs.length
      .obtain⟨p,J,K,a6,G,u⟩:=I.o;clear I;obtain⟨q,rfl⟩:∃q,A=some ⟨q,0,none⟩:=by
        rcases u.shape with⟨_,M,_⟩|M
        .rw[M] at C;simp at C
        .exact M
       have e0:=bG fX u C (j:=0) (v:= .int .i64 xs[k]) rfl;rw[acI,aa3] at e0;have k0:(0:Int)<=k:=aQ;have k1:(k:Int)<(xs.length:Int):=aQ;have c3:=J.c3;have t:=GW J.mp xs[k];have hd:=J4 J.i xs[k];have HP:=aP (DJ (m:=n) J (AI p.f xs[k]) hd.2 (aaH _) aQ HN.o);have S:=cZ u G K;have T:aH (gQ p.R+1+(xs.length - (k+1))<=n):=by unfold aH;omega
       generalize AI p.f xs[k]=d at *;generalize xs[k]=x at *;obtain⟨da,dh,dw⟩:=d;simp only[zP] at t HP;clear J a6 G u hd;go_wp2_with fail
       refine aR HP ?_;rintro e U ⟨rfl,R,h5,O,Y⟩;have H:aH (∃p,dJ (cB F (some ⟨q,0,none⟩)) U g n p/\p.nw=nw/\gQ p.R+(xs.length - (k+1))<=n/\Kp F w U/\bB eI 1 U 0 3 (some ⟨q,0,none⟩) c xs):=⟨_,h5,S.o.2.2,by show gQ R+_<=n;rw[O];exact T.o,S.o.2.1.trans (Y.mono λb B=> .inl B),S.o.1.kp Y (λq hq=> .inr hq)⟩
       clear h5 O Y S T HP t c3 e0;go_wp2_with fail
       go_roundw
       case rel=>exact⟨k+1,by go_num,aQ,H.o⟩
       case measure=>simp[aL];omega
      .obtain rfl:k=xs.length:=aQ;have k1:¬(xs.length:Int)<(xs.length:Int):=aQ;have H:aH (∃a,dJ F wr g n a/\a.nw=nw/\Kp F w wr):=by
        obtain⟨p,J,K,_,G,_⟩:=I.o;exact⟨p,J.less (λb B=> .inl B),K,G⟩
       clear I;go_wp2_with fail
       go_roundw
       case rel=>exact⟨2,by go_num,aQ,aQ,H.o⟩
       case measure=>simp[aL]
    .have N:(bits .and .i64 nw 4095 !=0)=true:=by simp[z]
     have c1:wr.cell? (g,1)=some (.int .i64 nw):=by rw[<-l.o.2.1];exact l.o.1.c1
     have H:aH (∀nq,∃a,dJ F (wr.drewN nq) g n a/\a.nw=nw/\Kp F w (wr.drewN nq)):=λnq=>⟨a,(l.o.1.below (gJ (Below.refl _ _) nq)).1,l.o.2.1,l.o.2.2.trans (l.o.1.below (gJ (Below.refl _ _) nq)).2⟩
     clear z l;go_upto_region 6 with(fail)
     go_quiet (fail)
     go_wp2_with fail
     go_roundw
     case rel=>exact⟨2,by go_num,aQ,aQ,H.o _⟩
     case measure=>simp[aL]
   ·
    by_cases z:bits .and .i64 nw 63=0
    .have N:(bits .and .i64 nw 63 !=0)=false:=by simp[z]
     obtain⟨s,hs,V⟩:∃s:Nat,s<=63/\bits .and .i64 (nw /64) 63=(s:Int):=⟨_,(lD (nw /64) aQ aQ).1,(lD (nw /64) aQ aQ).2⟩
     have s0:¬(s:Int)<0:=aQ;have W:(s:Int)<64:=aQ;have hlen:a.R.length=256:=l.o.1.i.len;have hi:1 *64+s<a.R.length:=aQ;have c1:wr.cell? (g,1)=some (.int .i64 nw):=by rw[<-l.o.2.1];exact l.o.1.c1
     have c4:wr.cell? (g,68+s)=some (sF (a.R[1 *64+s]'hi)):=by
      rw[show 68+s=4+(1 *64+s) by omega];exact l.o.1.cr hi
     have f4:wr.frozen? (g,68+s)=false:=l.o.1.fz _;have E:aH (∀nq,dJ F (wr.drewN nq) g n a/\Kp F w (wr.drewN nq)):=λnq=>⟨(l.o.1.below (gJ (Below.refl _ _) nq)).1,l.o.2.2.trans (l.o.1.below (gJ (Below.refl _ _) nq)).2⟩
     have HQ:aH (∀nq,∃p,dJ (cB F (a.R[1 *64+s]'hi).A) ((wr.drewN nq).setCell (g,68+s) (.slice none 0 0)) g n p/\p.nw=nw/\gQ p.R+(a.R[1 *64+s]'hi).xs.length<=n/\Kp F w ((wr.drewN nq).setCell (g,68+s) (.slice none 0 0))/\bB eI 1 ((wr.drewN nq).setCell (g,68+s) (.slice none 0 0)) 0 3 (a.R[1 *64+s]'hi).A (a.R[1 *64+s]'hi).c (a.R[1 *64+s]'hi).xs):=λnq=>by
      obtain⟨t1,t2,t3⟩:=(E.o nq).1.take hi;rw[show 4+(1 *64+s)=68+s by omega] at t1 t2;exact⟨_,t1,l.o.2.1,aaR (afS t3) l.o.1.i.sum,(E.o nq).2.trans (t2.mono λb B=> .inl B),((E.o nq).1.row hi).kp t2 (λq hq=> .inr hq)⟩
     have Q:(a.R[1 *64+s]'hi).xs.length<=1000000:=by
      have h1:=yM hi;have M:=l.o.1.i.sum;have:=HN.o;omega
     generalize hr:a.R[1 *64+s]'hi=r at *;obtain⟨A,c,xs⟩:=r;simp only[sF] at c4 Q HQ;clear hr;go_upto_region 6 with(fail)
     go_quiet (fail)
     clear l E z N hlen hi;go_wp2_with fail
     go_loopw [60] (λv60 X=>∃k:Nat,v60= .int .i64 k/\k<=xs.length/\aH (∃p,dJ (cB F A) X g n p/\p.nw=nw/\gQ p.R+(xs.length - k)<=n/\Kp F w X/\bB eI 1 X 0 3 A c xs)) (λv60 _=>xs.length - (aL v60).toNat)
     case atStart=>exact⟨0,rfl,aaQ _,HQ.o _⟩
     case round=>
      clear HQ c1 c4 f4 V hs s0 W;obtain⟨k,rfl,hk,I⟩:=hrel;by_cases C:k<xs.length
      .obtain⟨p,J,K,a6,G,u⟩:=I.o;clear I;obtain⟨q,rfl⟩:∃q,A=some ⟨q,0,none⟩:=by
        rcases u.shape with⟨_,M,_⟩|M
        .rw[M] at C;simp at C
        .exact M
       have e0:=bG fX u C (j:=0) (v:= .int .i64 xs[k]) rfl;rw[acI,aa3] at e0;have k0:(0:Int)<=k:=aQ;have k1:(k:Int)<(xs.length:Int):=aQ;have c3:=J.c3;have t:=GW J.mp xs[k];have hd:=J4 J.i xs[k];have HP:=aP (DJ (m:=n) J (AI p.f xs[k]) hd.2 (aaH _) aQ HN.o);have S:=cZ u G K;have T:aH (gQ p.R+1+(xs.length - (k+1))<=n):=by unfold aH;omega
       generalize AI p.f xs[k]=d at *;generalize xs[k]=x at *;obtain⟨da,dh,dw⟩:=d;simp only[zP] at t HP;clear J a6 G u hd;go_wp2_with fail
       refine aR HP ?_;rintro e U ⟨rfl,R,h5,O,Y⟩;have H:aH (∃p,dJ (cB F (some ⟨q,0,none⟩)) U g n p/\p.nw=nw/\gQ p.R+(xs.length - (k+1))<=n/\Kp F w U/\bB eI 1 U 0 3 (some ⟨q,0,none⟩) c xs):=⟨_,h5,S.o.2.2,by show gQ R+_<=n;rw[O];exact T.o,S.o.2.1.trans (Y.mono λb B=> .inl B),S.o.1.kp Y (λq hq=> .inr hq)⟩
       clear h5 O Y S T HP t c3 e0;go_wp2_with fail
       go_roundw
       case rel=>exact⟨k+1,by go_num,aQ,H.o⟩
       case measure=>simp[aL];omega
      .obtain rfl:k=xs.length:=aQ;have k1:¬(xs.length:Int)<(xs.length:Int):=aQ;have H:aH (∃a,dJ F wr g n a/\a.nw=nw/\Kp F w wr):=by
        obtain⟨p,J,K,_,G,_⟩:=I.o;exact⟨p,J.less (λb B=> .inl B),K,G⟩
       clear I;go_wp2_with fail
       go_roundw
       case rel=>exact⟨3,by go_num,aQ,aQ,H.o⟩
       case measure=>simp[aL]
    .have N:(bits .and .i64 nw 63 !=0)=true:=by simp[z]
     have c1:wr.cell? (g,1)=some (.int .i64 nw):=by rw[<-l.o.2.1];exact l.o.1.c1
     have H:aH (∀nq,∃a,dJ F (wr.drewN nq) g n a/\a.nw=nw/\Kp F w (wr.drewN nq)):=λnq=>⟨a,(l.o.1.below (gJ (Below.refl _ _) nq)).1,l.o.2.1,l.o.2.2.trans (l.o.1.below (gJ (Below.refl _ _) nq)).2⟩
     clear z l;go_upto_region 6 with(fail)
     go_quiet (fail)
     go_wp2_with fail
     go_roundw
     case rel=>exact⟨3,by go_num,aQ,aQ,H.o _⟩
     case measure=>simp[aL]
  .obtain rfl:i=3:=aQ;clear hi hi0;have c1:wr.cell? (g,1)=some (.int .i64 nw):=by rw[<-l.o.2.1];exact l.o.1.c1
   obtain⟨s,hs,V⟩:∃s:Nat,s<=63/\bits .and .i64 nw 63=(s:Int):=⟨_,(lD nw aQ aQ).1,(lD nw aQ aQ).2⟩
   have s0:¬(s:Int)<0:=aQ;have W:(s:Int)<64:=aQ;have hlen:a.R.length=256:=l.o.1.i.len;have hi:s<a.R.length:=aQ;have c4:wr.cell? (g,4+s)=some (sF (a.R[s]'hi)):=l.o.1.cr hi;have hxn:(a.R[s]'hi).xs.length<=n:=aaR (yM hi) l.o.1.i.sum;have HXN:=aP hxn;have Q:(a.R[s]'hi).xs.length<=1000000:=aaR hxn HN.o;have HQ:aH (OM F w wr g n nw none 0 [] (a.R[s]'hi).A (a.R[s]'hi).c (a.R[s]'hi).xs a):=⟨bB.nil _ _ _,λd hd=>(by cases hd),l.o.1.less (λb B=>by rcases B with B|B;exact B;cases B),l.o.1.row hi,l.o.2.1,l.o.2.2⟩
   generalize a.R[s]'hi=r at *;obtain⟨A,c,xs⟩:=r;simp only[sF] at c4 Q HQ HXN;clear l hi hlen a1 hxn;go_wp2_with fail
   go_loopw [10,87] (λv10 v87 X=>∃(k m:Nat) (A2:Option aJ) (c2:Nat) (D:List Du),v87= .int .i64 k/\v10= .slice A2 m c2/\k<=xs.length/\m<=k/\aH (m=D.length/\∃p,OM F w X g n nw A2 c2 D A c xs p)) (λ_ v87 _=>xs.length - (aL v87).toNat)
   case atStart=>exact⟨0,0,none,0, [],rfl,rfl,aaQ _,aaH _,rfl,a,HQ.o⟩
   case round=>
    clear HQ c1 c4;obtain⟨k,m,A2,c2,D,rfl,rfl,hk,hm,I⟩:=hrel;by_cases C:k<xs.length
    .obtain⟨hmD,p,z⟩:=I.o;clear I;have u:=z.r;obtain⟨q,rfl⟩:∃q,A=some ⟨q,0,none⟩:=by
      rcases u.shape with⟨_,M,_⟩|M
      .rw[M] at C;simp at C
      .exact M
     have e0:=bG fX u C (j:=0) (v:= .int .i64 xs[k]) rfl;rw[acI,aa3] at e0;have k0:(0:Int)<=k:=aQ;have k1:(k:Int)<(xs.length:Int):=aQ;have c3:=z.m.c3;have t:=GW z.m.mp xs[k];have HD:=aP (J4 z.m.i xs[k]).1;have I:=bH hmD z;clear z hmD u;generalize AI p.f xs[k]=d at *;generalize xs[k]=x at *;obtain⟨da,dh,dw⟩:=d;simp only[zP] at t;have HSZ:aH (w.heap.size<=wr.heap.size):=I.o.2.k.size;go_upto_region 22 with(at_builtin;refine bN _ rfl _ _ rfl Tu rZ (I.o.2.o.alloc _) (n:=m) I.o.1.symm rfl (m:=1) rfl (ys:= [⟨da,dh,dw⟩]) rfl (Sl.gK rZ wr ⟨da,dh,dw⟩ _ rfl _ aT) dT aQ (aaR HSZ.o aT) _ rfl (m+1) rfl ?_;intro A9 c9 w9 own9 hg9 at9)
     have HZ9:=aP (I.o.2.app HF.o _ HD.o own9 hg9 at9);obtain⟨w10,hrun,hm10,hg10⟩:=AU (P:=prog) underlying335 underlying3 HZ9.o.m.mp x 0;have H:=aP (HZ9.o.del hm10 hg10);have HL:aH (m+1=(D++ [(⟨da,dh,dw⟩:Du)]).length):=by unfold aH;rw[aaT,<-I.o.1];rfl
     have c3:=HZ9.o.m.c3;clear own9 hg9 at9 hm10 hg10 I HZ9 t e0;go_wp2_with fail
     go_roundw
     case rel=>exact⟨k+1,m+1,A9,c9,_,by go_num,rfl,aQ,aQ,HL.o,_,H.o⟩
     case measure=>simp[aL];omega
    .obtain rfl:k=xs.length:=aQ;have k1:¬(xs.length:Int)<(xs.length:Int):=aQ;obtain⟨hmD,p,z⟩:=I.o;clear I;have a1:s<p.R.length:=by have:=z.m.i.len;omega
     have c4:wr.cell? (g,4+s)=some (sF (p.R[s]'a1)):=z.m.cr a1;have f4:=z.m.fz (4+s);obtain⟨t1,t2,_⟩:=z.m.take a1;have HM:aH (m<=n):=aaR hm HXN.o;have hml:m<=1000000:=aQ;have H:aH (bB vJ 3 (wr.setCell (g,4+s) (.slice none 0 0)) w.heap.size 274 A2 c2 D/\(∀d∈D,0<=d.wh/\d.wh<4)/\(∃y',dJ (cB F A2) (wr.setCell (g,4+s) (.slice none 0 0)) g n y'/\y'.nw=nw)/\Kp F w (wr.setCell (g,4+s) (.slice none 0 0))):=⟨z.o.kp t2 (λq hq=> .inl (.inr hq)),z.d,⟨_,t1.less (λb B=> .inl B),z.nw⟩,z.k.trans (t2.mono λb B=> .inl (.inl B))⟩
     generalize p.R[s]'a1=r3 at *;obtain⟨A3,c3,xs3⟩:=r3;simp only[sF] at c4;have HMD:=aP hmD;clear z t1 t2 a1 hm hmD;go_upto_region 25 with(fail)
     generalize wr.setCell (g,4+s) (.slice none 0 0)=U at *;clear c4 f4;have hsh:=H.o.1.shape;rcases hsh with⟨rfl,rfl,rfl⟩|⟨q2,rfl⟩
     .obtain rfl:m=0:=HMD.o;have HR:aH (VZ F g n nw w (.returned (.slice none 0 0)) U):=⟨none,0, [],rfl,aaQ _,λd hd=>(by cases hd),bB.nil _ _ _,H.o.2.2.1,H.o.2.2.2⟩
      clear HMD H;go_wp2_with fail
      refine aS (XT _) ?_;rintro e w6 ⟨rfl,rfl⟩;go_wp2_with fail
      go_ret
      exact HR.o
     .have T:=VX H.o.1 (by rw[<-HMD.o];omega);rw[<-HMD.o] at T;have T:=aP T;go_wp2_with fail
      refine aR T ?_;rintro e w6 ⟨rfl,L,hp,_,own6,hg6⟩;have HR:aH (VZ F g n nw w (.returned (.slice q2 m c2)) w6):=by
       obtain⟨o5,d5,⟨y5,h5,n5⟩,Y⟩:=H.o;have fl5:Ol F U:=λb B=>h5.fl b (.inl B)
       obtain⟨h6,k6⟩:=dV.app (BN g n y5) (A:=some ⟨q2,0,none⟩) (A':=some ⟨q2,0,none⟩) h5 fl5 (λb B e=>by have:=(o5.lt b e).1;have:=HF.o b B;omega) hg6 (.inl rfl) (λq hq=>(own6.lt q hq).2);have hl:m=L.length:=by rw[HMD.o,hp.length_eq]
       exact⟨some ⟨q2,0,none⟩,c2,L,by rw[hl],by rw[<-hl];exact HM.o,λd hd=>d5 d (hp.mem_iff.1 hd),own6,⟨y5,h6,n5⟩,Y.trans k6⟩
      clear own6 hg6 hp H T;go_wp2_with fail
      go_ret
      exact HR.o
end
variable{w5:aA}{A5:Option aJ}{D5:List Du}{y5:Wa}
section
def FJ(g:Nat)(w:aA):Int:=aL ((w.cell? (g,1)).getD undef)
theorem dJ.FJ{y:Wa}(h:dJ F w g n y):FJ g w=y.nw:=by
 unfold Go.Proofs.YtacgiflhgdaeaaaGreat.FJ;rw[h.c1];rfl
def VN(F:Nat->Prop)(g n:Nat)(w:aA)(e:Ending)(w':aA):Prop:=∃(A:Option aJ) (c:Nat) (D:List Du) (E:Int),e= .returned (.tuple #[(A,D.length,c),E])/\D.length<=1048576000000/\(∀d∈D,0<=d.wh/\d.wh<4)/\bB vJ 3 w' w.heap.size 274 A c D/\(∃y',dJ (cB F A) w' g n y')/\Kp F w w'
structure NY(F:Nat->Prop)(w wr:aA)(g n:Nat)(A:Option aJ)(c:Nat)(D:List Du)(y:Wa):Prop where
 o:bB vJ 3 wr w.heap.size 274 A c D
 d:∀d∈D,0<=d.wh/\d.wh<4
 m:dJ (cB F A) wr g n y
 k:Kp F w wr
 l:(D.length:Int)<=y.nw *1000000
theorem NY.app{c:Nat}{D:List Du}{y:Wa}(h:NY F w wr g n A c D y)(fl:Ol F w)(B:n<=1000000)(C:D5.length<=n)(hd:∀d∈D5,0<=d.wh/\d.wh<4)(p:dJ (cB (cB F A) A5) w5 g n y5)(j:y5.nw=y.nw+1)(r:Kp (cB F A) wr w5)
 (a:bB vJ 3 w9 w.heap.size 274 A9 c9 (D++D5)) (s:w5.grownBy w9 (aZ A)) (t:aZ A9=aZ A\/aZ A9=some w5.heap.size):NY F w w9 g n A9 c9 (D++D5) y5:=by
 have u:dJ (cB F A) w5 g n y5:=p.less (λb f=> .inl f);have m:Kp F w w5:=h.k.trans (r.mono λb f=> .inl f);obtain⟨v,z⟩:=dV.app (BN g n y5) u (fl.kp m) (λb f e=>by have:=(h.o.lt b e).1;have:=fl b f;omega) s t (λq hq=>(a.lt q hq).2);refine⟨a,λx i=>?_,v,m.trans z,?_⟩
 .rcases aa8.1 i with i|i
  .exact h.d x i
  .exact hd x i
 .have:=h.l;rw[aaT,j];omega
theorem Gf{y:Wa}(h:dJ F w g n y)(M:n<=1000000)(tt:Int):aG prog 106 #[.pointer g,tt] w (VN F g n w):=by
 have c0:=h.c0;have c1:=h.c1;have hnw:=h.i.nw;have R:aH (VN F g n w (.returned (.tuple #[bA, .int .i64 1])) w):=⟨none,0, [],1,rfl,aaQ _,λd hd=>(by cases hd),bB.nil _ _ _,⟨y,h.less (λb a=>by rcases a with a|a;exact a;cases a)⟩,Kp.refl _ _⟩
 by_cases h1:tt<y.nw
 .generalize y.nw=nw at *;clear h M;go_enter func106,ntmps106
  go_wp2_with fail
  go_ret2
  exact R.o
 by_cases B:1048576<tt
 .generalize y.nw=nw at *;clear h M;go_enter func106,ntmps106
  go_wp2_with fail
  go_ret2
  exact R.o
 have S:=aP M;have HF:=aP h.fl;have HQ:aH (NY F w w g n none 0 [] y):=⟨bB.nil _ _ _,λd hd=>(by cases hd),h.less (λb a=>by rcases a with a|a;exact a;cases a),Kp.refl _ _,by simp only[ab5];omega⟩
 have T:0<=tt/\tt<=1048576:=aQ;clear R M h;have HY:aH (∃C,NY F w w g n none 0 [] C):=⟨y,HQ.o⟩
 generalize y.nw=nw at *;clear HQ;go_enter func106,ntmps106
 go_wp2_with fail
 go_loopw [6] (λv6 wr=>∃(m c:Nat) (A:Option aJ) (D:List Du),v6= .slice A m c/\aH (m=D.length/\∃C,NY F w wr g n A c D C)) (λ_ wr=>(tt - FJ g wr).toNat)
 case atStart=>exact⟨0,0,none, [],rfl,rfl,HY.o⟩
 case round=>
  clear HY c0 c1 h1 B;obtain⟨m,c,A,D,rfl,f⟩:=hrel;obtain⟨t,C,r⟩:=f.o;clear f;have f:=bH t r;have c1:=r.m.c1;have c3:=r.m.c3;have G:=r.m.FJ;have a:=r.m.i.nw;have N:=r.l;rw[<-t] at N;obtain⟨ln,hlen,_⟩:=Jf (P:=prog) underlying335 r.m.mp 3;obtain⟨O,p⟩:∃v,v=C.nw:=⟨_,rfl⟩
  have H:=aP p;have U:aH (FJ g wr=O):=G.trans p.symm;rw[<-p] at c1 a N;clear r G p t;have hml:(m:Int)<=1048576000000:=aQ;have u:aH (VN F g n w (.returned (.tuple #[(A,m,c),aU])) (wr.setCell (g,1) tt)):=by
   obtain⟨h1,B⟩:=f.o.2.m.PD T;refine⟨A,c,D,0,by rw[f.o.1],?_,f.o.2.d,f.o.2.o.kp B (λq hq=> .inr hq),⟨_,h1⟩,f.o.2.k.trans (B.mono λb a=> .inl a)⟩;rw[<-f.o.1];omega
  have f1:=f.o.2.m.fz 1;by_cases hlt:O<tt
  .by_cases hp:0<ln
   .have V:(0:Int)<(ln:Int):=aQ;have HT:aH (aG prog 144 #[.pointer g] wr λe w'=>∃(x:Option aJ) (c5 m5:Nat) (j:List Du),e= .returned (.slice x m5 c5)/\m5<=1000000/\aH (m5=j.length/\j.length<=n/\(∀d∈j,0<=d.wh/\d.wh<4)/\bB vJ 3 w' wr.heap.size 274 x c5 j/\(∃Q,dJ (cB (cB F A) x) w' g n Q/\Q.nw=C.nw+1)/\Kp (cB F A) wr w')):=(Cg f.o.2.m S.o (by rw[<-H.o];omega)).mono (by
     rintro e w' ⟨x,c5,j,rfl,h1,B,h3,h4,W⟩;exact⟨x,c5,j.length,j,rfl,aaR h1 S.o,rfl,h1,B,h3,h4,W⟩)
    have X:aH (w.heap.size<=wr.heap.size):=f.o.2.k.size;clear u f1;go_upto_region 7 with(fail)
    clear c1 c3 hlen hp V;go_wp2_with fail
    refine aR HT ?_;rintro e Y ⟨x,c5,m5,j,rfl,hm5,E⟩;have Z:aH (bB vJ 3 Y w.heap.size 274 A c D):=f.o.2.o.kp E.o.2.2.2.2.2 (λq hq=> .inr hq);have a1:aH (Sl vJ 3 Y x j):=E.o.2.2.2.1.sl rZ;have a6:aH (w.heap.size<=Y.heap.size):=aaR X.o E.o.2.2.2.2.2.size;clear HT;go_wp2_with(at_builtin;refine bN _ rfl _ _ rfl Tu rZ Z.o (n:=m) f.o.1.symm rfl (m:=m5) rfl (ys:=j) E.o.1.symm a1.o dT aQ a6.o _ rfl (m+m5) rfl ?_;intro A9 c9 w9 s I J)
    have HL:aH (m+m5=(D++j).length):=by
     unfold aH;rw[aaT,<-f.o.1,<-E.o.1]
    have K:aH (∃z,NY F w w9 g n A9 c9 (D++j) z/\z.nw=O+1):=by
     obtain⟨_,hl5,hd5,_,⟨Q,W,n5⟩,k5⟩:=E.o;exact⟨Q,f.o.2.app HF.o S.o hl5 hd5 W n5 k5 s I J,by rw[n5,H.o]⟩
    clear s I J;have HN9:aH (FJ g w9=O+1):=by
     obtain⟨z,h9,e9⟩:=K.o;exact h9.m.FJ.trans e9
    have L:aH (∃z,NY F w w9 g n A9 c9 (D++j) z):=by
     obtain⟨z,h9,_⟩:=K.o;exact⟨z,h9⟩
    go_roundw
    case rel=>exact⟨m+m5,c9,A9,D++j,rfl,HL.o,L.o⟩
    case measure=>
     rw[HN9.o,U.o];omega
   .have hp0:ln=0:=aQ;subst hp0;clear hp a N;go_wp2_with fail
    go_ret2
    exact u.o
  .clear a N;go_wp2_with fail
   go_ret2
   exact u.o
def RP(nw:Int)(M:Nat):Wa:=⟨nw,0,M,λ_=>none,List.replicate 256 ⟨none,0, []⟩⟩
theorem Gy(n:Nat):gQ (List.replicate n ⟨none,0, []⟩)=0:=by
 induction n with
 |zero=>rfl
 |succ n a=>
  rw[List.replicate_succ];unfold gQ at a⊢;rw[adL,adM,a];rfl
theorem dJ.new(hF:Ol F w){M:Nat}{nw:Int}(h:0<=nw/\nw<=1048576)(j:gV zP w M (λ_=>none))(k:bC w g 339 (vO (RP nw M)).toArray)(a:g≠M)(l:¬F M)(ng:¬F g):dJ F w g 0 (RP nw M):=by
 refine⟨⟨λb=>if b=g then 1 else if b=M then 2 else 0,λb c=>⟨hF b c,?_⟩,λi p hp=>?_⟩,⟨h,⟨ab0 _,ab0 _⟩,(by unfold RP;exact acZ),afS (Gy 256),λx d m=>by cases m⟩⟩
 .simp only;rw[aaL (λe=>ng (by rw[<-e];exact c)),aaL (λe=>l (by rw[<-e];exact c))]
 .unfold RX at hp;match i,hp with
  |0,hp=>
   simp at hp;subst hp;exact⟨k,Fo.ol _ _ _,λf=>f.2 aT⟩
  |1,hp=>
   simp at hp;subst hp;refine⟨j,Fo.ol _ _ _,λf=>f.2 ?_⟩;show(if M=g then 1 else if M=M then 2 else 0)=2;rw[aaL (ae5 a),aaK rfl]
  |i+2,hp=>
   rw[aaS aT] at hp;simp only[RP,List.map_replicate,abM,ab5,List.getElem?_replicate] at hp;split at hp
   .injection hp with hp;subst hp;exact fT.nil (Fo.ol _ _ _)
   .cases hp
theorem Oo(M:Nat):((zeroCells339.setIfInBounds 0 (.bool true)).setIfInBounds 1 (.int .i64 0)).setIfInBounds 3 (.map (some M))=(vO (RP 0 M)).toArray:=aV
theorem Jy(w:aA):aG prog 140 #[aU] w λe w'=>∃g,e= .returned (.tuple #[.pointer (some ⟨g,0,none⟩),aU])/\w.heap.size<=g/\B7 (λb=>b<w.heap.size) w' g 0/\Below w w w':=by
 have f:= @run_makeMap prog;go_enter func140,ntmps140
 go_wp2_with fail
 go_ret2
 rw[Oo];have a:=aX w (Obj.map #[] 0);have d:=a.alloc a.size (Obj.cells (vO (RP 0 w.heap.size)).toArray 339);have h:(w.alloc (Obj.map #[] 0)).heap.size=w.heap.size+1:=aT;refine⟨w.heap.size+1,rfl,ab2 _,⟨RP 0 w.heap.size,dJ.new (λb c=>aaJ c d.size) ⟨ab0 _,cD⟩ ((gV.new w zP).keep (aX _ _)) (bC.gK _ _ _ h) aQ (acA _) aQ⟩,d⟩
end
end
section
open Go.RowKit Go.Lib Go.Shelf dH Fr Up Nt
variable{F:Nat->Prop}{w:aA}{g q:Nat}{a:Ka}{k1 k2 k':Kv}
section
section
variable{F:Nat->Prop}{w w':aA}{g:Nat}{a:Ka}{k:Kv}
theorem bJ.Zm(h:bJ F w g a k):∃G,B7 G w a.gw k.n/\(∀(n:Nat) (w':aA) (A:Option aJ),(∀q,Go.Proofs.YtacgiflhgdaeaaaGreat.aZ A=some q->w.heap.size<=q)->B7 (cB G A) w' a.gw n->Ol (cB G A) w'->Kp G w w'->bJ (cB F A) w' g a {k with n:=n}/\Kp F w w'):=by
 obtain⟨G,d,back⟩:=h.o.MR 8 _ rfl;exact⟨G,d,λn w' A c b fl k'=>⟨⟨(back (QR a.gw n) w' _ c b fl k').1,h.al,h.bd,h.ln,h.pp⟩,(back (QR a.gw n) w' _ c b fl k').2⟩⟩
theorem bJ.Zq(h:bJ F w g a k):∃G,vN G w a.gb k.b k.v/\(∀(b:List Nt) (v:List Vc) (w':aA) (A:Option aJ),(∀q,Go.Proofs.YtacgiflhgdaeaaaGreat.aZ A=some q->w.heap.size<=q)->vN (cB G A) w' a.gb b v->Ol (cB G A) w'->Kp G w w'->bJ (cB F A) w' g a {k with b:=b,v:=v}/\Kp F w w'):=by
 obtain⟨G,e,back⟩:=h.o.MR 6 _ rfl;exact⟨G,e,λb v w' A d c fl k'=>⟨⟨(back (TF a.gb b v) w' _ d c fl k').1,h.al,h.bd,h.ln,h.pp⟩,(back (TF a.gb b v) w' _ d c fl k').2⟩⟩
end
theorem Hq{k:Kv}(h:bJ F w g a k)(e:k.n<=1000000)(tt:Int):aG prog 106 #[.pointer a.gw,tt] w λr w'=>∃(A:Option aJ) (c n:Nat) (D:List Du) (E:Int),r= .returned (.tuple #[(A,n,c),E])/\n<=1048576000000/\aH (n=D.length/\(∀d∈D,0<=d.wh/\d.wh<4)/\bB vJ 3 w' w.heap.size 274 A c D/\bJ (cB F A) w' g a k/\Kp F w w'):=by
 obtain⟨G,⟨y,f⟩,back⟩:=h.Zm;refine(Gf f e tt).mono ?_;rintro r w' ⟨A,c,D,E,rfl,i,hd,ho,⟨j,b⟩,k2⟩;obtain⟨b1,b2⟩:=back k.n w' A (λq hq=>(ho.lt q hq).1) ⟨j,b⟩ b.fl k2;exact⟨A,c,D.length,D,E,rfl,i,rfl,hd,ho,b1,b2⟩
theorem Eg{k:Kv}(h:bJ F w g a k)(hw:KW k)(now:Int):aG prog 107 #[.pointer a.gb,now] w λr w'=>∃(O:Option aJ) (d n:Nat) (T:List Nt),r= .returned (.slice O n d)/\n<=500/\aH (n=T.length/\T.Perm (iV 0 (k.b.filter λx=>decide (x.bO<=now)))/\bB iX 3 w' w.heap.size 96 O d T/\bJ (cB F O) w' g a {k with b:=k.b.filter λx=>decide (now<x.bO),v:=T.foldl pD k.v}/\Kp F w w'):=by
 obtain⟨G,e,back⟩:=h.Zq;refine(Dl now e (by have:=hw.b;omega) hw.be).mono ?_;rintro r w' ⟨O,d,T,rfl,ho,_,hp,c,f⟩;have fl:Ol (cB G O) w':=by
  obtain⟨_,_,_,fl,_⟩:=c;exact fl
 obtain⟨b1,b2⟩:=back _ _ w' O (λq hq=>(ho.lt q hq).1) c fl f;refine⟨O,d,T.length,T,rfl,?_,rfl,hp,ho,b1,b2⟩;rw[hp.length_eq,xB];have:=ac6 (λx:Nt=>decide (x.bO<=now)) k.b;have:=hw.b;omega
def zG(q:Nat)(w:aA):Nat:=(match w.cell? (q,2) with|some (.bool true)=>0|_=>1)+(match w.cell? (q,6) with|some (.bool true)=>0|_=>1)
theorem Oe{L:List Ln}(h:Ir F w g q L)(c:L.length=2):zG q w=BY L:=by
 match L,c,h with
 | [x,y],_,h=>
  have b:=(h.at_ (i:=0) aT).2.2.1;have h1:=(h.at_ (i:=1) aT).2.2.1;simp only[adY,abQ,ad0,adB,ac4] at b h1;unfold zG BY;rw[b,h1];obtain⟨f,j,d,l⟩:=x;obtain⟨m,n,e,o⟩:=y;cases d <;> cases e <;> rfl
theorem bJ.zG{k:Kv}(h:bJ F w g a k):zG a.iq w=BY a.ln:=by
 obtain⟨G,b,_⟩:=h.ir;exact Oe b h.ln
theorem Gi{k:Kv}(h:bJ F w g a k):aG prog 109 #[.pointer a.gi] w λr w'=>∃(i:Int) (b:Bool) (L:List Ln),r= .returned (.tuple #[i,b])/\aH (bJ F w' g {a with ln:=L} k/\Kp F w w'/\(b=true->BY L<BY a.ln)):=by
 obtain⟨G,d,back⟩:=h.ir;refine(Gm d).mono ?_;rintro r w' ⟨L,e,f,j,l⟩;obtain⟨b1,b2⟩:=back L w' e f j;rcases l with⟨i,_,rfl,c⟩|rfl
 .exact⟨i,true,L,rfl,b1,b2,λ_=>c⟩
 .exact⟨0,false,L,rfl,b1,b2,λh=>by cases h⟩
theorem KW.tell{k:Kv}(h:KW k)(e:Int):KW (fI k e):=by
 unfold fI;split
 .refine⟨h.t,h.b,h.cn,?_,h.be,h.n⟩;show gE (gS k.s e true);unfold gS;split
  .exact h.sd.zT _ _
  .exact h.sd
 .exact h
theorem KW.tJ{k:Kv}(h:KW k)(l:List Int):KW (eZ k l):=by
 induction l generalizing k with
 |nil=>exact h
 |cons e l b=>exact b (h.tell e)
theorem YN(k:Kv)(e:Int):(fI k e).c=k.c/\(fI k e).f=k.f/\(fI k e).t=k.t/\(fI k e).b=k.b/\(fI k e).v=k.v/\(fI k e).n=k.n:=by
 unfold fI;split <;> exact⟨rfl,rfl,rfl,rfl,rfl,rfl⟩
theorem AJ(l:List Int):∀k:Kv,(eZ k l).c=k.c/\(eZ k l).f=k.f/\(eZ k l).t=k.t/\(eZ k l).b=k.b/\(eZ k l).v=k.v/\(eZ k l).n=k.n:=by
 induction l with
 |nil=>intro k;exact⟨rfl,rfl,rfl,rfl,rfl,rfl⟩
 |cons e l d=>
  intro k;obtain⟨h,a2,a3,a4,a5,i⟩:=d (fI k e);obtain⟨b1,b2,b3,j,m,o⟩:=YN k e;exact⟨h.trans b1,a2.trans b2,a3.trans b3,a4.trans j,a5.trans m,i.trans o⟩
theorem I0(k:Kv)(l:List Int)(e:Int):eZ k (l++ [e])=fI (eZ k l) e:=by
 unfold eZ;rw[acQ];rfl
theorem KW.over{k:Kv}(h:KW k)(p:Nt->Bool)(v:List Vc):KW {k with b:=k.b.filter p,v:=v}:=
 ⟨h.t,aaR (ac6 _ _) h.b,h.cn,h.sd,λx c=>h.be x (acW.1 c).1,h.n⟩
theorem kD.snoc{x:Nt}{l:List Nt}{k:Kv}(r:kD l k k1)(t:pH x.eO x.fV k1 k2):kD (l++ [x]) k (fI k2 x.eO):=by
 induction r with
 |nil _=>exact .cons t (.nil _)
 |cons r1 _ b=>exact .cons r1 (b t)
theorem kD.kw{l:List Nt}{k:Kv}(r:kD l k k')(h:KW k):KW k':=by
 induction r with
 |nil _=>exact h
 |cons r1 _ b=>exact b ((r1.kw h).tell _)
end
end
end Go.Proofs.YtacgiflhgdaeaaaGreat
