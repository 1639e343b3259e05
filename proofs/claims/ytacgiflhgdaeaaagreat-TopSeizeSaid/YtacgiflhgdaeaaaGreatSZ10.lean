/- Texts laid as one. -/
import Derived.Laws.BitsLemmas
import Derived.Test.YtacgiflhgdaeaaaGreatSZ8
import Derived.Test.YtacgiflhgdaeaaaGreatSZ9
set_option linter.unusedVariables false
set_option linter.unusedSimpArgs false
set_option maxRecDepth 100000
set_option maxHeartbeats 20000000
namespace Go.Proofs.YtacgiflhgdaeaaaGreat
open Go.Proofs.Tryz
open Go renaming World->aA,Addr->aJ,Calls->aG
open Go.RowKit renaming Below->aD,Hid->aH,intOf->aL
open Go.Obj renaming cells->aI
section
open Go.RowKit Go.Lib Go.Shelf
variable{w w' wr w9:aA}{n g c9:Nat}{X:(Nat->Prop)->aA->Prop}{F:Nat->Prop}{A A' A2 A9:Option aJ}
section
def AE(f:Int->Option Du)(x:Int):Du:=(f x).getD ⟨0,0,0⟩
theorem GI{M:Nat}{f:Int->Option Du}(h:iJ AG w M f)(x:Int):(Instr.lookup 335 (.map (some M)) (.int .i64 x) false).run prog w= .ok (AG (AE f x)) w:=by
 rw[wT underlying335 underlying3 (z:= .agg #[aU,aU,aU]) aV h x false];unfold AE;cases f x <;> rfl
theorem KL{y:Wa}(h:Xw y n)(x:Int):(0<=(AE y.f x).wh/\(AE y.f x).wh<4)/\0<=(AE y.f x).at_/\(AE y.f x).at_<=2097152:=by
 unfold AE;cases hf:y.f x with
 |none=>simp
 |some d=>exact h.ok x d hf
theorem Ul:jL prog 270 274 3 24:=fP (z:= .agg #[aU,aU,aU]) underlying270 aV (by simp[Value.cells]) aQ
theorem dV.app(M:dV X)(h:X (cI F A) w)(fl:Ol F w)(hF:∀b,F b->aY A≠some b)(d:w.grownBy w' (aY A))(ha:aY A'=aY A\/aY A'=some w.heap.size)(c:∀q,aY A'=some q->q<w'.heap.size):X (cI F A') w'/\Kp F w w':=by
 have k:Kp F w w':=Kp.grown d λb hb=>⟨fl b hb,λe=>hF b hb e.symm⟩
 refine⟨M (cI F A) (λb=>b<w.heap.size/\aY A≠some b) _ w w' h (Kp.grown d λb hb=>⟨hb.1,λe=>hb.2 e.symm⟩) (λr f a=>⟨f,λe=>a (.inr e)⟩) (λb hb=>?_) (λr f a hc=>?_),k⟩
 .rcases hb with hb|hb
  .exact fl.kp k b hb
  .exact c b hb
 .rcases hc with hc|hc
  .exact a (.inl hc)
  .rcases ha with ha|ha
   .exact a (.inr (ha.symm.trans hc))
   .rw[ha] at hc;injection hc with hc;omega
def XI(F:Nat->Prop)(g n:Nat)(nw:Int)(w:aA)(e:Ending)(w':aA):Prop:=∃(A:Option aJ) (c:Nat) (D:List Du),e= .returned (.slice A D.length c)/\D.length<=n/\(∀d∈D,0<=d.wh/\d.wh<4)/\bI uM 3 w' w.heap.size 274 A c D/\(∃y',dK (cI F A) w' g n y'/\y'.nw=nw)/\Kp F w w'
structure OJ(F:Nat->Prop)(w wr:aA)(g n:Nat)(nw:Int)(A2:Option aJ)(c2:Nat)(D:List Du)(A:Option aJ)(c:Nat)(xs:List Int)(y:Wa):Prop where
 o:bI uM 3 wr w.heap.size 274 A2 c2 D
 d:∀d∈D,0<=d.wh/\d.wh<4
 m:dK (cI F A2) wr g n y
 r:bI eI 1 wr 0 3 A c xs
 nw:y.nw=nw
 k:Kp F w wr
theorem OJ.app{c2 c:Nat}{nw:Int}{D:List Du}{xs:List Int}{y:Wa}(h:OJ F w wr g n nw A2 c2 D A c xs y)(fl:Ol F w)(o:Obj){d:Du}(hd:0<=d.wh/\d.wh<4)(a:bI uM 3 w9 w.heap.size 274 A9 c9 (D++ [d]))(j:(wr.alloc o).grownBy w9 (aY A2))(ha:aY A9=aY A2\/aY A9=some (wr.alloc o).heap.size):OJ F w w9 g n nw A9 c9 (D++ [d]) A c xs y:=by
 obtain⟨h1,_⟩:=h.m.below (aX wr o);have i:Ol F (wr.alloc o):=λb hb=>h1.fl b (.inl hb)
 have l:Kp F w (wr.alloc o):=h.k.trans (Kp.cD (aX wr o) λb hb=>h.m.fl b (.inl hb));obtain⟨p,s⟩:=dV.app (CD g n y) h1 i (λb hb e=>by have:=(h.o.lt b e).1;have:=fl b hb;omega) j ha (λq hq=>(a.lt q hq).2);refine⟨a,λx f=>?_,p,(h.r.alloc o).kept j (wV (h.r.alloc o) (h.o.alloc o) cE),h.nw,l.trans s⟩;rcases ab6.1 f with f|f
 .exact h.d x f
 .rw[ab0.1 f];exact hd
theorem OJ.del{c2 c:Nat}{nw:Int}{D:List Du}{xs:List Int}{y:Wa}(h:OJ F w wr g n nw A2 c2 D A c xs y){x:Int}(hm:iJ AG w9 y.M (gF y.f x none))(j:wr.grownBy w9 (some y.M)):OJ F w w9 g n nw A2 c2 D A c xs {y with f:=gF y.f x none}:=by
 obtain⟨h1,l⟩:=h.m.VR hm j (λz d a=>by
  unfold gF at a;split at a
  .cases a
  .exact h.m.i.ok z d a)
 refine⟨h.o.kp l (λq hq=> .inr hq),h.d,h1,h.r.kept j ?_,h.nw,h.k.trans (l.mono λb hb=> .inl hb)⟩;cases s:aY A with
 |none=>exact .inl rfl
 |some q=>
  refine .inr (λe=>?_);injection e with e;obtain⟨cs,hb⟩:=qJ h.r q s;obtain⟨es,cl,p,_⟩:=h.m.mp;rw[e] at hb;have t:wr.heap[y.M]?=some (.cells cs 3):=hb;rw[t] at p;cases p
theorem ZP{y:Wa}(h:dK F w g n y)(hn:n<=1000000)(hw:y.nw+1<=1048576):aG prog 144 #[.pointer g] w (XI F g n (y.nw+1) w):=by
 have c1:=h.c1;have f1:=h.fz 1;have hnw:=h.i.nw;have HN:=aP hn;have HF:=aP h.fl;obtain⟨nw,Y⟩:∃v,v=y.nw+1:=⟨_,rfl⟩
 have hnwb:0<=nw/\nw<=1048576:=aQ;have HQ0:=aP (h.PN hnwb);have HQ1:aH (∃a,dK F (w.setCell (g,1) nw) g n a/\a.nw=nw/\Kp F w (w.setCell (g,1) nw)):=⟨_,HQ0.o.1,rfl,HQ0.o.2⟩
 rw[<-Y];clear h hn HQ0;go_enter func144,ntmps144
 go_upto_region 2 with(fail)
 rw[<-Y];clear Y hnw hw c1 f1;generalize w.setCell (g,1) nw=w1 at *;go_wp2_with fail
 go_loopw [20] (λv20 wr=>∃i:Int,v20= .int .i64 i/\0<=i/\i<=3/\aH (∃a,dK F wr g n a/\a.nw=nw/\Kp F w wr)) (λv20 _=>3 - (aL v20).toNat)
 case atStart=>exact⟨0,rfl,aQ,aQ,HQ1.o⟩
 case round=>
  clear HQ1;obtain⟨i,rfl,hi0,O,l⟩:=hrel;obtain⟨a,hx⟩:=l.o;have l:=aP hx;clear hx;by_cases hi:i<3
  .obtain rfl|rfl|rfl:i=0\/i=1\/i=2:=aQ
   ·
    by_cases z:bits .and .i64 nw 262143=0
    .have M:(bits .and .i64 nw 262143 !=0)=false:=by simp[z]
     obtain⟨s,hs,U⟩:∃s:Nat,s<=63/\bits .and .i64 (nw /262144) 63=(s:Int):=⟨_,(lM (nw /262144) aQ aQ).1,(lM (nw /262144) aQ aQ).2⟩
     have s0:¬(s:Int)<0:=aQ;have V:(s:Int)<64:=aQ;have hlen:a.R.length=256:=l.o.1.i.len;have hi:3 *64+s<a.R.length:=aQ;have c1:wr.cell? (g,1)=some (.int .i64 nw):=by rw[<-l.o.2.1];exact l.o.1.c1
     have c4:wr.cell? (g,196+s)=some (rY (a.R[3 *64+s]'hi)):=by
      rw[show 196+s=4+(3 *64+s) by omega];exact l.o.1.cr hi
     have f4:wr.frozen? (g,196+s)=false:=l.o.1.fz _;have C:aH (∀nq,dK F (wr.drewN nq) g n a/\Kp F w (wr.drewN nq)):=λnq=>⟨(l.o.1.below (fN (Below.refl _ _) nq)).1,l.o.2.2.trans (l.o.1.below (fN (Below.refl _ _) nq)).2⟩
     have HQ:aH (∀nq,∃p,dK (cI F (a.R[3 *64+s]'hi).A) ((wr.drewN nq).setCell (g,196+s) (.slice none 0 0)) g n p/\p.nw=nw/\iC p.R+(a.R[3 *64+s]'hi).xs.length<=n/\Kp F w ((wr.drewN nq).setCell (g,196+s) (.slice none 0 0))/\bI eI 1 ((wr.drewN nq).setCell (g,196+s) (.slice none 0 0)) 0 3 (a.R[3 *64+s]'hi).A (a.R[3 *64+s]'hi).c (a.R[3 *64+s]'hi).xs):=λnq=>by
      obtain⟨t1,t2,t3⟩:=(C.o nq).1.take hi;rw[show 4+(3 *64+s)=196+s by omega] at t1 t2;exact⟨_,t1,l.o.2.1,abT (af8 t3) l.o.1.i.sum,(C.o nq).2.trans (t2.mono λb hb=> .inl hb),((C.o nq).1.row hi).kp t2 (λq hq=> .inr hq)⟩
     have Q:(a.R[3 *64+s]'hi).xs.length<=1000000:=by
      have h1:=yP hi;have K:=l.o.1.i.sum;have:=HN.o;omega
     generalize hr:a.R[3 *64+s]'hi=r at *;obtain⟨A,c,xs⟩:=r;simp only[rY] at c4 Q HQ;clear hr;go_upto_region 6 with(fail)
     go_quiet (fail)
     clear l C z M hlen hi;go_wp2_with fail
     go_loopw [60] (λv60 W=>∃k:Nat,v60= .int .i64 k/\k<=xs.length/\aH (∃p,dK (cI F A) W g n p/\p.nw=nw/\iC p.R+(xs.length - k)<=n/\Kp F w W/\bI eI 1 W 0 3 A c xs)) (λv60 _=>xs.length - (aL v60).toNat)
     case atStart=>exact⟨0,rfl,abX _,HQ.o _⟩
     case round=>
      clear HQ c1 c4 f4 U hs s0 V;obtain⟨k,rfl,hk,H⟩:=hrel;by_cases B:k<xs.length
      .obtain⟨p,I,J,Z,E,u⟩:=H.o;clear H;obtain⟨q,rfl⟩:∃q,A=some ⟨q,0,none⟩:=by
        rcases u.shape with⟨_,K,_⟩|K
        .rw[K] at B;simp at B
        .exact K
       have e0:=bN gJ u B (j:=0) (v:= .int .i64 xs[k]) rfl;rw[adQ,acC] at e0;have k0:(0:Int)<=k:=aQ;have k1:(k:Int)<(xs.length:Int):=aQ;have c3:=I.c3;have t:=GI I.mp xs[k];have hd:=KL I.i xs[k];have HP:=aP (DE (m:=n) I (AE p.f xs[k]) hd.2 (abM _) aQ HN.o);have S:=dH u E J;have T:aH (iC p.R+1+(xs.length - (k+1))<=n):=by unfold aH;omega
       generalize AE p.f xs[k]=d at *;generalize xs[k]=x at *;obtain⟨da,dh,dw⟩:=d;simp only[AG] at t HP;clear I Z E u hd;go_wp2_with fail
       refine aR HP ?_;rintro e w5 ⟨rfl,R,h5,N,X⟩;have G:aH (∃p,dK (cI F (some ⟨q,0,none⟩)) w5 g n p/\p.nw=nw/\iC p.R+(xs.length - (k+1))<=n/\Kp F w w5/\bI eI 1 w5 0 3 (some ⟨q,0,none⟩) c xs):=⟨_,h5,S.o.2.2,by show iC R+_<=n;rw[N];exact T.o,S.o.2.1.trans (X.mono λb hb=> .inl hb),S.o.1.kp X (λq hq=> .inr hq)⟩
       clear h5 N X S T HP t c3 e0;go_wp2_with fail
       go_roundw
       case rel=>exact⟨k+1,by go_num,aQ,G.o⟩
       case measure=>simp[aL];omega
      .obtain rfl:k=xs.length:=aQ;have k1:¬(xs.length:Int)<(xs.length:Int):=aQ;have G:aH (∃a,dK F wr g n a/\a.nw=nw/\Kp F w wr):=by
        obtain⟨p,I,J,_,E,_⟩:=H.o;exact⟨p,I.less (λb hb=> .inl hb),J,E⟩
       clear H;go_wp2_with fail
       go_roundw
       case rel=>exact⟨1,by go_num,aQ,aQ,G.o⟩
       case measure=>simp[aL]
    .have M:(bits .and .i64 nw 262143 !=0)=true:=by simp[z]
     have c1:wr.cell? (g,1)=some (.int .i64 nw):=by rw[<-l.o.2.1];exact l.o.1.c1
     have G:aH (∀nq,∃a,dK F (wr.drewN nq) g n a/\a.nw=nw/\Kp F w (wr.drewN nq)):=λnq=>⟨a,(l.o.1.below (fN (Below.refl _ _) nq)).1,l.o.2.1,l.o.2.2.trans (l.o.1.below (fN (Below.refl _ _) nq)).2⟩
     clear z l;go_upto_region 6 with(fail)
     go_quiet (fail)
     go_wp2_with fail
     go_roundw
     case rel=>exact⟨1,by go_num,aQ,aQ,G.o _⟩
     case measure=>simp[aL]
   ·
    by_cases z:bits .and .i64 nw 4095=0
    .have M:(bits .and .i64 nw 4095 !=0)=false:=by simp[z]
     obtain⟨s,hs,U⟩:∃s:Nat,s<=63/\bits .and .i64 (nw /4096) 63=(s:Int):=⟨_,(lM (nw /4096) aQ aQ).1,(lM (nw /4096) aQ aQ).2⟩
     have s0:¬(s:Int)<0:=aQ;have V:(s:Int)<64:=aQ;have hlen:a.R.length=256:=l.o.1.i.len;have hi:2 *64+s<a.R.length:=aQ;have c1:wr.cell? (g,1)=some (.int .i64 nw):=by rw[<-l.o.2.1];exact l.o.1.c1
     have c4:wr.cell? (g,132+s)=some (rY (a.R[2 *64+s]'hi)):=by
      rw[show 132+s=4+(2 *64+s) by omega];exact l.o.1.cr hi
     have f4:wr.frozen? (g,132+s)=false:=l.o.1.fz _;have C:aH (∀nq,dK F (wr.drewN nq) g n a/\Kp F w (wr.drewN nq)):=λnq=>⟨(l.o.1.below (fN (Below.refl _ _) nq)).1,l.o.2.2.trans (l.o.1.below (fN (Below.refl _ _) nq)).2⟩
     have HQ:aH (∀nq,∃p,dK (cI F (a.R[2 *64+s]'hi).A) ((wr.drewN nq).setCell (g,132+s) (.slice none 0 0)) g n p/\p.nw=nw/\iC p.R+(a.R[2 *64+s]'hi).xs.length<=n/\Kp F w ((wr.drewN nq).setCell (g,132+s) (.slice none 0 0))/\bI eI 1 ((wr.drewN nq).setCell (g,132+s) (.slice none 0 0)) 0 3 (a.R[2 *64+s]'hi).A (a.R[2 *64+s]'hi).c (a.R[2 *64+s]'hi).xs):=λnq=>by
      obtain⟨t1,t2,t3⟩:=(C.o nq).1.take hi;rw[show 4+(2 *64+s)=132+s by omega] at t1 t2;exact⟨_,t1,l.o.2.1,abT (af8 t3) l.o.1.i.sum,(C.o nq).2.trans (t2.mono λb hb=> .inl hb),((C.o nq).1.row hi).kp t2 (λq hq=> .inr hq)⟩
     have Q:(a.R[2 *64+s]'hi).xs.length<=1000000:=by
      have h1:=yP hi;have K:=l.o.1.i.sum;have:=HN.o;omega
     generalize hr:a.R[2 *64+s]'hi=r at *;obtain⟨A,c,xs⟩:=r;simp only[rY] at c4 Q HQ;clear hr;go_upto_region 6 with(fail)
     go_quiet (fail)
     clear l C z M hlen hi;go_wp2_with fail
     go_loopw [60] (λv60 W=>∃k:Nat,v60= .int .i64 k/\k<=xs.length/\aH (∃p,dK (cI F A) W g n p/\p.nw=nw/\iC p.R+(xs.length - k)<=n/\Kp F w W/\bI eI 1 W 0 3 A c xs)) (λv60 _=>xs.length - (aL v60).toNat)
     case atStart=>exact⟨0,rfl,abX _,HQ.o _⟩
     case round=>
      clear HQ c1 c4 f4 U hs s0 V;obtain⟨k,rfl,hk,H⟩:=hrel;by_cases B:k<xs.length
      .obtain⟨p,I,J,Z,E,u⟩:=H.o;clear H;obtain⟨q,rfl⟩:∃q,A=some ⟨q,0,none⟩:=by
        rcases u.shape with⟨_,K,_⟩|K
        .rw[K] at B;simp at B
        .exact K
       have e0:=bN gJ u B (j:=0) (v:= .int .i64 xs[k]) rfl;rw[adQ,acC] at e0;have k0:(0:Int)<=k:=aQ;have k1:(k:Int)<(xs.length:Int):=aQ;have c3:=I.c3;have t:=GI I.mp xs[k];have hd:=KL I.i xs[k];have HP:=aP (DE (m:=n) I (AE p.f xs[k]) hd.2 (abM _) aQ HN.o);have S:=dH u E J;have T:aH (iC p.R+1+(xs.length - (k+1))<=n):=by unfold aH;omega
       generalize AE p.f xs[k]=d at *;generalize xs[k]=x at *;obtain⟨da,dh,dw⟩:=d;simp only[AG] at t HP;clear I Z E u hd;go_wp2_with fail
       refine aR HP ?_;rintro e w5 ⟨rfl,R,h5,N,X⟩;have G:aH (∃p,dK (cI F (some ⟨q,0,none⟩)) w5 g n p/\p.nw=nw/\iC p.R+(xs.length - (k+1))<=n/\Kp F w w5/\bI eI 1 w5 0 3 (some ⟨q,0,none⟩) c xs):=⟨_,h5,S.o.2.2,by show iC R+_<=n;rw[N];exact T.o,S.o.2.1.trans (X.mono λb hb=> .inl hb),S.o.1.kp X (λq hq=> .inr hq)⟩
       clear h5 N X S T HP t c3 e0;go_wp2_with fail
       go_roundw
       case rel=>exact⟨k+1,by go_num,aQ,G.o⟩
       case measure=>simp[aL];omega
      .obtain rfl:k=xs.length:=aQ;have k1:¬(xs.length:Int)<(xs.length:Int):=aQ;have G:aH (∃a,dK F wr g n a/\a.nw=nw/\Kp F w wr):=by
        obtain⟨p,I,J,_,E,_⟩:=H.o;exact⟨p,I.less (λb hb=> .inl hb),J,E⟩
       clear H;go_wp2_with fail
       go_roundw
       case rel=>exact⟨2,by go_num,aQ,aQ,G.o⟩
       case measure=>simp[aL]
    .have M:(bits .and .i64 nw 4095 !=0)=true:=by simp[z]
     have c1:wr.cell? (g,1)=some (.int .i64 nw):=by rw[<-l.o.2.1];exact l.o.1.c1
     have G:aH (∀nq,∃a,dK F (wr.drewN nq) g n a/\a.nw=nw/\Kp F w (wr.drewN nq)):=λnq=>⟨a,(l.o.1.below (fN (Below.refl _ _) nq)).1,l.o.2.1,l.o.2.2.trans (l.o.1.below (fN (Below.refl _ _) nq)).2⟩
     clear z l;go_upto_region 6 with(fail)
     go_quiet (fail)
     go_wp2_with fail
     go_roundw
     case rel=>exact⟨2,by go_num,aQ,aQ,G.o _⟩
     case measure=>simp[aL]
   ·
    by_cases z:bits .and .i64 nw 63=0
    .have M:(bits .and .i64 nw 63 !=0)=false:=by simp[z]
     obtain⟨s,hs,U⟩:∃s:Nat,s<=63/\bits .and .i64 (nw /64) 63=(s:Int):=⟨_,(lM (nw /64) aQ aQ).1,(lM (nw /64) aQ aQ).2⟩
     have s0:¬(s:Int)<0:=aQ;have V:(s:Int)<64:=aQ;have hlen:a.R.length=256:=l.o.1.i.len;have hi:1 *64+s<a.R.length:=aQ;have c1:wr.cell? (g,1)=some (.int .i64 nw):=by rw[<-l.o.2.1];exact l.o.1.c1
     have c4:wr.cell? (g,68+s)=some (rY (a.R[1 *64+s]'hi)):=by
      rw[show 68+s=4+(1 *64+s) by omega];exact l.o.1.cr hi
     have f4:wr.frozen? (g,68+s)=false:=l.o.1.fz _;have C:aH (∀nq,dK F (wr.drewN nq) g n a/\Kp F w (wr.drewN nq)):=λnq=>⟨(l.o.1.below (fN (Below.refl _ _) nq)).1,l.o.2.2.trans (l.o.1.below (fN (Below.refl _ _) nq)).2⟩
     have HQ:aH (∀nq,∃p,dK (cI F (a.R[1 *64+s]'hi).A) ((wr.drewN nq).setCell (g,68+s) (.slice none 0 0)) g n p/\p.nw=nw/\iC p.R+(a.R[1 *64+s]'hi).xs.length<=n/\Kp F w ((wr.drewN nq).setCell (g,68+s) (.slice none 0 0))/\bI eI 1 ((wr.drewN nq).setCell (g,68+s) (.slice none 0 0)) 0 3 (a.R[1 *64+s]'hi).A (a.R[1 *64+s]'hi).c (a.R[1 *64+s]'hi).xs):=λnq=>by
      obtain⟨t1,t2,t3⟩:=(C.o nq).1.take hi;rw[show 4+(1 *64+s)=68+s by omega] at t1 t2;exact⟨_,t1,l.o.2.1,abT (af8 t3) l.o.1.i.sum,(C.o nq).2.trans (t2.mono λb hb=> .inl hb),((C.o nq).1.row hi).kp t2 (λq hq=> .inr hq)⟩
     have Q:(a.R[1 *64+s]'hi).xs.length<=1000000:=by
      have h1:=yP hi;have K:=l.o.1.i.sum;have:=HN.o;omega
     generalize hr:a.R[1 *64+s]'hi=r at *;obtain⟨A,c,xs⟩:=r;simp only[rY] at c4 Q HQ;clear hr;go_upto_region 6 with(fail)
     go_quiet (fail)
     clear l C z M hlen hi;go_wp2_with fail
     go_loopw [60] (λv60 W=>∃k:Nat,v60= .int .i64 k/\k<=xs.length/\aH (∃p,dK (cI F A) W g n p/\p.nw=nw/\iC p.R+(xs.length - k)<=n/\Kp F w W/\bI eI 1 W 0 3 A c xs)) (λv60 _=>xs.length - (aL v60).toNat)
     case atStart=>exact⟨0,rfl,abX _,HQ.o _⟩
     case round=>
      clear HQ c1 c4 f4 U hs s0 V;obtain⟨k,rfl,hk,H⟩:=hrel;by_cases B:k<xs.length
      .obtain⟨p,I,J,Z,E,u⟩:=H.o;clear H;obtain⟨q,rfl⟩:∃q,A=some ⟨q,0,none⟩:=by
        rcases u.shape with⟨_,K,_⟩|K
        .rw[K] at B;simp at B
        .exact K
       have e0:=bN gJ u B (j:=0) (v:= .int .i64 xs[k]) rfl;rw[adQ,acC] at e0;have k0:(0:Int)<=k:=aQ;have k1:(k:Int)<(xs.length:Int):=aQ;have c3:=I.c3;have t:=GI I.mp xs[k];have hd:=KL I.i xs[k];have HP:=aP (DE (m:=n) I (AE p.f xs[k]) hd.2 (abM _) aQ HN.o);have S:=dH u E J;have T:aH (iC p.R+1+(xs.length - (k+1))<=n):=by unfold aH;omega
       generalize AE p.f xs[k]=d at *;generalize xs[k]=x at *;obtain⟨da,dh,dw⟩:=d;simp only[AG] at t HP;clear I Z E u hd;go_wp2_with fail
       refine aR HP ?_;rintro e w5 ⟨rfl,R,h5,N,X⟩;have G:aH (∃p,dK (cI F (some ⟨q,0,none⟩)) w5 g n p/\p.nw=nw/\iC p.R+(xs.length - (k+1))<=n/\Kp F w w5/\bI eI 1 w5 0 3 (some ⟨q,0,none⟩) c xs):=⟨_,h5,S.o.2.2,by show iC R+_<=n;rw[N];exact T.o,S.o.2.1.trans (X.mono λb hb=> .inl hb),S.o.1.kp X (λq hq=> .inr hq)⟩
       clear h5 N X S T HP t c3 e0;go_wp2_with fail
       go_roundw
       case rel=>exact⟨k+1,by go_num,aQ,G.o⟩
       case measure=>simp[aL];omega
      .obtain rfl:k=xs.length:=aQ;have k1:¬(xs.length:Int)<(xs.length:Int):=aQ;have G:aH (∃a,dK F wr g n a/\a.nw=nw/\Kp F w wr):=by
        obtain⟨p,I,J,_,E,_⟩:=H.o;exact⟨p,I.less (λb hb=> .inl hb),J,E⟩
       clear H;go_wp2_with fail
       go_roundw
       case rel=>exact⟨3,by go_num,aQ,aQ,G.o⟩
       case measure=>simp[aL]
    .have M:(bits .and .i64 nw 63 !=0)=true:=by simp[z]
     have c1:wr.cell? (g,1)=some (.int .i64 nw):=by rw[<-l.o.2.1];exact l.o.1.c1
     have G:aH (∀nq,∃a,dK F (wr.drewN nq) g n a/\a.nw=nw/\Kp F w (wr.drewN nq)):=λnq=>⟨a,(l.o.1.below (fN (Below.refl _ _) nq)).1,l.o.2.1,l.o.2.2.trans (l.o.1.below (fN (Below.refl _ _) nq)).2⟩
     clear z l;go_upto_region 6 with(fail)
     go_quiet (fail)
     go_wp2_with fail
     go_roundw
     case rel=>exact⟨3,by go_num,aQ,aQ,G.o _⟩
     case measure=>simp[aL]
  .obtain rfl:i=3:=aQ;clear hi hi0;have c1:wr.cell? (g,1)=some (.int .i64 nw):=by rw[<-l.o.2.1];exact l.o.1.c1
   obtain⟨s,hs,U⟩:∃s:Nat,s<=63/\bits .and .i64 nw 63=(s:Int):=⟨_,(lM nw aQ aQ).1,(lM nw aQ aQ).2⟩
   have s0:¬(s:Int)<0:=aQ;have V:(s:Int)<64:=aQ;have hlen:a.R.length=256:=l.o.1.i.len;have hi:s<a.R.length:=aQ;have c4:wr.cell? (g,4+s)=some (rY (a.R[s]'hi)):=l.o.1.cr hi;have hxn:(a.R[s]'hi).xs.length<=n:=abT (yP hi) l.o.1.i.sum;have HXN:=aP hxn;have Q:(a.R[s]'hi).xs.length<=1000000:=abT hxn HN.o;have HQ:aH (OJ F w wr g n nw none 0 [] (a.R[s]'hi).A (a.R[s]'hi).c (a.R[s]'hi).xs a):=⟨bI.nil _ _ _,λd hd=>(by cases hd),l.o.1.less (λb hb=>by rcases hb with hb|hb;exact hb;cases hb),l.o.1.row hi,l.o.2.1,l.o.2.2⟩
   generalize a.R[s]'hi=r at *;obtain⟨A,c,xs⟩:=r;simp only[rY] at c4 Q HQ HXN;clear l hi hlen O hxn;go_wp2_with fail
   go_loopw [10,87] (λv10 v87 W=>∃(k m:Nat) (A2:Option aJ) (c2:Nat) (D:List Du),v87= .int .i64 k/\v10= .slice A2 m c2/\k<=xs.length/\m<=k/\aH (m=D.length/\∃p,OJ F w W g n nw A2 c2 D A c xs p)) (λ_ v87 _=>xs.length - (aL v87).toNat)
   case atStart=>exact⟨0,0,none,0, [],rfl,rfl,abX _,abM _,rfl,a,HQ.o⟩
   case round=>
    clear HQ c1 c4;obtain⟨k,m,A2,c2,D,rfl,rfl,hk,hm,H⟩:=hrel;by_cases B:k<xs.length
    .obtain⟨hmD,p,z⟩:=H.o;clear H;have u:=z.r;obtain⟨q,rfl⟩:∃q,A=some ⟨q,0,none⟩:=by
      rcases u.shape with⟨_,K,_⟩|K
      .rw[K] at B;simp at B
      .exact K
     have e0:=bN gJ u B (j:=0) (v:= .int .i64 xs[k]) rfl;rw[adQ,acC] at e0;have k0:(0:Int)<=k:=aQ;have k1:(k:Int)<(xs.length:Int):=aQ;have c3:=z.m.c3;have t:=GI z.m.mp xs[k];have HD:=aP (KL z.m.i xs[k]).1;have H:=bP hmD z;clear z hmD u;generalize AE p.f xs[k]=d at *;generalize xs[k]=x at *;obtain⟨da,dh,dw⟩:=d;simp only[AG] at t;have HSZ:aH (w.heap.size<=wr.heap.size):=H.o.2.k.size;go_upto_region 22 with(at_builtin;refine bS _ rfl _ _ rfl Ul rK (H.o.2.o.alloc _) (n:=m) H.o.1.symm rfl (m:=1) rfl (ys:= [⟨da,dh,dw⟩]) rfl (Sl.fL rK wr ⟨da,dh,dw⟩ _ rfl _ aT) dN aQ (abT HSZ.o aT) _ rfl (m+1) rfl ?_;intro A9 c9 w9 own9 hg9 at9)
     have HZ9:=aP (H.o.2.app HF.o _ HD.o own9 hg9 at9);obtain⟨w10,hrun,hm10,hg10⟩:=BN (P:=prog) underlying335 underlying3 HZ9.o.m.mp x 0;have G:=aP (HZ9.o.del hm10 hg10);have HL:aH (m+1=(D++ [(⟨da,dh,dw⟩:Du)]).length):=by unfold aH;rw[ab2,<-H.o.1];rfl
     have c3:=HZ9.o.m.c3;clear own9 hg9 at9 hm10 hg10 H HZ9 t e0;go_wp2_with fail
     go_roundw
     case rel=>exact⟨k+1,m+1,A9,c9,_,by go_num,rfl,aQ,aQ,HL.o,_,G.o⟩
     case measure=>simp[aL];omega
    .obtain rfl:k=xs.length:=aQ;have k1:¬(xs.length:Int)<(xs.length:Int):=aQ;obtain⟨hmD,p,z⟩:=H.o;clear H;have O:s<p.R.length:=by have:=z.m.i.len;omega
     have c4:wr.cell? (g,4+s)=some (rY (p.R[s]'O)):=z.m.cr O;have f4:=z.m.fz (4+s);obtain⟨t1,t2,_⟩:=z.m.take O;have HM:aH (m<=n):=abT hm HXN.o;have hml:m<=1000000:=aQ;have G:aH (bI uM 3 (wr.setCell (g,4+s) (.slice none 0 0)) w.heap.size 274 A2 c2 D/\(∀d∈D,0<=d.wh/\d.wh<4)/\(∃y',dK (cI F A2) (wr.setCell (g,4+s) (.slice none 0 0)) g n y'/\y'.nw=nw)/\Kp F w (wr.setCell (g,4+s) (.slice none 0 0))):=⟨z.o.kp t2 (λq hq=> .inl (.inr hq)),z.d,⟨_,t1.less (λb hb=> .inl hb),z.nw⟩,z.k.trans (t2.mono λb hb=> .inl (.inl hb))⟩
     generalize p.R[s]'O=r3 at *;obtain⟨A3,c3,xs3⟩:=r3;simp only[rY] at c4;have HMD:=aP hmD;clear z t1 t2 O hm hmD;go_upto_region 25 with(fail)
     generalize wr.setCell (g,4+s) (.slice none 0 0)=w5 at *;clear c4 f4;have hsh:=G.o.1.shape;rcases hsh with⟨rfl,rfl,rfl⟩|⟨q2,rfl⟩
     .obtain rfl:m=0:=HMD.o;have HR:aH (XI F g n nw w (.returned (.slice none 0 0)) w5):=⟨none,0, [],rfl,abX _,λd hd=>(by cases hd),bI.nil _ _ _,G.o.2.2.1,G.o.2.2.2⟩
      clear HMD G;go_wp2_with fail
      refine aS (WR _) ?_;rintro e w6 ⟨rfl,rfl⟩;go_wp2_with fail
      go_ret
      exact HR.o
     .have T:=WH G.o.1 (by rw[<-HMD.o];omega);rw[<-HMD.o] at T;have T:=aP T;go_wp2_with fail
      refine aR T ?_;rintro e w6 ⟨rfl,L,hp,_,own6,hg6⟩;have HR:aH (XI F g n nw w (.returned (.slice q2 m c2)) w6):=by
       obtain⟨o5,d5,⟨y5,h5,n5⟩,X⟩:=G.o;have fl5:Ol F w5:=λb hb=>h5.fl b (.inl hb)
       obtain⟨h6,k6⟩:=dV.app (CD g n y5) (A:=some ⟨q2,0,none⟩) (A':=some ⟨q2,0,none⟩) h5 fl5 (λb hb e=>by have:=(o5.lt b e).1;have:=HF.o b hb;omega) hg6 (.inl rfl) (λq hq=>(own6.lt q hq).2);have hl:m=L.length:=by rw[HMD.o,hp.length_eq]
       exact⟨some ⟨q2,0,none⟩,c2,L,by rw[hl],by rw[<-hl];exact HM.o,λd hd=>d5 d (hp.mem_iff.1 hd),own6,⟨y5,h6,n5⟩,X.trans k6⟩
      clear own6 hg6 hp G T;go_wp2_with fail
      go_ret
      exact HR.o
end
variable{w5:aA}{A5:Option aJ}{D5:List Du}{y5:Wa}
section
def EH(g:Nat)(w:aA):Int:=aL ((w.cell? (g,1)).getD undef)
theorem dK.EH{y:Wa}(h:dK F w g n y):EH g w=y.nw:=by
 unfold Go.Proofs.YtacgiflhgdaeaaaGreat.EH;rw[h.c1];rfl
def VF(F:Nat->Prop)(g n:Nat)(w:aA)(e:Ending)(w':aA):Prop:=∃(A:Option aJ) (c:Nat) (D:List Du) (E:Int),e= .returned (.tuple #[(A,D.length,c),E])/\D.length<=1048576000000/\(∀d∈D,0<=d.wh/\d.wh<4)/\bI uM 3 w' w.heap.size 274 A c D/\(∃y',dK (cI F A) w' g n y')/\Kp F w w'
structure OP(F:Nat->Prop)(w wr:aA)(g n:Nat)(A:Option aJ)(c:Nat)(D:List Du)(y:Wa):Prop where
 o:bI uM 3 wr w.heap.size 274 A c D
 d:∀d∈D,0<=d.wh/\d.wh<4
 m:dK (cI F A) wr g n y
 k:Kp F w wr
 l:(D.length:Int)<=y.nw *1000000
theorem OP.app{c:Nat}{D:List Du}{y:Wa}(h:OP F w wr g n A c D y)(fl:Ol F w)(v:n<=1000000)(hl:D5.length<=n)(hd:∀d∈D5,0<=d.wh/\d.wh<4)(m:dK (cI (cI F A) A5) w5 g n y5)(i:y5.nw=y.nw+1)(p:Kp (cI F A) wr w5)
 (a:bI uM 3 w9 w.heap.size 274 A9 c9 (D++D5)) (r:w5.grownBy w9 (aY A)) (ha:aY A9=aY A\/aY A9=some w5.heap.size):OP F w w9 g n A9 c9 (D++D5) y5:=by
 have s:dK (cI F A) w5 g n y5:=m.less (λb hb=> .inl hb);have j:Kp F w w5:=h.k.trans (p.mono λb hb=> .inl hb);obtain⟨t,u⟩:=dV.app (CD g n y5) s (fl.kp j) (λb hb e=>by have:=(h.o.lt b e).1;have:=fl b hb;omega) r ha (λq hq=>(a.lt q hq).2);refine⟨a,λx f=>?_,t,j.trans u,?_⟩
 .rcases ab6.1 f with f|f
  .exact h.d x f
  .exact hd x f
 .have:=h.l;rw[ab2,i];omega
theorem Dz{y:Wa}(h:dK F w g n y)(L:n<=1000000)(tt:Int):aG prog 106 #[.pointer g,tt] w (VF F g n w):=by
 have c0:=h.c0;have c1:=h.c1;have hnw:=h.i.nw;have O:aH (VF F g n w (.returned (.tuple #[bH, .int .i64 1])) w):=⟨none,0, [],1,rfl,abX _,λd hd=>(by cases hd),bI.nil _ _ _,⟨y,h.less (λb hb=>by rcases hb with hb|hb;exact hb;cases hb)⟩,Kp.refl _ _⟩
 by_cases h1:tt<y.nw
 .generalize y.nw=nw at *;clear h L;go_enter func106,ntmps106
  go_wp2_with fail
  go_ret2
  exact O.o
 by_cases z:1048576<tt
 .generalize y.nw=nw at *;clear h L;go_enter func106,ntmps106
  go_wp2_with fail
  go_ret2
  exact O.o
 have Q:=aP L;have HF:=aP h.fl;have HQ:aH (OP F w w g n none 0 [] y):=⟨bI.nil _ _ _,λd hd=>(by cases hd),h.less (λb hb=>by rcases hb with hb|hb;exact hb;cases hb),Kp.refl _ _,by simp only[ac2];omega⟩
 have R:0<=tt/\tt<=1048576:=aQ;clear O L h;have HY:aH (∃B,OP F w w g n none 0 [] B):=⟨y,HQ.o⟩
 generalize y.nw=nw at *;clear HQ;go_enter func106,ntmps106
 go_wp2_with fail
 go_loopw [6] (λv6 wr=>∃(m c:Nat) (A:Option aJ) (D:List Du),v6= .slice A m c/\aH (m=D.length/\∃B,OP F w wr g n A c D B)) (λ_ wr=>(tt - EH g wr).toNat)
 case atStart=>exact⟨0,0,none, [],rfl,rfl,HY.o⟩
 case round=>
  clear HY c0 c1 h1 z;obtain⟨m,c,A,D,rfl,a⟩:=hrel;obtain⟨s,B,p⟩:=a.o;clear a;have a:=bP s p;have c1:=p.m.c1;have c3:=p.m.c3;have E:=p.m.EH;have hb:=p.m.i.nw;have hl:=p.l;rw[<-s] at hl;obtain⟨ln,hlen,_⟩:=Fh (P:=prog) underlying335 p.m.mp 3;obtain⟨M,j⟩:∃v,v=B.nw:=⟨_,rfl⟩
  have G:=aP j;have S:aH (EH g wr=M):=E.trans j.symm;rw[<-j] at c1 hb hl;clear p E j s;have hml:(m:Int)<=1048576000000:=aQ;have t:aH (VF F g n w (.returned (.tuple #[(A,m,c),aU])) (wr.setCell (g,1) tt)):=by
   obtain⟨h1,z⟩:=a.o.2.m.PN R;refine⟨A,c,D,0,by rw[a.o.1],?_,a.o.2.d,a.o.2.o.kp z (λq hq=> .inr hq),⟨_,h1⟩,a.o.2.k.trans (z.mono λb hb=> .inl hb)⟩;rw[<-a.o.1];omega
  have f1:=a.o.2.m.fz 1;by_cases hlt:M<tt
  .by_cases hp:0<ln
   .have T:(0:Int)<(ln:Int):=aQ;have HT:aH (aG prog 144 #[.pointer g] wr λe w'=>∃(u:Option aJ) (c5 m5:Nat) (f:List Du),e= .returned (.slice u m5 c5)/\m5<=1000000/\aH (m5=f.length/\f.length<=n/\(∀d∈f,0<=d.wh/\d.wh<4)/\bI uM 3 w' wr.heap.size 274 u c5 f/\(∃N,dK (cI (cI F A) u) w' g n N/\N.nw=B.nw+1)/\Kp (cI F A) wr w')):=(ZP a.o.2.m Q.o (by rw[<-G.o];omega)).mono (by
     rintro e w' ⟨u,c5,f,rfl,h1,z,h3,h4,U⟩;exact⟨u,c5,f.length,f,rfl,abT h1 Q.o,rfl,h1,z,h3,h4,U⟩)
    have V:aH (w.heap.size<=wr.heap.size):=a.o.2.k.size;clear t f1;go_upto_region 7 with(fail)
    clear c1 c3 hlen hp T;go_wp2_with fail
    refine aR HT ?_;rintro e w5 ⟨u,c5,m5,f,rfl,hm5,C⟩;have W:aH (bI uM 3 w5 w.heap.size 274 A c D):=a.o.2.o.kp C.o.2.2.2.2.2 (λq hq=> .inr hq);have X:aH (Sl uM 3 w5 u f):=C.o.2.2.2.1.sl rK;have Y:aH (w.heap.size<=w5.heap.size):=abT V.o C.o.2.2.2.2.2.size;clear HT;go_wp2_with(at_builtin;refine bS _ rfl _ _ rfl Ul rK W.o (n:=m) a.o.1.symm rfl (m:=m5) rfl (ys:=f) C.o.1.symm X.o dN aQ Y.o _ rfl (m+m5) rfl ?_;intro Z c9 w9 r H I)
    have HL:aH (m+m5=(D++f).length):=by
     unfold aH;rw[ab2,<-a.o.1,<-C.o.1]
    have J:aH (∃x,OP F w w9 g n Z c9 (D++f) x/\x.nw=M+1):=by
     obtain⟨_,hl5,hd5,_,⟨N,U,n5⟩,k5⟩:=C.o;exact⟨N,a.o.2.app HF.o Q.o hl5 hd5 U n5 k5 r H I,by rw[n5,G.o]⟩
    clear r H I;have HN9:aH (EH g w9=M+1):=by
     obtain⟨x,h9,e9⟩:=J.o;exact h9.m.EH.trans e9
    have K:aH (∃x,OP F w w9 g n Z c9 (D++f) x):=by
     obtain⟨x,h9,_⟩:=J.o;exact⟨x,h9⟩
    go_roundw
    case rel=>exact⟨m+m5,c9,Z,D++f,rfl,HL.o,K.o⟩
    case measure=>
     rw[HN9.o,S.o];omega
   .have hp0:ln=0:=aQ;subst hp0;clear hp hb hl;go_wp2_with fail
    go_ret2
    exact t.o
  .clear hb hl;go_wp2_with fail
   go_ret2
   exact t.o
def SO(nw:Int)(M:Nat):Wa:=⟨nw,0,M,λ_=>none,List.replicate 256 ⟨none,0, []⟩⟩
theorem Jj(n:Nat):iC (List.replicate n ⟨none,0, []⟩)=0:=by
 induction n with
 |zero=>rfl
 |succ n a=>
  rw[List.replicate_succ];unfold iC at a⊢;rw[List.map_cons,List.sum_cons,a];rfl
theorem dK.new(hF:Ol F w){M:Nat}{nw:Int}(c:0<=nw/\nw<=1048576)(f:iJ AG w M (λ_=>none))(h:bE w g 339 (vO (SO nw M)).toArray)(a:g≠M)(j:¬F M)(ng:¬F g):dK F w g 0 (SO nw M):=by
 refine⟨⟨λb=>if b=g then 1 else if b=M then 2 else 0,λb hb=>⟨hF b hb,?_⟩,λi p hp=>?_⟩,⟨c,⟨adL _,adL _⟩,(by unfold SO;exact ad6),af8 (Jj 256),λx d k=>by cases k⟩⟩
 .simp only;rw[abQ (λe=>ng (by rw[<-e];exact hb)),abQ (λe=>j (by rw[<-e];exact hb))]
 .unfold R2 at hp;match i,hp with
  |0,hp=>
   simp at hp;subst hp;exact⟨h,Fo.ol _ _ _,λhf=>hf.2 aT⟩
  |1,hp=>
   simp at hp;subst hp;refine⟨f,Fo.ol _ _ _,λhf=>hf.2 ?_⟩;show(if M=g then 1 else if M=M then 2 else 0)=2;rw[abQ (aeC a),abP rfl]
  |i+2,hp=>
   rw[abZ aT] at hp;simp only[SO,List.map_replicate,acN,ac2,aeV] at hp;split at hp
   .injection hp with hp;subst hp;exact gP.nil (Fo.ol _ _ _)
   .cases hp
theorem Of(M:Nat):((zeroCells339.setIfInBounds 0 (.bool true)).setIfInBounds 1 (.int .i64 0)).setIfInBounds 3 (.map (some M))=(vO (SO 0 M)).toArray:=aV
theorem Iw(w:aA):aG prog 140 #[aU] w λe w'=>∃g,e= .returned (.tuple #[.pointer (some ⟨g,0,none⟩),aU])/\w.heap.size<=g/\CF (λb=>b<w.heap.size) w' g 0/\aD w w w':=by
 have d:= @run_makeMap prog;go_enter func140,ntmps140
 go_wp2_with fail
 go_ret2
 rw[Of];have a:=aX w (Obj.map #[] 0);have hb:=a.alloc a.size (aI (vO (SO 0 w.heap.size)).toArray 339);have f:(w.alloc (Obj.map #[] 0)).heap.size=w.heap.size+1:=aT;refine⟨w.heap.size+1,rfl,ac8 _,⟨SO 0 w.heap.size,dK.new (λb c=>abO c hb.size) ⟨adL _,cE⟩ ((iJ.new w AG).keep (aX _ _)) (bE.fL _ _ _ f) aQ (adH _) aQ⟩,hb⟩
end
end
section
open Go.RowKit Go.Lib Go.Shelf dL Fr Up Nt
variable{F:Nat->Prop}{w:aA}{g q:Nat}{a:Ka}{k k1 k2 k':Kv}
section
section
variable{F:Nat->Prop}{w w':aA}{g:Nat}{a:Ka}{k:Kv}
theorem bT.whN(h:bT F w g a k):∃G,CF G w a.gw k.n/\(∀(n:Nat) (w':aA) (A:Option aJ),(∀q,Go.Proofs.YtacgiflhgdaeaaaGreat.aY A=some q->w.heap.size<=q)->CF (cI G A) w' a.gw n->Ol (cI G A) w'->Kp G w w'->bT (cI F A) w' g a {k with n:=n}/\Kp F w w'):=by
 obtain⟨G,d,back⟩:=h.o.MX 8 _ rfl;exact⟨G,d,λn w' A c b fl k'=>⟨⟨(back (RP a.gw n) w' _ c b fl k').1,h.al,h.bd,h.ln,h.pp⟩,(back (RP a.gw n) w' _ c b fl k').2⟩⟩
theorem bT.boN(h:bT F w g a k):∃G,vK G w a.gb k.b k.v/\(∀(b:List Nt) (v:List Vc) (w':aA) (A:Option aJ),(∀q,Go.Proofs.YtacgiflhgdaeaaaGreat.aY A=some q->w.heap.size<=q)->vK (cI G A) w' a.gb b v->Ol (cI G A) w'->Kp G w w'->bT (cI F A) w' g a {k with b:=b,v:=v}/\Kp F w w'):=by
 obtain⟨G,e,back⟩:=h.o.MX 6 _ rfl;exact⟨G,e,λb v w' A d c fl k'=>⟨⟨(back (UB a.gb b v) w' _ d c fl k').1,h.al,h.bd,h.ln,h.pp⟩,(back (UB a.gb b v) w' _ d c fl k').2⟩⟩
end
theorem Ee(h:bT F w g a k)(e:k.n<=1000000)(tt:Int):aG prog 106 #[.pointer a.gw,tt] w λr w'=>∃(A:Option aJ) (c n:Nat) (D:List Du) (E:Int),r= .returned (.tuple #[(A,n,c),E])/\n<=1048576000000/\aH (n=D.length/\(∀d∈D,0<=d.wh/\d.wh<4)/\bI uM 3 w' w.heap.size 274 A c D/\bT (cI F A) w' g a k/\Kp F w w'):=by
 obtain⟨G,⟨y,f⟩,back⟩:=h.whN;refine(Dz f e tt).mono ?_;rintro r w' ⟨A,c,D,E,rfl,hl,hd,ho,⟨i,b⟩,k2⟩;obtain⟨b1,b2⟩:=back k.n w' A (λq hq=>(ho.lt q hq).1) ⟨i,b⟩ b.fl k2;exact⟨A,c,D.length,D,E,rfl,hl,rfl,hd,ho,b1,b2⟩
theorem Ay(h:bT F w g a k)(hw:KW k)(now:Int):aG prog 107 #[.pointer a.gb,now] w λr w'=>∃(O:Option aJ) (d n:Nat) (T:List Nt),r= .returned (.slice O n d)/\n<=500/\aH (n=T.length/\T.Perm (jT 0 (k.b.filter λx=>decide (x.dD<=now)))/\bI iT 3 w' w.heap.size 96 O d T/\bT (cI F O) w' g a {k with b:=k.b.filter λx=>decide (now<x.dD),v:=T.foldl jI k.v}/\Kp F w w'):=by
 obtain⟨G,e,back⟩:=h.boN;refine(An now e (by have:=hw.b;omega) hw.be).mono ?_;rintro r w' ⟨O,d,T,rfl,ho,hp,c,f⟩;have fl:Ol (cI G O) w':=by
  obtain⟨_,_,_,fl,_⟩:=c;exact fl
 obtain⟨b1,b2⟩:=back _ _ w' O (λq hq=>(ho.lt q hq).1) c fl f;refine⟨O,d,T.length,T,rfl,?_,rfl,hp,ho,b1,b2⟩;rw[hp.length_eq,AY];have:=aeP (λx:Nt=>decide (x.dD<=now)) k.b;have:=hw.b;omega
def zC(q:Nat)(w:aA):Nat:=(match w.cell? (q,2) with|some (.bool true)=>0|_=>1)+(match w.cell? (q,6) with|some (.bool true)=>0|_=>1)
theorem Nf{L:List Ln}(h:Ir F w g q L)(hl:L.length=2):zC q w=CK L:=by
 match L,hl,h with
 | [x,y],_,h=>
  have b:=(h.at_ (i:=0) aT).2.2.1;have h1:=(h.at_ (i:=1) aT).2.2.1;simp only[aeZ,acP,ae6,ac6,acZ] at b h1;unfold zC CK;rw[b,h1];obtain⟨e,f,c,j⟩:=x;obtain⟨l,m,d,n⟩:=y;cases c <;> cases d <;> rfl
theorem bT.zC(h:bT F w g a k):zC a.iq w=CK a.ln:=by
 obtain⟨G,b,_⟩:=h.ir;exact Nf b h.ln
theorem Ft(h:bT F w g a k):aG prog 109 #[.pointer a.gi] w λr w'=>∃(i:Int) (b:Bool) (L:List Ln),r= .returned (.tuple #[i,b])/\aH (bT F w' g {a with ln:=L} k/\Kp F w w'/\(b=true->CK L<CK a.ln)):=by
 obtain⟨G,d,back⟩:=h.ir;refine(Ig d).mono ?_;rintro r w' ⟨L,hl,e,f,j⟩;obtain⟨b1,b2⟩:=back L w' hl e f;rcases j with⟨i,_,rfl,c⟩|rfl
 .exact⟨i,true,L,rfl,b1,b2,λ_=>c⟩
 .exact⟨0,false,L,rfl,b1,b2,λh=>by cases h⟩
theorem KW.tell(h:KW k)(e:Int):KW (dQ k e):=by
 unfold dQ;split
 .refine⟨h.t,h.b,h.cn,?_,h.be,h.n⟩;show gQ (jZ k.s e true);unfold jZ;split
  .exact h.sd.EY _ _
  .exact h.sd
 .exact h
theorem KW.mO(h:KW k)(l:List Int):KW (dY k l):=by
 induction l generalizing k with
 |nil=>exact h
 |cons e l b=>exact b (h.tell e)
theorem X7(k:Kv)(e:Int):(dQ k e).c=k.c/\(dQ k e).f=k.f/\(dQ k e).t=k.t/\(dQ k e).b=k.b/\(dQ k e).v=k.v/\(dQ k e).n=k.n:=by
 unfold dQ;split <;> exact⟨rfl,rfl,rfl,rfl,rfl,rfl⟩
theorem BL(l:List Int):∀k:Kv,(dY k l).c=k.c/\(dY k l).f=k.f/\(dY k l).t=k.t/\(dY k l).b=k.b/\(dY k l).v=k.v/\(dY k l).n=k.n:=by
 induction l with
 |nil=>intro k;exact⟨rfl,rfl,rfl,rfl,rfl,rfl⟩
 |cons e l d=>
  intro k;obtain⟨h,a2,a3,a4,a5,i⟩:=d (dQ k e);obtain⟨b1,b2,b3,j,m,o⟩:=X7 k e;exact⟨h.trans b1,a2.trans b2,a3.trans b3,a4.trans j,a5.trans m,i.trans o⟩
theorem G7(k:Kv)(l:List Int)(e:Int):dY k (l++ [e])=dQ (dY k l) e:=by
 unfold dY;rw[ad1];rfl
theorem KW.over(h:KW k)(p:Nt->Bool)(v:List Vc):KW {k with b:=k.b.filter p,v:=v}:=
 ⟨h.t,abT (aeP _ _) h.b,h.cn,h.sd,λx c=>h.be x (ac1.1 c).1,h.n⟩
theorem kB.snoc{x:Nt}{l:List Nt}(r:kB l k k1)(t:nJ x.cZ x.dJ k1 k2):kB (l++ [x]) k (dQ k2 x.cZ):=by
 induction r with
 |nil _=>exact .cons t (.nil _)
 |cons r1 _ b=>exact .cons r1 (b t)
theorem kB.kw{l:List Nt}(r:kB l k k')(h:KW k):KW k':=by
 induction r with
 |nil _=>exact h
 |cons r1 _ b=>exact b ((r1.kw h).tell _)
end
section
theorem S5{a:Ka}(h:bT F w g a k)(hw:KW k)(hn:k.n<=1000000):aG prog 76 #[.pointer g] w λr w'=>∃k',kQ k k'/\gK F g k' (.tuple #[]) w r w':=by
 have hnw:=hw.sd.nw;have ps:=h.ps;have pw:=h.pw;unfold pA at ps pw;obtain⟨G,hs,_⟩:=h.sd;have N:=tV hs;have HA:=Ee h hn k.s.nw;have HW:=aP hw;have HR:aH (∀(l1 l:List Int) (T:List Nt) (I:Kv),T.Perm (jT 0 (k.b.filter λx=>decide (x.dD<=k.s.nw)))->kB T {dY k l1 with b:=k.b.filter λx=>decide (k.s.nw<x.dD),v:=T.foldl jI k.v} I->kQ k (dY I l)):=λl1 l T I h1 t=>⟨l1,l,T,I,h1,t,rfl⟩
 generalize k.s.nw=nw at *;have N:=aP N;have HA:=aP HA;have hwr:IntKind.u64.wrap nw=nw:=by rw[IntKind.wrap_u64];omega
 clear h hs hw;go_enter func76,ntmps76
 go_wp2_with fail
 refine aR N ?_;rintro r w1 ⟨rfl,rfl⟩;go_wp2_with fail
 refine aR HA ?_;rintro r w2 ⟨A,c,n,D,E,rfl,hn5,HD⟩;clear N HA ps pw;go_wp2_with fail
 go_loopw [29] (λa6 wr=>∃i:Nat,a6= .int .i64 i/\i<=n/\aH (∃l1,KM (cI F A) wr g (dY k l1)/\Kp (cI F A) w2 wr)) (λa6 _=>n - (aL a6).toNat)
 case atStart=>exact⟨0,rfl,abX _, [],⟨a,HD.o.2.2.2.1⟩,Kp.refl _ _⟩
 case round=>
  obtain⟨i,rfl,hi,HX⟩:=hrel;obtain⟨l1,⟨a1,h1⟩,hK⟩:=HX.o;by_cases J:i<n
  .have f:i<D.length:=by rw[<-HD.o.1];exact J
   have K:=HD.o.2.2.1.kp hK (λq hq=> .inr hq);obtain⟨q,rfl⟩:∃q,A=some ⟨q,0,none⟩:=by
    rcases K.shape with⟨_,t,_⟩|t
    .rw[t] at f;simp at f
    .exact t
   have e0:=bN rK K f (j:=0) (v:= .int .i64 D[i].at_) rfl;have e1:=bN rK K f (j:=1) (v:= .int .i64 D[i].hd) rfl;have e2:=bN rK K f (j:=2) (v:= .int .i64 D[i].wh) rfl;rw[acC] at e0;have hwh:=HD.o.2.1 D[i] (abV f);have i0:(0:Int)<=i:=aQ;have i1:(i:Int)<(n:Int):=aQ;generalize D[i]=d at *;obtain⟨S,dh,dw⟩:=d;simp only at e0 e1 e2 hwh;obtain⟨u,rfl⟩:=abR hwh.1;have u8:(u:Int)<8:=aQ;have P:=bE.new wr 274 #[S,dh,u];have H3:=aP (And.intro ((bT.cH g a1 (dY k l1)).box h1 h1.fl (aI #[S,dh,u] 274)) (hK.trans (h1.below (aX wr (aI #[S,dh,u] 274))).2));clear h1 hK K HX hwh;go_upto_region 6 with(fail)
   generalize wr.alloc (aI #[S,dh,u] 274)=w3 at *;generalize wr.heap.size=q3 at *;have x0:=P.cell 0 S rfl;have x2:=P.cell 2 u rfl;obtain⟨v0,z0⟩:=H3.o.1.p7 (i:=u) aQ;have f0:=H3.o.1.fz (11+u);have hne:q3≠g:=λe=>by
    obtain⟨ow,U⟩:=H3.o.1.o;have V:=(U.get 0 (p:=PB g 64 (kL a1).toArray) rfl).nf;have:=U.1 q3 (.inr rfl);rw[e] at this;exact V ⟨this.1,by rw[this.2];decide⟩
   clear e0 e1 e2;go_region_held3 (λW=>W.cell? (q3,2)=some (.int .i64 u)) (first|with_reducible assumption|exact(dP hne).trans x2|exact x2|fail) (fail)
   have B:aH (∃a4,bT (Fb (cI F (some ⟨q,0,none⟩)) q3) (w3.setCell (g,11+u) (.int .i64 0)).drew g a4 (dY k l1)/\Kp (cI F (some ⟨q,0,none⟩)) w2 (w3.setCell (g,11+u) (.int .i64 0)).drew/\bE (w3.setCell (g,11+u) (.int .i64 0)).drew q3 274 #[S,dh,u]):=by
    obtain⟨⟨a4,U⟩,k4⟩:=H3.o.1.store (11+u) aQ 0;have hd:=U.below (Below.refl _ _).drew;exact⟨a4,hd.1,(H3.o.2.trans (k4.mono λb hb=> .inl hb)).drew,k4.aY P (.inr rfl)⟩
   generalize (w3.setCell (g,11+u) (.int .i64 0)).drew=w4 at *;obtain⟨a4,U⟩:=B.o;have B:=aP U;have xb4:=U.2.2;clear U P H3 z0 f0 x0 x2 hne;have x0:=xb4.cell 0 S rfl;have x2:=xb4.cell 2 u rfl;have X:=aP (tU B.o.1 (HW.o.mO l1).p8 u 1 0 (IntKind.u64.wrap S) aQ);clear xb4;go_wp2_with fail
   refine aR X ?_;rintro r w5 ⟨v5,rfl,V,k5⟩;have HE:aH (∃l1,KM (cI F (some ⟨q,0,none⟩)) w5 g (dY k l1)/\Kp (cI F (some ⟨q,0,none⟩)) w2 w5):=⟨l1++ [(u:Int)],⟨a4,by rw[G7];exact V.less (λb hb=> .inl hb)⟩,B.o.2.1.trans (k5.mono λb hb=> .inl hb)⟩
   clear V k5 X B x0 x2;go_wp2_with fail
   go_roundw
   case rel=>exact⟨i+1,by go_num,aQ,HE.o⟩
   case measure=>simp[aL];omega
  .obtain rfl:i=n:=aQ;have i1:¬(i:Int)<(i:Int):=aQ;have H5:aH (bT F wr g a1 (dY k l1)/\Kp F w wr):=⟨h1.less (λb hb=> .inl hb),HD.o.2.2.2.2.trans (hK.mono λb hb=> .inl hb)⟩
   clear h1 hK HX hi J;have pb:=H5.o.1.pb;unfold pA at pb;have HO:=aP (Ay H5.o.1 (HW.o.mO l1) nw);clear HD;go_wp2_with fail
   refine aR HO ?_;rintro r w6 ⟨O,d,m,T,rfl,hm5,X⟩;clear HO pb;have y:aH (m=T.length/\T.Perm (jT 0 (k.b.filter λx=>decide (x.dD<=nw)))/\bI iT 3 w6 wr.heap.size 96 O d T/\bT (cI F O) w6 g a1 {dY k l1 with b:=k.b.filter λx=>decide (nw<x.dD),v:=T.foldl jI k.v}/\Kp F wr w6):=by
    have:=X.o;rw[(BL l1 k).2.2.2.1,(BL l1 k).2.2.2.2.1] at this;exact this
   clear X;have Q:aH (KW {dY k l1 with b:=k.b.filter λx=>decide (nw<x.dD),v:=T.foldl jI k.v}):=by
    have:=(HW.o.mO l1).over (λx=>decide (nw<x.dD)) (T.foldl jI k.v);rw[(BL l1 k).2.2.2.1] at this;exact this
   obtain⟨Y,hkO⟩:∃Y,Y={dY k l1 with b:=k.b.filter λx=>decide (nw<x.dD),v:=T.foldl jI k.v}:=⟨_,rfl⟩
   have HR2:aH (∀(l:List Int) (I:Kv),kB T Y I->kQ k (dY I l)):=λl I ho=>HR.o l1 l T I y.o.2.1 (by rw[<-hkO];exact ho)
   rw[<-hkO] at y Q;clear hkO HR;go_wp2_with fail
   go_loopw [55] (λv55 wz=>∃i:Nat,v55= .int .i64 i/\i<=m/\aH (∃z,kB (T.take i) Y z/\KM (cI F O) wz g z/\Kp (cI F O) w6 wz)) (λv55 _=>m - (aL v55).toNat)
   case atStart=>exact⟨0,rfl,abX _,Y, .nil _,⟨a1,y.o.2.2.2.1⟩,Kp.refl _ _⟩
   case round=>
    obtain⟨j,rfl,hj,HX⟩:=hrel;obtain⟨z,H,⟨a2,t⟩,hK⟩:=HX.o;by_cases J:j<m
    .have f:j<T.length:=by rw[<-y.o.1];exact J
     have K:=y.o.2.2.1.kp hK (λq hq=> .inr hq);obtain⟨q,rfl⟩:∃q,O=some ⟨q,0,none⟩:=by
      rcases K.shape with⟨_,t,_⟩|t
      .rw[t] at f;simp at f
      .exact t
     have e0:=bN iB K f (j:=0) (v:= .int .i64 T[j].cZ) rfl;have e1:=bN iB K f (j:=1) (v:= .int .i64 T[j].dJ) rfl;have e2:=bN iB K f (j:=2) (v:= .int .i64 T[j].dD) rfl;rw[acC] at e0;have htk:aH (T.take (j+1)=T.take j++ [T[j]]):=by unfold aH;rw[acV,abL f];rfl
     have j0:(0:Int)<=j:=aQ;have j1:(j:Int)<(m:Int):=aQ;have C:aH (KW z):=H.kw Q.o;have M:=aP H;generalize T[j]=x at *;obtain⟨R,Z,xt,xg⟩:=x;simp only at e0 e1 e2;have P:=bE.new wr 96 #[R,Z,xt];have H7:=aP (And.intro ((bT.cH g a2 z).box t t.fl (aI #[R,Z,xt] 96)) (hK.trans (t.below (aX wr (aI #[R,Z,xt] 96))).2));clear t hK K HX H;go_upto_region 12 with(fail)
     generalize wr.alloc (aI #[R,Z,xt] 96)=w7 at *;generalize wr.heap.size=q7 at *;have x0:=P.cell 0 R rfl;have x1:=P.cell 1 Z rfl;have HXB:=aP P;have HTK:=aP (Dd H7.o.1 C.o R Z);clear e0 e1 e2 P;go_wp2_with fail
     refine aR HTK ?_;rintro r w8 ⟨I,ht,rfl,⟨a8,h8⟩,k8⟩;have xb8:=k8.aY HXB.o (.inr rfl);have H8:=bP h8 (H7.o.2.trans (k8.mono λb hb=> .inl hb));have HKW2:aH (KW I):=ht.kw C.o;have HOV2:aH (kB (T.take (j+1)) Y (dQ I R)):=by unfold aH;rw[htk.o];exact M.o.snoc ht
     clear h8 k8 ht HTK H7 HXB x0 x1 M htk;have x0:=xb8.cell 0 R rfl;have x1:=xb8.cell 1 Z rfl;have HTL:=aP (tU H8.o.1 HKW2.o.p8 R 6 Z 0 aQ);clear xb8;go_wp2_with fail
     refine aR HTL ?_;rintro r w9 ⟨v9,rfl,h9,k9⟩;have HE:aH (∃z,kB (T.take (j+1)) Y z/\KM (cI F (some ⟨q,0,none⟩)) w9 g z/\Kp (cI F (some ⟨q,0,none⟩)) w6 w9):=⟨_,HOV2.o,⟨a8,h9.less (λb hb=> .inl hb)⟩,H8.o.2.trans (k9.mono λb hb=> .inl hb)⟩
     clear h9 k9 HTL H8 x0 x1;go_wp2_with fail
     go_roundw
     case rel=>exact⟨j+1,by go_num,aQ,HE.o⟩
     case measure=>simp[aL];omega
    .obtain rfl:j=m:=aQ;have j1:¬(j:Int)<(j:Int):=aQ;have M:aH (kB T Y z):=by
      have:=H;rw[ab8 (by rw[<-y.o.1];exact abM _)] at this;exact this
     have HQ:aH (∃l L,bT F wr g {a2 with ln:=L} (dY z l)/\Kp F w wr):=⟨[],a2.ln,t.less (λb hb=> .inl hb),(H5.o.2.trans y.o.2.2.2.2).trans (hK.mono λb hb=> .inl hb)⟩
     have C:aH (KW z):=H.kw Q.o;have HR3:aH (∀l,kQ k (dY z l)):=λl=>HR2.o l z M.o
     clear t hK H HX y hj J M HR2 Q H5;go_wp2_with fail
     go_loopw [] (λwz=>aH (∃l L,bT F wz g {a2 with ln:=L} (dY z l)/\Kp F w wz)) (λwz=>zC a2.iq wz)
     case atStart=>exact HQ.o
     case round=>
      clear HQ;obtain⟨l,L,t,hK⟩:=hrel.o;have pi:=t.pi;unfold pA at pi;simp only at pi;have HN:=Ft t;simp only at HN;have HN:=aP HN;have HU:=aP t.zC;have HK:=aP hK;clear t hK;go_wp2_with fail
      refine aR HN ?_;rintro r w4 ⟨i,b,L4,rfl,B⟩;clear HN pi;cases b with
      |false=>
       have HE:aH (∃k',kQ k k'/\gK F g k' (.tuple #[]) w (.returned (.tuple #[])) w4):=⟨_,HR3.o l,rfl,⟨_,B.o.1⟩,HK.o.trans B.o.2.1⟩
       clear B;go_wp2_with fail
       refine bodyPost_ret (v:= .tuple #[]) (by simp[results,results76,go_sem]) rfl ?_;exact HE.o
      |true=>
       have HB:=aP (CX B.o.1 i);have X:=aP (λe=>tU B.o.1 (C.o.mO l).p8 e 2 i nw aQ);generalize FM {a2 with ln:=L4} i=be at *;go_wp2_with fail
       refine aR HB ?_;rintro r w5 ⟨rfl,rfl⟩;go_wp2_with fail
       refine aS (X.o _) ?_;rintro r w5 ⟨v5,rfl,V,k5⟩;have HE:aH (∃l L,bT F w5 g {a2 with ln:=L} (dY z l)/\Kp F w w5):=⟨l++ [be],L4,by rw[G7];exact V,(HK.o.trans B.o.2.1).trans k5⟩
       have HM:aH (zC a2.iq w5<zC a2.iq wr):=by
        unfold aH;rw[show zC a2.iq w5=CK L4 from V.zC,show zC a2.iq wr=CK L from HU.o];exact B.o.2.2 (by trivial)
       clear V k5 HB X B;go_wp2_with fail
       go_roundw
       case rel=>exact HE.o
       case measure=>exact HM.o
end
end
section
open Go.RowKit Go.Lib
theorem Ng:(prog.info? 267).map (λi=>(i.zero,i.size,i.bytes))=some (some (.agg #[false,false,false,aU]),4,16):=aV
def LC:Ln:=⟨false,false,false,0⟩
theorem Eh(w:aA):aG prog 138 #[.int .i64 2] w λe w'=>∃(g q:Nat) (L:List Ln),e= .returned (.tuple #[.pointer g,aU])/\L.length=2/\Ir (λb=>b<w.heap.size) w' g q L/\aD w w w':=by
 obtain⟨v,l,m,n,p⟩:=info_parts Ng;go_enter func138,ntmps138
 go_upto_region 4 with(at_make;refine wpList_make_full _ rfl _ _ 332 rfl w.heap.size 267 v _ 4 underlying332 l m n _ _ _ _ 2 rfl rfl aQ aQ (by rw[p];omega) dN (abM _) ?_;intro c a h)
 have ho:bI K0 4 c w.heap.size 267 (some ⟨w.heap.size,0,none⟩) 2 [LC,LC]:=by
  have e:(madeCells (Value.agg #[false,false,false,aU]).cells (2 *4)).toList= [LC,LC].flatMap K0:=aV;rw[e] at a;exact a
 have hb:aD w w c:=⟨h.os,h.tape,h.output,h.size,λi hi=>h.block i hi aT⟩
 have hq:w.heap.size<c.heap.size:=(ho.lt _ rfl).2;have f:=aX c (aI #[.slice w.heap.size 2 2] 334);have s:=bE.new c 334 #[.slice w.heap.size 2 2];have r:=hb.trans (f.mono hb.size);have d:Ir (λb=>b<w.heap.size) (c.alloc (aI #[.slice w.heap.size 2 2] 334)) c w.heap.size [LC,LC]:=⟨s,(ho.keep f).from_ (abX _),aT,λb hb=>abO hb r.size,aQ,adH _,aQ⟩
 generalize c.alloc (aI #[.slice w.heap.size 2 2] 334)=w5 at *;generalize c.heap.size=g at *;generalize k:w.heap.size=q at *;obtain⟨t,x⟩:=d.set (i:=0) (j:=1) aT aQ {LC with ma:=true} (.bool true) rfl;obtain⟨u,y⟩:=t.set (i:=1) (j:=1) aT aQ {LC with ma:=true} (.bool true) rfl;have z:aH (∃L:List Ln,L.length=2/\Ir (λb=>b<q) ((w5.setCell (q,1) (.bool true)).setCell (q,5) (.bool true)) g q L/\aD q w ((w5.setCell (q,1) (.bool true)).setCell (q,5) (.bool true))):=⟨_,rfl,u,(r.setCell (abM _) _).setCell (abM _) _⟩
 have c0:=d.b.cell 0 _ rfl;obtain⟨_,A,_,_⟩:=d.at_ (i:=0) aT;obtain⟨_,b1,_,_⟩:=d.at_ (i:=1) aT;obtain⟨_,f1,_,_⟩:=d.fz (i:=0) aT;obtain⟨_,f5,_,_⟩:=d.fz (i:=1) aT;simp only[aeZ,ae6,acP,ac6,acZ,LC] at A b1 f1 f5;have ne:=d.ne;clear t x u y d hb f r ho s h a;go_wp2_with fail
 refine wp_loop_rounds 3 ?_;rw[rounds_succ];go_wp2_with fail
 rw[rounds_succ];go_wp2_with fail
 rw[rounds_succ];go_wp2_with fail
 go_ret2
 obtain⟨L,hl,hi,hb⟩:=z.o;exact⟨g,q,L,rfl,hl,by rw[k];exact hi,by rw[k];exact hb⟩
end
section
open Go.RowKit Go.Lib Go.Shelf dL Fr Up Nt
variable{l l':List Pt}{F:Nat->Prop}{w w' w5:aA}{C:Cf}{g gf gi iq gs gw:Nat}{k:Kv}{L3:List Ln}
section
theorem Ob.add{p:Pt}(h:Ob l F w)(a:p.X (λb=>b<w.heap.size) w')(hb:aD w w w'):Ob (l++ [p]) F w':=by
 obtain⟨c,h⟩:=h;exact⟨_,(h.add p a hb).1⟩
theorem Ob.reorder(σ τ:Nat->Nat)(h:Ob l F w)(hs:∀i p,l'[i]?=some p->l[σ i]?=some p/\τ (σ i)=i):Ob l' F w:=by
 obtain⟨a,hF,d⟩:=h;refine⟨λb=>match a b with|0=>0|k+1=>τ k+1,λb hb=>⟨(hF b hb).1,by simp only;rw[(hF b hb).2]⟩,λi p hp=>?_⟩;obtain⟨h1,e⟩:=hs i p hp;refine p.cH _ (λ_=>True) _ w w (d (σ i) p h1) (Kp.refl _ _) (λ_ _ _=>trivial) (Fo.ol _ _ _) (λr f g hf=>?_);have j:a r=σ i+1:=acD λhc=>g ⟨f,hc⟩
 have c:=hf.2;simp only[j,e] at c;exact c rfl
def D4:Cf:=⟨List.replicate 128 D8,0⟩
def DK:List Vc:=List.replicate 8 ⟨List.replicate 16 0,0⟩
def pH:Nat->Cf
 |0=>D4
 |i+1=>if i=0 then(dB (pH i) 0 (i:Nat) 3 (i:Nat) 15 0).2 else(dB (dB (pH i) 0 (i:Nat) 3 (i:Nat) 15 0).2 (i:Nat) 0 3 0 2 0).2
def wH:Nat->Cf
 |0=>pH 4
 |i+1=>(dB (wH i) 0 (8+(i:Nat)) 2 (i:Nat) 15 0).2
def tN:Nat->Sd
 |0=>A7 4
 |i+1=>jZ (tN i) (i:Nat) true
def oP(p:Nat×Nat):Kv:=⟨wH 2,vR 6, [], [],DK,tN 4,0,p⟩
theorem B0(h:0<=C.n)(e s kd ob rt pf:Int):0<=(dB C e s kd ob rt pf).2.n/\(dB C e s kd ob rt pf).2.n<=C.n+1:=by
 unfold dB;split
 .exact⟨h,by show C.n<=C.n+1;omega⟩
 .split
  .exact⟨h,by show C.n<=C.n+1;omega⟩
  .split
   .exact⟨h,by show C.n<=C.n+1;omega⟩
   .exact⟨by show 0<=C.n+1;omega,by show C.n+1<=C.n+1;omega⟩
theorem Q1:∀i,0<=(pH i).n/\(pH i).n<=2 *i
 |0=>⟨adL _,adL _⟩
 |i+1=>by
  have h:=Q1 i;have h1:=B0 h.1 0 (i:Nat) 3 (i:Nat) 15 0;have a:=B0 h1.1 (i:Nat) 0 3 0 2 0;unfold pH;split <;> omega
theorem ZV:∀i,0<=(wH i).n/\(wH i).n<=8+i
 |0=>by
  have h:=Q1 4;exact⟨h.1,by show(pH 4).n<=_;omega⟩
 |i+1=>by
  have h:=ZV i;have h1:=B0 h.1 0 (8+(i:Nat)) 2 (i:Nat) 15 0;unfold wH;omega
theorem UZ:∀i,gQ (tN i)/\(tN i).P.length=4/\(tN i).nw=0
 |0=>⟨gQ.new aQ aQ,rfl,rfl⟩
 |i+1=>by
  obtain⟨h1,a,b⟩:=UZ i;unfold tN jZ;split
  .exact⟨h1.EY _ _,by show(List.modify _ _ _).length=4;rw[adI];exact a,b⟩
  .exact⟨h1,a,b⟩
theorem FO{a:Ka}(h:bT F w g a k)(f:0<=k.c.n/\k.c.n<=1000000000000)(e s kd ob rt:Int):aG prog 141 #[.pointer a.gc,e,s, .agg #[kd,ob,rt]] w λr w'=>∃v:Int,r= .returned (.int .i64 v)/\bT F w' g a {k with c:=(dB k.c e s kd ob rt 0).2}/\Kp F w w':=by
 obtain⟨G,i,back⟩:=h.cp;refine(PZ i f e s kd ob rt).mono ?_;rintro r w' ⟨rfl,b,d⟩;exact⟨_,rfl,(back _ _ b d).1,(back _ _ b d).2⟩
theorem Jq(w:aA):jO (λb=>b<w.heap.size) (w.alloc (aI #[bH,aU,aU] 314)) w.heap.size []:=
 ⟨none,0,0,0,⟨bE.new w _ _,bI.nil _ _ _⟩,λb hb=>abO hb (aX w _).size,adH _,λq hq=>by cases hq⟩
theorem Ae(w:aA):eQ (λb=>b<w.heap.size) (w.alloc (aI (r6 D4).toArray 318)) w D4:=
 ⟨bE.new w _ _,ad6,λb hb=>abO hb (aX w _).size,adH _⟩
theorem XE(w:aA):vK (λb=>b<w.heap.size) (w.alloc (aI (AK none 0 0 DK).toArray 179)) w.heap.size [] DK:=
 ⟨none,0,⟨bE.new w _ _,bI.nil _ _ _,ad6,λv a=>by rw[ac5 a];exact⟨ad6,cE⟩⟩,λb hb=>abO hb (aX w _).size,adH _,λq hq=>by cases hq⟩
def UK:List vA:=List.replicate 8 ⟨none,0, [],0⟩
theorem YK(w:aA):u7 (λb=>b<w.heap.size) (w.alloc (aI (UK.flatMap vY).toArray 324)) w.heap.size:=by
 have a:∀(i:Nat) (hi:i<UK.length),UK[i]=⟨none,0, [],0⟩:=λi hi=>ae0 ..
 refine⟨UK.map vI,⟨UK,⟨ad6,bE.new w _ _,λi hi=>?_,λi j hi d _=>?_⟩,rfl,λb hb=>⟨abO hb (aX w _).size,λe=>by omega,λr a=>?_⟩⟩,rfl,λr a=>?_⟩
 .rw[a i hi];exact bI.nil _ _ _
 .rw[a i hi];exact .inl rfl
 .rw[ac5 a];exact λe=>by cases e
 .obtain⟨x,c,rfl⟩:=ad3.1 a;rw[ac5 c];exact abX _
theorem By:zeroCells318=(r6 D4).toArray:=aV
theorem WW:zeroCells179=(AK none 0 0 DK).toArray:=aV
theorem As(h:Ob ([T5 gf (vR 6)]++ [Z9 gi iq L3]++ [Da gs (A7 4)]++ [RP gw 0]) F w5)(hl:L3.length=2):
 bT F (((((w5.alloc (aI #[bH,aU,aU] 314)).alloc (aI zeroCells318 318)).alloc (aI #[bH,aU,bH,aU,bH,aU,bH,aU,bH,aU,bH,aU,bH,aU,bH,aU] 324)).alloc (aI zeroCells179 179)).alloc (aI #[.pointer gf, .pointer w5.heap.size, .pointer (some ⟨w5.heap.size+1,0,none⟩), .pointer gi, .pointer (some ⟨w5.heap.size+1+1,0,none⟩), .pointer (some ⟨w5.heap.size+1+1+1,0,none⟩), .pointer gs, .int .i64 6, .int .i64 2, .int .i64 4, .pointer gw,aU,aU,aU,aU,aU,aU,aU,aU,aU,aU,aU,aU,aU,aU,aU,aU] 64)) (w5.heap.size+1+1+1+1) ⟨gf,w5.heap.size,w5.heap.size+1,gi,w5.heap.size+1+1,w5.heap.size+1+1+1,gs,gw,List.replicate 8 0,List.replicate 8 0,iq,L3⟩ ⟨D4,vR 6, [], [],DK,A7 4,0,(w5.heap.size,gf)⟩:=by
 rw[By,WW];have q:=h.add (p:=Lp w5.heap.size []) (Jq w5) (aX w5 _);have j:(w5.alloc (aI #[bH,aU,aU] 314)).heap.size=w5.heap.size+1:=aT;generalize w5.alloc (aI #[bH,aU,aU] 314)=a at *;have k:=q.add (p:=UP a D4) (Ae a) (aX a _);have l:(a.alloc (aI (r6 D4).toArray 318)).heap.size=w5.heap.size+1+1:=by rw[<-j];simp
 rw[j] at k;generalize a.alloc (aI (r6 D4).toArray 318)=c at *;have g:=k.add (p:=Ks c) (YK c) (aX c _);rw[l] at g;have r:(aI (UK.flatMap vY).toArray 324)=(aI #[bH,aU,bH,aU,bH,aU,bH,aU,bH,aU,bH,aU,bH,aU,bH,aU] 324):=rfl;rw[r] at g;have m:(c.alloc (aI #[bH,aU,bH,aU,bH,aU,bH,aU,bH,aU,bH,aU,bH,aU,bH,aU] 324)).heap.size=w5.heap.size+1+1+1:=by rw[<-l];simp
 generalize c.alloc (aI #[bH,aU,bH,aU,bH,aU,bH,aU,bH,aU,bH,aU,bH,aU,bH,aU] 324)=d at *;have o:=g.add (p:=UB d.heap.size [] DK) (XE d) (aX d _);rw[m] at o;have z9:(d.alloc (aI (AK none 0 0 DK).toArray 179)).heap.size=w5.heap.size+1+1+1+1:=by rw[<-m];simp
 generalize d.alloc (aI (AK none 0 0 DK).toArray 179)=f at *;have e:=o.add (p:=PB f.heap.size 64 (kL ⟨gf,w5.heap.size,w5.heap.size+1,gi,w5.heap.size+1+1,w5.heap.size+1+1+1,gs,gw,List.replicate 8 0,List.replicate 8 0,iq,L3⟩).toArray) ⟨bE.new f _ _,λb hb=>abO hb (aX f _).size,adH _⟩ (aX f _);rw[z9] at e;refine⟨Ob.reorder (λi=>match i with|0=>8|1=>0|2=>4|3=>5|4=>1|5=>6|6=>7|7=>2|_=>3) (λi=>match i with|8=>0|0=>1|4=>2|5=>3|1=>4|6=>5|7=>6|2=>7|_=>8) e (λi p hp=>?_),rfl,rfl,hl,rfl⟩;match i,hp with
 |0,hp=>exact⟨hp,rfl⟩
 |1,hp=>exact⟨hp,rfl⟩
 |2,hp=>exact⟨hp,rfl⟩
 |3,hp=>exact⟨hp,rfl⟩
 |4,hp=>exact⟨hp,rfl⟩
 |5,hp=>exact⟨hp,rfl⟩
 |6,hp=>exact⟨hp,rfl⟩
 |7,hp=>exact⟨hp,rfl⟩
 |8,hp=>exact⟨hp,rfl⟩
 |n+9,hp=>simp[Le] at hp
def Bo(p:Nat×Nat)(i:Nat):Kv:=⟨pH i,vR 6, [], [],DK,tN i,0,p⟩
def U1(p:Nat×Nat)(i:Nat):Kv:=⟨wH i,vR 6, [], [],DK,tN 4,0,p⟩
theorem UY(h:0<=C.n/\C.n<=1000000)(i:Nat){p:Nat×Nat}:KW ⟨C,vR 6, [], [],DK,tN i,0,p⟩:=
 ⟨abX _,abX _,⟨h.1,by show C.n<=1000000000;omega⟩,(UZ i).1,λx a=>(by cases a),abX _⟩
theorem Gv(p:Nat×Nat)(i:Nat):Bo p (i+1)=⟨if i=0 then(dB (pH i) 0 (i:Nat) 3 (i:Nat) 15 0).2 else(dB (dB (pH i) 0 (i:Nat) 3 (i:Nat) 15 0).2 (i:Nat) 0 3 0 2 0).2,vR 6, [], [],DK,jZ (tN i) (i:Nat) true,0,p⟩:=rfl
theorem Jt(w:aA):aG prog 98 #[.agg #[.int .i64 6, .int .i64 2, .int .i64 4]] w λe w'=>∃g p0,e= .returned (.tuple #[.pointer (some ⟨g,0,none⟩),aU])/\KM (λb=>b<w.heap.size) w' g (oP p0)/\aD w w w':=by
 have T:=aX w (aI #[.int .i64 6, .int .i64 2, .int .i64 4] 60);have xb:=bE.new w 60 #[.int .i64 6, .int .i64 2, .int .i64 4];have G:aH (Ob [] (λb=>b<(w.alloc (aI #[.int .i64 6, .int .i64 2, .int .i64 4] 60)).heap.size) (w.alloc (aI #[.int .i64 6, .int .i64 2, .int .i64 4] 60))):=Ob.none (λb hb=>hb) (λb hb=>hb);have H:aH (w.heap.size<(w.alloc (aI #[.int .i64 6, .int .i64 2, .int .i64 4] 60)).heap.size):=by unfold aH;simp
 have I:=aP T;clear T;go_enter func98,ntmps98
 go_upto_region 1 with(fail)
 generalize w.alloc (aI #[.int .i64 6, .int .i64 2, .int .i64 4] 60)=J at *;generalize hq:w.heap.size=q at *;obtain⟨n1,U⟩:∃n,n=J.heap.size:=⟨_,rfl⟩
 rw[<-U] at G H;clear U;have x0:=xb.cell 0 (.int .i64 6) rfl;have V:aH (aG prog 137 #[.int .i64 6] J (Jy 6 J)):=Ox 6 J aQ aQ;have W:=aP xb;clear xb;go_wp2_with fail
 refine aR V ?_;rintro e w2 ⟨rfl,X,d⟩;have Y:aH (Ob [T5 J (vR 6)] (λb=>b<n1) w2):=G.o.add (p:=T5 J (vR 6)) ⟨X,λb hb=>abO hb d.size,adH _⟩ d;have K:=aP (W.o.keep d);have L:aH (aD q w w2):=I.o.trans (d.mono (by have:=I.o.size;omega));clear X d G V x0 W I;generalize J.heap.size=gf at *;have M:=K.o.cell 1 (.int .i64 2) rfl;have Z:=aP (Eh w2);go_wp2_with fail
 refine aR Z ?_;rintro e w3 ⟨gi,iq,L3,rfl,a6,a7,u⟩;have a8:=aP (Y.o.add (p:=Z9 gi iq L3) a7 u);have N:=aP (K.o.keep u);have O:aH (aD q w w3):=L.o.trans (u.mono (by have:=L.o.size;omega));have HL3:=aP a6;clear a7 u a6 Y Z M K L;have x2:=N.o.cell 2 (.int .i64 4) rfl;have HSd:=aP (SL w3);go_wp2_with fail
 refine aR HSd ?_;rintro e w4 ⟨gs,rfl,hs4,x⟩;have HO4:=aP (a8.o.add (p:=Da gs (A7 4)) hs4 x);have HX4:=aP (N.o.keep x);have P:aH (aD q w w4):=O.o.trans (x.mono (by have:=O.o.size;omega));clear hs4 x a8 HSd x2 N O;have HWh:=aP (Iw w4);go_wp2_with fail
 refine aR HWh ?_;rintro e w5 ⟨gw,rfl,_,hw5,y⟩;have HO5:=aP (HO4.o.add (p:=RP gw 0) hw5 y);have f:=aP (HX4.o.keep y);have z:aH (aD q w w5):=P.o.trans (y.mono (by have:=P.o.size;omega));clear hw5 y HO4 HWh HX4 P;have x0:=f.o.cell 0 (.int .i64 6) rfl;have M:=f.o.cell 1 (.int .i64 2) rfl;have x2:=f.o.cell 2 (.int .i64 4) rfl;have a:=(((aX w5 (aI #[bH,aU,aU] 314)).alloc (aX _ _).size (aI zeroCells318 318)).alloc ((aX _ _).alloc (aX _ _).size _).size (aI #[bH,aU,bH,aU,bH,aU,bH,aU,bH,aU,bH,aU,bH,aU,bH,aU] 324)).alloc (((aX _ _).alloc (aX _ _).size _).alloc ((aX _ _).alloc (aX _ _).size _).size _).size (aI zeroCells179 179);have y0:=bK a x0;have y1:=bK a M;have y2:=bK a x2;have HK:=aP (As HO5.o HL3.o);have HX9:=f.o.keep a;have h:=aX ((((w5.alloc (aI #[bH,aU,aU] 314)).alloc (aI zeroCells318 318)).alloc (aI #[bH,aU,bH,aU,bH,aU,bH,aU,bH,aU,bH,aU,bH,aU,bH,aU] 324)).alloc (aI zeroCells179 179)) (aI #[.pointer gf, .pointer w5.heap.size, .pointer (some ⟨w5.heap.size+1,0,none⟩), .pointer gi, .pointer (some ⟨w5.heap.size+1+1,0,none⟩), .pointer (some ⟨w5.heap.size+1+1+1,0,none⟩), .pointer gs, .int .i64 6, .int .i64 2, .int .i64 4, .pointer gw,aU,aU,aU,aU,aU,aU,aU,aU,aU,aU,aU,aU,aU,aU,aU,aU] 64);have c:=aP (HX9.keep h);have HB10:aH (aD q w (((((w5.alloc (aI #[bH,aU,aU] 314)).alloc (aI zeroCells318 318)).alloc (aI #[bH,aU,bH,aU,bH,aU,bH,aU,bH,aU,bH,aU,bH,aU,bH,aU] 324)).alloc (aI zeroCells179 179)).alloc (aI #[.pointer gf, .pointer w5.heap.size, .pointer (some ⟨w5.heap.size+1,0,none⟩), .pointer gi, .pointer (some ⟨w5.heap.size+1+1,0,none⟩), .pointer (some ⟨w5.heap.size+1+1+1,0,none⟩), .pointer gs, .int .i64 6, .int .i64 2, .int .i64 4, .pointer gw,aU,aU,aU,aU,aU,aU,aU,aU,aU,aU,aU,aU,aU,aU,aU,aU] 64))):=z.o.trans (((a.mono (by have:=z.o.size;omega))).trans (h.mono (by have:=z.o.size;have:=a.size;omega)));clear HX9 h a;go_upto_region 14 with(fail)
 generalize (((((w5.alloc (aI #[bH,aU,aU] 314)).alloc (aI zeroCells318 318)).alloc (aI #[bH,aU,bH,aU,bH,aU,bH,aU,bH,aU,bH,aU,bH,aU,bH,aU] 324)).alloc (aI zeroCells179 179)).alloc (aI #[.pointer gf, .pointer w5.heap.size, .pointer (some ⟨w5.heap.size+1,0,none⟩), .pointer gi, .pointer (some ⟨w5.heap.size+1+1,0,none⟩), .pointer (some ⟨w5.heap.size+1+1+1,0,none⟩), .pointer gs, .int .i64 6, .int .i64 2, .int .i64 4, .pointer gw,aU,aU,aU,aU,aU,aU,aU,aU,aU,aU,aU,aU,aU,aU,aU,aU] 64))=w10 at *;have M:=c.o.cell 1 (.int .i64 2) rfl;have x2:=c.o.cell 2 (.int .i64 4) rfl;clear y0 y1 y2 HO5 f z;have Q:aH (KM (λb=>b<n1) w10 (w5.heap.size+1+1+1+1) (Bo (w5.heap.size,gf) 0)/\Kp (λb=>b<n1) w10 w10):=⟨⟨_,HK.o⟩,Kp.refl _ _⟩
 clear HK;generalize (w5.heap.size,gf)=p0 at Q;generalize w5.heap.size+1+1+1+1=g at *;have HX:=c;clear c;go_wp2_with fail
 go_loopw [64] (λv64 wr=>∃i:Nat,v64= .int .i64 i/\i<=4/\aH (KM (λb=>b<n1) wr g (Bo p0 i)/\Kp (λb=>b<n1) w10 wr)) (λv64 _=>4 - (aL v64).toNat)
 case atStart=>exact⟨0,rfl,abX _,Q.o⟩
 case round=>
  clear Q M x2;obtain⟨i,rfl,hi,D⟩:=hrel;obtain⟨⟨a1,h1⟩,hK⟩:=D.o;clear D;by_cases hi4:i<4
  .have i4:(i:Int)<4:=aQ;have hen:=Q1 i;have A:aH (0<=(dB (pH i) 0 (i:Nat) 3 (i:Nat) 15 0).2.n/\(dB (pH i) 0 (i:Nat) 3 (i:Nat) 15 0).2.n<=100):=by
    have:=B0 hen.1 0 (i:Nat) 3 (i:Nat) 15 0;unfold aH;omega
   have k:=aP (FO h1 (by show 0<=(pH i).n/\(pH i).n<=_;omega) 0 (i:Nat) 3 (i:Nat) 15);have pc:=h1.pc;unfold pA at pc;have l:=aP hK;clear h1 hK hen;go_wp2_with fail
   refine aR k ?_;rintro e R ⟨v1,rfl,t,k2⟩;have E:=bP t (l.o.trans k2);clear t k2 k l pc;have pc:=E.o.1.pc;have ps:=E.o.1.ps;unfold pA at pc ps;by_cases B:i=0
   .subst B;have m:=aP (DC E.o.1 (UY ⟨A.o.1,by have:=A.o.2;omega⟩ 0) (0:Int) true);go_wp2_with fail
    refine aR m ?_;rintro e S ⟨rfl,r,k3⟩;have F:aH (KM (λb=>b<n1) S g (Bo p0 1)/\Kp (λb=>b<n1) w10 S):=⟨⟨a1,r⟩,E.o.2.trans k3⟩
    clear r k3 m E;go_wp2_with fail
    go_roundw
    case rel=>exact⟨1,by go_num,aQ,F.o⟩
    case measure=>simp[aL]
   .have hib:((i:Int) !=0)=true:=by simp[B]
    have HR2:=aP (FO E.o.1 (by have:=A.o;show 0<=(dB (pH i) 0 (i:Nat) 3 (i:Nat) 15 0).2.n/\(dB (pH i) 0 (i:Nat) 3 (i:Nat) 15 0).2.n<=_;omega) (i:Nat) 0 3 0 2);have HI0:=aP B;clear B;go_wp2_with fail
    refine aR HR2 ?_;rintro e S ⟨v2,rfl,r,k3⟩;have H3:=bP r (E.o.2.trans k3);clear r k3 HR2 E pc ps;have ps:=H3.o.1.ps;unfold pA at ps;have m:=aP (DC H3.o.1 (UY (C:=(dB (dB (pH i) 0 (i:Nat) 3 (i:Nat) 15 0).2 (i:Nat) 0 3 0 2 0).2) (by have h5:=A.o;have:=B0 h5.1 (i:Nat) 0 3 0 2 0;omega) i) (i:Nat) true);go_wp2_with fail
    refine aR m ?_;rintro e w13 ⟨rfl,h4,k4⟩;have F:aH (KM (λb=>b<n1) w13 g (Bo p0 (i+1))/\Kp (λb=>b<n1) w10 w13):=by
     unfold aH;rw[Gv,abQ HI0.o];exact⟨⟨a1,h4⟩,H3.o.2.trans k4⟩
    clear h4 k4 m H3;go_wp2_with fail
    go_roundw
    case rel=>exact⟨i+1,by go_num,aQ,F.o⟩
    case measure=>simp[aL];omega
  .obtain rfl:i=4:=aQ;have HQ2:aH (KM (λb=>b<n1) wr g (U1 p0 0)/\Kp (λb=>b<n1) w10 wr):=⟨⟨a1,h1⟩,hK⟩
   clear h1 hK hi hi4;go_wp2_with fail
   go_loopw [91] (λv91 wz=>∃i:Nat,v91= .int .i64 i/\i<=8/\aH (KM (λb=>b<n1) wz g (U1 p0 0)/\Kp (λb=>b<n1) w10 wz)) (λv91 _=>8 - (aL v91).toNat)
   case atStart=>exact⟨0,rfl,abX _,HQ2.o⟩
   case round=>
    clear HQ2;obtain⟨i,rfl,hi,D⟩:=hrel;obtain⟨⟨a2,t⟩,hK⟩:=D.o;clear D;by_cases hi8:i<8
    .have i8:(i:Int)<8:=aQ;obtain⟨v,hc⟩:=t.bound (i:=i) hi8;have fz:=t.fz (19+i);have HS:aH (KM (λb=>b<n1) (wr.setCell ⟨g,19+i,none⟩ (.int .i64 (-1))) g (U1 p0 0)/\Kp (λb=>b<n1) w10 (wr.setCell ⟨g,19+i,none⟩ (.int .i64 (-1)))):=⟨(t.store (19+i) aQ (-1)).1,hK.trans (t.store (19+i) aQ (-1)).2⟩
     clear t hK;go_wp2_with fail
     go_roundw
     case rel=>exact⟨i+1,by go_num,aQ,HS.o⟩
     case measure=>simp[aL];omega
    .obtain rfl:i=8:=aQ;have M:wr.cell? (q,1)=some (.int .i64 2):=hK.cell (HX.o.cell 1 (.int .i64 2) rfl) H.o;have HQ3:aH (KM (λb=>b<n1) wr g (U1 p0 0)/\Kp (λb=>b<n1) w10 wr):=⟨⟨a2,t⟩,hK⟩
     clear t hK hi hi8;go_wp2_with fail
     go_loopw [102] (λs wz=>∃i:Nat,s= .int .i64 i/\i<=2/\aH (KM (λb=>b<n1) wz g (U1 p0 i)/\Kp (λb=>b<n1) w10 wz)) (λs _=>2 - (aL s).toNat)
     case atStart=>exact⟨0,rfl,abX _,HQ3.o⟩
     case round=>
      clear HQ3 M;obtain⟨i,rfl,hi,D⟩:=hrel;obtain⟨⟨a3,r⟩,hK⟩:=D.o;clear D;by_cases hi2:i<2
      .have i2:(i:Int)<2:=aQ;have hln:=ZV i;have k:=aP (FO r (by show 0<=(wH i).n/\(wH i).n<=_;omega) 0 (8+(i:Nat)) 2 (i:Nat) 15);have pc:=r.pc;unfold pA at pc;have l:=aP hK;clear r hK hln;go_wp2_with fail
       refine aR k ?_;rintro e R ⟨v1,rfl,h4,k4⟩;have F:aH (KM (λb=>b<n1) R g (U1 p0 (i+1))/\Kp (λb=>b<n1) w10 R):=⟨⟨a3,h4⟩,l.o.trans k4⟩
       clear h4 k4 k l;go_wp2_with fail
       go_roundw
       case rel=>exact⟨_, .int .i64 ((i:Int)+1),_,_,_,_,_,_,_,_,_,_,_,_,⟨i+1,by go_num,aQ,F.o⟩,rfl⟩
       case measure=>simp[aL];omega
      .obtain rfl:i=2:=aQ;have F:aH (KM (λb=>b<w.heap.size) wr g (oP p0)/\aD w w wr):=by
        have hb:=HB10.o;have hq1:=H.o;rw[hq];exact⟨⟨a3,r.less (λb hb=>by omega)⟩,⟨hK.os.trans hb.os,hK.tape.trans hb.tape,hK.output.trans hb.output,abT hb.size hK.size,λj hj=>(hK.block j aQ).trans (hb.block j hj)⟩⟩
       clear r hK;go_wp2_with fail
       go_ret2
       exact⟨g,p0,rfl,F.o.1,F.o.2⟩
end
variable{i m:Nat}{G:Nat->Prop}{a:Ka}
section
def CE(g:Nat)(c:Int)(bs:List Bool):List Value:= [pA g, .int .i64 c]++bs.map Value.bool
def Bn(g:Nat)(a:Ka)(k:Kv):Pt:=⟨λF w=>bT F w g a k,bT.cH g a k⟩
def Sa(m g:Nat)(c:Int)(bs:List Bool)(a:Ka)(k:Kv):List Pt:= [PB m 142 (CE g c bs).toArray,Bn g a k]
structure iQ(F:Nat->Prop)(w:aA)(m g:Nat)(c:Int)(bs:List Bool)(a:Ka)(k:Kv):Prop where
 o:Ob (Sa m g c bs a k) F w
 b8:bs.length=8
def gH(F:Nat->Prop)(w:aA)(m g:Nat)(c:Int)(k:Kv):Prop:=∃bs a,iQ F w m g c bs a k
theorem iQ.cH(m g:Nat)(c:Int)(bs:List Bool)(a:Ka)(k:Kv):dV (λF w=>iQ F w m g c bs a k):=λF G H w w' h x b fl hH=>⟨Ob.cH _ F G H w w' h.o x b fl hH,h.b8⟩
theorem gH.cH(m g:Nat)(c:Int)(k:Kv):dV (λF w=>gH F w m g c k):=λF G H w w' ⟨bs,a,h⟩ x b fl hH=>⟨bs,a,iQ.cH m g c bs a k F G H w w' h x b fl hH⟩
section
variable{F:Nat->Prop}{w w':aA}{m g:Nat}{c:Int}{bs:List Bool}{a:Ka}{k:Kv}
theorem iQ.fl(h:iQ F w m g c bs a k):Ol F w:=h.o.fl
theorem iQ.below(h:iQ F w m g c bs a k)(hb:aD w w w'):iQ F w' m g c bs a k/\Kp F w w':=⟨⟨h.o.below hb,h.b8⟩,h.o.NV hb⟩
theorem iQ.bk(h:iQ F w m g c bs a k):bE w m 142 (CE g c bs).toArray:=by
 obtain⟨d,h1⟩:=h.o;exact(h1.get 0 (p:=PB m 142 (CE g c bs).toArray) rfl).b
theorem iQ.c0(h:iQ F w m g c bs a k):w.cell? (m,0)=some (.pointer g):=h.bk.cell 0 _ rfl
theorem iQ.c1(h:iQ F w m g c bs a k):w.cell? (m,1)=some (.int .i64 c):=h.bk.cell 1 _ rfl
theorem iQ.cb(h:iQ F w m g c bs a k)(hi:i<8):∃b:Bool,w.cell? (m,2+i)=some (.bool b):=by
 have hl:=h.b8;refine⟨bs[i]'(by omega),h.bk.cell (2+i) _ ?_⟩;rw[ab5,CE,abZ aT];simp[show 2+i - 2=i by omega,hl,hi]
theorem iQ.fz(h:iQ F w m g c bs a k)(i:Nat):w.frozen? (m,i)=false:=h.bk.frozen i
theorem iQ.set(h:iQ F w m g c bs a k)(hi:i<8)(b:Bool):iQ F (w.setCell (m,2+i) (.bool b)) m g c (bs.set i b) a k/\Kp F w (w.setCell (m,2+i) (.bool b)):=by
 obtain⟨G,d,back⟩:=h.o.use 0 _ rfl;obtain⟨s1,s2⟩:=mR.set (cs':=(CE g c (bs.set i b)).toArray) d (2+i) (.bool b) (by
  rw[abN];congr 1
  unfold CE;rw[ab7 _ _ aT,adP];simp)
 obtain⟨b1,b2⟩:=back (PB m 142 (CE g c (bs.set i b)).toArray) _ s1 s2;exact⟨⟨b1,by simp[h.b8]⟩,b2⟩
theorem iQ.kn(h:iQ F w m g c bs a k):∃G,bT G w g a k/\(∀(a':Ka) (k':Kv) (w':aA),bT G w' g a' k'->Kp G w w'->iQ F w' m g c bs a' k'/\Kp F w w'):=by
 obtain⟨G,e,back⟩:=h.o.use 1 _ rfl;exact⟨G,e,λa' k' w' b d=>⟨⟨(back (Bn g a' k') w' b d).1,h.b8⟩,(back (Bn g a' k') w' b d).2⟩⟩
theorem iQ.ks(h:iQ F w m g c bs a k):w.cell? (g,6)=some (.pointer a.gs)/\w.cell? (g,4)=some (.pointer a.gr)/\w.cell? (g,3)=some (.pointer a.gi)/\w.cell? (g,7)=some (.int .i64 6)/\w.cell? (g,8)=some (.int .i64 2)/\w.cell? (g,9)=some (.int .i64 4):=by
 obtain⟨G,b,_⟩:=h.kn;exact⟨b.ps,b.pr,b.pi,b.MA⟩
theorem iQ.less(h:iQ F w m g c bs a k)(d:∀b,G b->F b):iQ G w m g c bs a k:=⟨Ob.cH _ F (λ_=>True) G w w h.o (Kp.refl _ _) (λ_ _ _=>trivial) (λb hb=>h.fl b (d b hb)) (λr _ e hf=>e (d r hf)),h.b8⟩
end
theorem SU(h:bT F w g a k)(hw:KW k)(i:Int):aG prog 115 #[.pointer a.gs,i] w λe w'=>(∃pt:Option Nat,e= .returned (.pointer (Ah pt))/\aH (aG prog 116 #[.pointer (Ah pt)] w λe w'=>∃(d:Int) (b:Bool),e= .returned (.tuple #[d,b])/\w=w'))/\w=w':=by
 obtain⟨G,hs,_⟩:=h.sd;refine(V2 hs hw.p8 i).mono ?_;rintro e w' ⟨⟨pt,rfl,h1,j⟩,rfl⟩;refine⟨⟨pt,rfl,?_⟩,rfl⟩;cases f:tQ k.s i with
 |none=>
  rw[h1 f];refine(OU w).mono ?_;rintro e w' ⟨rfl,rfl⟩;exact⟨0,false,rfl,rfl⟩
 |some v=>
  obtain⟨q,rfl,hq⟩:=j v f;have hl:v.ch.length<=4000000:=by
   unfold tQ at f;split at f
   .cases hp:k.s.P[i.toNat]? with
    |none=>rw[hp] at f;cases f
    |some p=>
     rw[hp] at f;have:=(hw.sd.sv p (adF hp) v f).len;omega
   .cases f
  refine(NI hq hl).mono ?_;rintro e w' ⟨rfl,rfl⟩;cases v.ch with
  |nil=>exact⟨0,false,rfl,rfl⟩
  |cons x xs=>exact⟨x.de,true,rfl,rfl⟩
theorem Ew(h:bT F w g a k)(i:Int)(hi:0<=i/\i<8)(kd x b:Int)(hk:1<=kd/\kd<=8):aG prog 117 #[.pointer a.gr,i, .agg #[kd,x, .int .u64 b]] w λe w'=>∃r:Int,e= .returned (.int .i64 r)/\bT F w' g a k/\Kp F w w':=by
 obtain⟨G,j,back⟩:=h.rw;refine(OV j i hi kd x b hk).mono ?_;rintro e w' ⟨r,rfl,d,f⟩;exact⟨r,rfl,(back _ d f).1,(back _ d f).2⟩
theorem C0(W:aA):(Instr.field 60 (.agg #[.int .i64 6, .int .i64 2, .int .i64 4]) 2).run prog W= .ok (.int .i64 4) W:=aV
theorem NG(h:bT F w g a k):aG prog 87 #[.pointer g] w λe w'=>e= .returned (.agg #[.int .i64 6, .int .i64 2, .int .i64 4])/\aD w w w':=by
 obtain⟨c7,c8,c9⟩:=h.MA;have hb:=aX w (aI #[aU,aU,aU] 60);have d7:=bK hb c7;have d8:=bK hb c8;have d9:=bK hb c9;clear h hb;go_enter func87,ntmps87
 go_wp2_with fail
 exact bodyPost_ret (v:= .agg #[.int .i64 6, .int .i64 2, .int .i64 4]) (by simp[results,results87,go_sem]) rfl ⟨rfl,aX _ _⟩
theorem Ff{c:Int}(h:gH F w m g c k)(hw:KW k)(e:Int)(b:Bool):aG prog 78 #[.pointer m, .agg #[e,b]] w λr w'=>r= .returned (.tuple #[])/\gH F w' m g c k/\Kp F w w':=by
 obtain⟨bs,a,h⟩:=h;have D:=aX w (aI #[e,b] 69);have P:=bE.new w 69 #[e,b];have H1:=aP (And.intro ((iQ.cH m g c bs a k).box h h.fl (aI #[e,b] 69)) (h.below D).2);have Y:=aP hw;clear h D hw;go_enter func78,ntmps78
 go_upto_region 1 with(fail)
 generalize w.alloc (aI #[e,b] 69)=w1 at *;generalize w.heap.size=q1 at *;have c0:=H1.o.1.c0;obtain⟨ps,_,_,c7,c8,c9⟩:=H1.o.1.ks;have Q:=aP P;clear P;obtain⟨G,hk,_⟩:=H1.o.1.kn;obtain⟨G2,hs,_⟩:=hk.sd;have R:=aP (tV hs);have E:=aP (NG hk);clear hk hs;go_wp2_with fail
 refine aR R ?_;rintro r B ⟨rfl,rfl⟩;go_wp2_with fail
 refine aR E ?_;rintro r B ⟨rfl,x⟩;have Z:=C0 B;generalize IntKind.u64.wrap k.s.nw=nw at *;have HQ:aH (∃bs a,iQ (Fb F q1) B m g c bs a k/\Kp (Fb F q1) w1 B):=⟨bs,a,(H1.o.1.below x).1,(H1.o.1.below x).2⟩
 clear R E c0 ps c7 c8 c9 x;go_wp2_with fail
 go_loopw [24] (λv24 wr=>∃i:Nat,v24= .int .i64 i/\i<=4/\aH (∃bs a,iQ (Fb F q1) wr m g c bs a k/\Kp (Fb F q1) w1 wr)) (λv24 _=>4 - (aL v24).toNat)
 case atStart=>exact⟨0,rfl,abX _,HQ.o⟩
 case round=>
  clear HQ;obtain⟨i,rfl,hi,S⟩:=hrel;obtain⟨H,a2,n,hK⟩:=S.o;clear S;by_cases a1:i<4
  .have i4:(i:Int)<4:=aQ;have i0:¬(i:Int)<0:=aQ;have i8:(i:Int)<8:=aQ;have c0:=n.c0;obtain⟨T,cb⟩:=n.cb (i:=i) aQ;have fb:=n.fz (2+i);obtain⟨ps,_⟩:=n.ks;have U:=hK.cell (Q.o.cell 0 e rfl) (.inr rfl);have V:=hK.cell (Q.o.cell 1 (.bool b) rfl) (.inr rfl);obtain⟨G,hk,_⟩:=n.kn;have W:=aP (SU hk Y.o (i:Nat));have u:=aP (λv:Bool=>n.set (i:=i) aQ v);have q:=aP hK;have y:q1≠m:=λe1=>by
    obtain⟨ow,X⟩:=n.o;have h5:=(X.get 0 (p:=PB m 142 (CE g c H).toArray) rfl).nf;have:=X.1 q1 (.inr rfl);rw[e1] at this;exact h5 ⟨this.1,by rw[this.2];decide⟩
   clear n hK hk;go_wp2_with fail
   refine aR W ?_;rintro r B ⟨⟨pt,rfl,HD⟩,rfl⟩;clear W;go_wp2_with fail
   refine aR HD ?_;rintro r B ⟨d,has,rfl,rfl⟩;have z:=aP (u.o has);have y0:(wr.setCell (m,2+i) (.bool has)).cell? (q1,0)=some (.int .i64 e):=(dP y).trans U;have y1:(wr.setCell (m,2+i) (.bool has)).cell? (q1,1)=some (.bool b):=(dP y).trans V;clear u HD;go_upto_region 9 with(fail)
   generalize wr.setCell (m,2+i) (.bool has)=w5 at *;clear U V c0 cb fb ps y;obtain⟨_,pr,_⟩:=z.o.1.ks;obtain⟨G5,I,j⟩:=z.o.1.kn;have M:=aP (λ(kd:Int) (N:1<=kd/\kd<=8)=>Ew I (i:Nat) aQ kd 0 nw N);have l:=aP j;have J:aH (aG prog 117 #[.pointer a2.gr, .int .i64 (i:Nat), .agg #[.int .i64 3,aU, .int .u64 nw]] w5 λe w'=>∃r:Int,e= .returned (.int .i64 r)/\aH (∃bs a,iQ (Fb F q1) w' m g c bs a k/\Kp (Fb F q1) w1 w')):=(M.o 3 aQ).mono (by
    rintro r C ⟨v,rfl,K,L⟩;exact⟨v,rfl,_,_,(l.o _ _ _ K L).1,(q.o.trans z.o.2).trans (l.o _ _ _ K L).2⟩)
   have A:aH (aG prog 117 #[.pointer a2.gr, .int .i64 (i:Nat), .agg #[.int .i64 4,aU, .int .u64 nw]] w5 λe w'=>∃r:Int,e= .returned (.int .i64 r)/\aH (∃bs a,iQ (Fb F q1) w' m g c bs a k/\Kp (Fb F q1) w1 w')):=(M.o 4 aQ).mono (by
    rintro r C ⟨v,rfl,K,L⟩;exact⟨v,rfl,_,_,(l.o _ _ _ K L).1,(q.o.trans z.o.2).trans (l.o _ _ _ K L).2⟩)
   have t:aH (∃bs a,iQ (Fb F q1) w5 m g c bs a k/\Kp (Fb F q1) w1 w5):=⟨_,_,z.o.1,q.o.trans z.o.2⟩
   clear I j M l z q;cases has with
   |true=>
    cases T with
    |true=>
     cases b with
     |true=>
      go_wp2_with fail
      go_roundw
      case rel=>exact⟨i+1,by go_num,aQ,t.o⟩
      case measure=>simp[aL];omega
     |false=>
      go_wp2_with fail
      go_roundw
      case rel=>exact⟨i+1,by go_num,aQ,t.o⟩
      case measure=>simp[aL];omega
    |false=>
     cases b with
     |true=>
      go_wp2_with fail
      refine aR J ?_;rintro r C ⟨v,rfl,f⟩;go_wp2_with fail
      go_roundw
      case rel=>exact⟨i+1,by go_num,aQ,f.o⟩
      case measure=>simp[aL];omega
     |false=>
      go_wp2_with fail
      refine aR J ?_;rintro r C ⟨v,rfl,f⟩;go_wp2_with fail
      go_roundw
      case rel=>exact⟨i+1,by go_num,aQ,f.o⟩
      case measure=>simp[aL];omega
   |false=>
    cases T with
    |true=>
     cases b with
     |true=>
      go_wp2_with fail
      refine aR A ?_;rintro r C ⟨v,rfl,f⟩;go_wp2_with fail
      go_roundw
      case rel=>exact⟨i+1,by go_num,aQ,f.o⟩
      case measure=>simp[aL];omega
     |false=>
      go_wp2_with fail
      refine aR A ?_;rintro r C ⟨v,rfl,f⟩;go_wp2_with fail
      go_roundw
      case rel=>exact⟨i+1,by go_num,aQ,f.o⟩
      case measure=>simp[aL];omega
    |false=>
     cases b with
     |true=>
      by_cases he:e=(i:Int)
      .have O:(e==(i:Int))=true:=by simp[he]
       clear he;go_wp2_with fail
       refine aR A ?_;rintro r C ⟨v,rfl,f⟩;go_wp2_with fail
       go_roundw
       case rel=>exact⟨i+1,by go_num,aQ,f.o⟩
       case measure=>simp[aL];omega
      .have O:(e==(i:Int))=false:=by simp[he]
       clear he;go_wp2_with fail
       go_roundw
       case rel=>exact⟨i+1,by go_num,aQ,t.o⟩
       case measure=>simp[aL];omega
     |false=>
      go_wp2_with fail
      go_roundw
      case rel=>exact⟨i+1,by go_num,aQ,t.o⟩
      case measure=>simp[aL];omega
  .obtain rfl:i=4:=aQ;have f:aH (gH F wr m g c k/\Kp F w wr):=⟨⟨H,a2,n.less (λb hb=> .inl hb)⟩,H1.o.2.trans (hK.mono λb hb=> .inl hb)⟩
   clear n hK;go_wp2_with fail
   go_end0
   exact⟨rfl,f.o.1,f.o.2⟩
end
variable{C':Cf}{e rt:Int}{i0:Nat}
section
theorem jF{a b:Int}(ha:0<=a/\a<=15)(hb:0<=b/\b<=15):dX a b=((a.toNat &&& b.toNat:Nat):Int)/\bits .or .i64 a b=((a.toNat ||| b.toNat:Nat):Int):=by
 obtain⟨x,rfl⟩:=abR ha.1;obtain⟨y,rfl⟩:=abR hb.1;exact bits_nat .i64 4 cE (λn c h1=>by rw[IntKind.wrap_i64];omega) x y aQ aQ
theorem xB{a b c:Int}(ha:0<=a/\a<=15)(hb:0<=b/\b<=15)(hc:0<=c/\c<=15)(h1:dX a b=b)(d:dX b c=c):dX a c=c:=by
 rw[(jF ha hb).1] at h1;rw[(jF hb hc).1] at d;rw[(jF ha hc).1];have e:a.toNat &&& b.toNat=b.toNat:=aQ;have f:b.toNat &&& c.toNat=c.toNat:=aQ;have g:a.toNat &&& c.toNat=c.toNat:=by rw[<-f,<-Nat.and_assoc,e]
 omega
def Oc(C:Cf)(i:Nat):Prop:=i<128/\(bG C i).nu≠0
structure CI(C:Cf):Prop where
 len:C.S.length=128
 n0:0<=C.n
 nu:∀i,Oc C i->1<=(bG C i).nu/\(bG C i).nu<=C.n
 inj:∀i j,Oc C i->Oc C j->(bG C i).nu=(bG C j).nu->i=j
 rt:∀i,Oc C i->0<=(bG C i).rt/\(bG C i).rt<=15
 pf:∀i,Oc C i->0<=(bG C i).pf/\(bG C i).pf<=C.n
 ch:∀i j,Oc C i->Oc C j->(bG C i).pf=(bG C j).nu->(bG C i).kd=(bG C j).kd/\(bG C i).ob=(bG C j).ob/\dX (bG C j).rt (bG C i).rt=(bG C i).rt
structure nC(C' C:Cf):Prop where
 len:C'.S.length=C.S.length
 n:C'.n=C.n
 s:∀i,Oc C' i->Oc C i/\bG C' i=bG C i
theorem CI.sub(h:CI C)(s:nC C' C):CI C':=by
 refine⟨s.len.trans h.len,by rw[s.n];exact h.n0,λi hi=>?_,λi j hi a e=>?_,λi hi=>?_,λi hi=>?_,λi j hi a e=>?_⟩
 .obtain⟨o,e⟩:=s.s i hi;rw[e,s.n];exact h.nu i o
 .obtain⟨o,b⟩:=s.s i hi;obtain⟨o2,c⟩:=s.s j a;rw[b,c] at e;exact h.inj i j o o2 e
 .obtain⟨o,e⟩:=s.s i hi;rw[e];exact h.rt i o
 .obtain⟨o,e⟩:=s.s i hi;rw[e,s.n];exact h.pf i o
 .obtain⟨o,b⟩:=s.s i hi;obtain⟨o2,c⟩:=s.s j a;rw[b,c] at e⊢;exact h.ch i j o o2 e
theorem nC.refl(C:Cf):nC C C:=⟨rfl,rfl,λ_ h=>⟨h,rfl⟩⟩
theorem nC.trans{A B:Cf}(h:nC A B)(a:nC B C):nC A C:=⟨h.len.trans a.len,h.n.trans a.n,λi hi=>by obtain⟨o,e⟩:=h.s i hi;obtain⟨o2,b⟩:=a.s i o;exact⟨o2,e.trans b⟩⟩
theorem Pz(C:Cf)(p:cP)(i:Nat):bG (xV C p) i=if i=gD p then D8 else bG C i:=by
 unfold bG xV;rw[abY,abY,acW];by_cases h:i=gD p
 .rw[abP h,abP h.symm];split <;> rfl
 .rw[abQ h,abQ (aeC h)]
theorem UH(G:List cP):∀(C:Cf) (i:Nat),((∃p∈G,gD p=i)->bG (iA C G) i=D8)/\((¬∃p∈G,gD p=i)->bG (iA C G) i=bG C i):=by
 induction G with
 |nil=>intro C i;exact⟨λ⟨p,hp,_⟩=>(by cases hp),λ_=>rfl⟩
 |cons p G c=>
  intro C i;have e:iA C (p::G)=iA (xV C p) G:=rfl;rw[e];obtain⟨h1,d⟩:=c (xV C p) i;by_cases a:∃q∈G,gD q=i
  .exact⟨λ_=>h1 a,λb=>absurd (by obtain⟨q,hq,e⟩:=a;exact⟨q,by simp[hq],e⟩) b⟩
  .rw[d a,Pz];refine⟨λ⟨q,hq,hi⟩=>?_,λb=>?_⟩
   .rcases adV.1 hq with hq|hq
    .subst hq;rw[abP hi.symm]
    .exact absurd ⟨q,hq,hi⟩ a
   .rw[abQ (λe=>b ⟨p,aT,e.symm⟩)]
theorem Hn(G:List cP):∀C:Cf,(iA C G).S.length=C.S.length:=by
 induction G with
 |nil=>intro C;rfl
 |cons p G a=>intro C;exact(a (xV C p)).trans (by simp[xV])
theorem tR{G:List cP}:Oc (iA C G) i↔Oc C i/\¬∃p∈G,gD p=i:=by
 obtain⟨h1,b⟩:=UH G C i;by_cases a:∃p∈G,gD p=i
 .refine⟨λh=>absurd (by rw[h1 a];rfl) h.2,λh=>absurd a h.2⟩
 .unfold Oc;rw[b a];exact⟨λh=>⟨h,a⟩,λh=>h.1⟩
theorem qE(C:Cf)(G:List cP):nC (iA C G) C:=⟨Hn G C,FR C G,λi hi=>by
 obtain⟨h1,a⟩:=tR.1 hi;exact⟨h1,(UH G C i).2 a⟩⟩
theorem pU{p:cP}(h:p∈lE C):Oc C (gD p)/\p.h=bG C (gD p)/\p.e=((gD p /16:Nat):Int)/\p.s=((gD p%16:Nat):Int):=by
 obtain⟨h1,f,c,g⟩:=MD h;obtain⟨_,a,b,ha,hb,i,d,hk⟩:=uS h1;refine⟨⟨f,by rw[<-c];exact g⟩,c,?_,?_⟩
 .rw[ha];omega
 .rw[hb];omega
theorem UG(h:Oc C i):(⟨((i /16:Nat):Int),((i%16:Nat):Int),bG C i⟩:cP)∈lE C:=by
 unfold lE uV;refine ad7.2 ⟨i,ac4.2 h.1,?_⟩;unfold OH;rw[abQ h.2]
theorem ZI(i:Nat)(x:Hd):gD ⟨((i /16:Nat):Int),((i%16:Nat):Int),x⟩=i:=by
 unfold gD;simp only[abW];omega
theorem mN{s:Int}(h:eX C e s=some i):Oc C i/\e=((i /16:Nat):Int)/\s=((i%16:Nat):Int):=by
 unfold eX at h;cases hi:oH e s with
 |none=>rw[hi] at h;cases h
 |some k=>
  rw[hi] at h;simp only at h;split at h
  .cases h
  .injection h with h;subst h;rename_i d;obtain⟨h1,a,b,ha,hb,f,c,hk⟩:=uS hi;exact⟨⟨h1,d⟩,by rw[ha];omega,by rw[hb];omega⟩
theorem I2(h:Oc C i):eX C ((i /16:Nat):Int) ((i%16:Nat):Int)=some i:=by
 have h1:=h.1;have hid:oH ((i /16:Nat):Int) ((i%16:Nat):Int)=some i:=by
  unfold oH;rw[abP aQ];simp only[abW];congr 1
  omega
 unfold eX;rw[hid];exact abQ h.2
theorem NQ{s:Int}{x:Hd}(h:mH C e s=some x):∃i,Oc C i/\e=((i /16:Nat):Int)/\s=((i%16:Nat):Int)/\x=bG C i:=by
 unfold mH at h;cases hf:eX C e s with
 |none=>rw[hf] at h;cases h
 |some i=>
  rw[hf] at h;injection h with h;obtain⟨h1,a,b⟩:=mN hf;exact⟨i,h1,a,b,h.symm⟩
theorem L0{s kd:Int}{x:Hd}(h:jK C e s kd rt=some x):∃i,Oc C i/\e=((i /16:Nat):Int)/\s=((i%16:Nat):Int)/\x=bG C i/\x.kd=kd/\dX x.rt rt=rt:=by
 unfold jK at h;cases a:mH C e s with
 |none=>rw[a] at h;cases h
 |some y=>
  rw[a] at h;simp only at h;split at h
  .rename_i hc;injection h with h;subst h;obtain⟨i,h1,b,c,d⟩:=NQ a;exact⟨i,h1,b,c,d,hc.1,hc.2⟩
  .cases h
theorem FG{p:cP}(h:p∈rS C e):∃i,Oc C i/\e=((i /16:Nat):Int)/\p.s=((i%16:Nat):Int)/\p.h=bG C i/\p.e=e:=by
 unfold rS yV at h;obtain⟨s,hs,hp⟩:=ad7.1 h;cases a:mH C e (s:Nat) with
 |none=>rw[a] at hp;cases hp
 |some x=>
  rw[a] at hp;injection hp with hp;subst hp;obtain⟨i,h1,b,c,d⟩:=NQ a;exact⟨i,h1,b,c,d,rfl⟩
theorem OI(h:Oc C i):(⟨((i /16:Nat):Int),((i%16:Nat):Int),bG C i⟩:cP)∈rS C ((i /16:Nat):Int):=by
 unfold rS yV;refine ad7.2 ⟨i%16,ac4.2 aQ,?_⟩;unfold mH;rw[I2 h];rfl
theorem C7{o s:Int}:s∈eV k e o↔∃i,Oc k.c i/\e=((i /16:Nat):Int)/\s=((i%16:Nat):Int)/\(bG k.c i).kd=1/\(bG k.c i).ob=o:=by
 unfold eV;rw[ad7];constructor
 .rintro⟨p,hp,hs⟩;obtain⟨i,h1,d,f,a,b⟩:=FG hp;unfold rO at hs;split at hs
  .rename_i hc;injection hs with hs;rw[a] at hc;exact⟨i,h1,d,by rw[<-hs,f],hc.1,hc.2⟩
  .cases hs
 .rintro⟨i,h1,rfl,rfl,a,b⟩;refine⟨_,OI h1,?_⟩;unfold rO;rw[abP ⟨a,b⟩]
theorem JO{o:Int}:kY k o=true↔∃i,Oc k.c i/\(bG k.c i).kd=1/\(bG k.c i).ob=o:=by
 unfold kY;rw[aeK];constructor
 .rintro⟨e,he,hl⟩;have hl:=adB hl;obtain⟨s,hs⟩:=List.exists_mem_of_length_pos hl;obtain⟨i,h1,_,_,a,b⟩:=C7.1 hs;exact⟨i,h1,a,b⟩
 .rintro⟨i,h1,a,b⟩;have:=h1.1;refine⟨i /16,ac4.2 aQ,acB ?_⟩;exact List.length_pos_of_mem (C7.2 ⟨i,h1,rfl,rfl,a,b⟩)
theorem FX(h:CI C)(k:Oc C i0){self:Bool}{L:List cP}(c:∀p∈L,p∈lE C):∀p∈(dC (bG C i0).nu self L).2,p∈lE C/\(bG C (gD p)).kd=(bG C i0).kd/\(bG C (gD p)).ob=(bG C i0).ob/\dX (bG C i0).rt (bG C (gD p)).rt=(bG C (gD p)).rt/\(gD p=i0\/1<=(bG C (gD p)).pf):=by
 have hid:dX (bG C i0).rt (bG C i0).rt=(bG C i0).rt:=by
  have:=h.rt i0 k;rw[(jF this this).1,Nat.and_self];omega
 suffices key:∀(L:List cP) (st:List Int×List cP),(∀p∈L,p∈lE C)->
  (∀x∈st.1,∃j,Oc C j/\x=(bG C j).nu/\(bG C j).kd=(bG C i0).kd/\(bG C j).ob=(bG C i0).ob/\dX (bG C i0).rt (bG C j).rt=(bG C j).rt)->
  (∀p∈st.2,p∈lE C/\(bG C (gD p)).kd=(bG C i0).kd/\(bG C (gD p)).ob=(bG C i0).ob/\dX (bG C i0).rt (bG C (gD p)).rt=(bG C (gD p)).rt/\(gD p=i0\/1<=(bG C (gD p)).pf))->
  ∀p∈(L.foldl (fC (bG C i0).nu self) st).2,p∈lE C/\(bG C (gD p)).kd=(bG C i0).kd/\(bG C (gD p)).ob=(bG C i0).ob/\dX (bG C i0).rt (bG C (gD p)).rt=(bG C (gD p)).rt/\(gD p=i0\/1<=(bG C (gD p)).pf) by
  refine key L ([(bG C i0).nu], []) c (λx a=>?_) (λp hp=>by cases hp);rw[ab0.1 a];exact⟨i0,k,rfl,rfl,rfl,hid⟩
 intro L;induction L with
 |nil=>intro st _ _ d;exact d
 |cons y L r=>
  intro st c h1 d;rw[ad4];obtain⟨f,l,_,_⟩:=pU (c y aT);refine r _ (λp hp=>c p (by simp[hp])) ?_ ?_
  .intro x a;unfold fC at a;split at a
   .split at a <;> exact h1 x a
   .split at a
    .rename_i b;rcases ab6.1 a with a|a
     .exact h1 x a
     .obtain⟨j,g,i,m,n,o⟩:=h1 _ b;rw[l] at i;obtain⟨c1,c2,c3⟩:=h.ch (gD y) j f g i;exact⟨gD y,f,by rw[ab0.1 a,l],c1.trans m,c2.trans n,xB (h.rt _ k) (h.rt _ g) (h.rt _ f) o c3⟩
    .exact h1 x a
  .intro p hp;unfold fC at hp;split at hp
   .rename_i q;split at hp
    .rcases ab6.1 hp with hp|hp
     .exact d p hp
     .rw[ab0.1 hp];have e:gD y=i0:=h.inj _ _ f k (by rw[<-l];exact q);exact⟨c y aT,by rw[e],by rw[e],by rw[e];exact hid, .inl e⟩
    .exact d p hp
   .split at hp
    .rename_i b;rcases ab6.1 hp with hp|hp
     .exact d p hp
     .rw[ab0.1 hp];obtain⟨j,g,i,m,n,o⟩:=h1 _ b;rw[l] at i;obtain⟨c1,c2,c3⟩:=h.ch (gD y) j f g i;refine⟨c y aT,c1.trans m,c2.trans n,xB (h.rt _ k) (h.rt _ g) (h.rt _ f) o c3, .inr ?_⟩;rw[i];exact(h.nu _ g).1
    .exact d p hp
theorem mS(hl:C.S.length=128)(e s kd ob rt pf:Int):((dB C e s kd ob rt pf).2=C/\(dB C e s kd ob rt pf).1≠0)\/
 ∃i:Nat,(dB C e s kd ob rt pf).1=0/\i<128/\e=((i /16:Nat):Int)/\s=((i%16:Nat):Int)/\¬Oc C i/\(1<=kd/\kd<=4/\0<=ob/\ob<32/\0<=rt/\rt<=15)/\
  (dB C e s kd ob rt pf).2.S.length=128/\(dB C e s kd ob rt pf).2.n=C.n+1/\bG (dB C e s kd ob rt pf).2 i=⟨kd,ob,rt,C.n+1,pf⟩/\∀j,j≠i->bG (dB C e s kd ob rt pf).2 j=bG C j:=by
 unfold dB;by_cases f:iR kd ob rt=false
 .rw[abP f];exact .inl ⟨rfl,aT⟩
 rw[abQ f];cases hi:oH e s with
 |none=>exact .inl ⟨rfl,aT⟩
 |some i=>
  simp only;by_cases d:(bG C i).nu≠0
  .rw[abP d];exact .inl ⟨rfl,aT⟩
  .rw[abQ d];obtain⟨h1,a,b,ha,hb,h,g,hk⟩:=uS hi;have c:iR kd ob rt=true:=by cases l:iR kd ob rt <;> simp_all
   unfold iR at c;refine .inr ⟨i,rfl,h1,by rw[ha];omega,by rw[hb];omega,λho=>d ho.2,adB c,by simp[hl],rfl,?_,λj k=>?_⟩
   .unfold bG;rw[abY,acW,abP rfl,abP aQ];rfl
   .unfold bG;rw[abY,abY,acW,abQ (aeC k)]
theorem CI.put{C:Cf}(h:CI C)(e s kd ob rt pf:Int)(hp:pf=0\/∃j,Oc C j/\(bG C j).nu=pf/\kd=(bG C j).kd/\ob=(bG C j).ob/\dX (bG C j).rt rt=rt):CI (dB C e s kd ob rt pf).2:=by
 rcases mS h.len e s kd ob rt pf with⟨h1,_⟩|⟨i,_,hi,_,_,p,l,hl,k,a,hold⟩
 .rw[h1];exact h
 generalize (dB C e s kd ob rt pf).2=C' at *;have q:=h.n0;have r:0<=pf/\pf<=C.n:=by
  rcases hp with hp|⟨j,t,e,_⟩
  .omega
  .have:=h.nu j t;omega
 have ho:∀j,Oc C' j->j≠i->Oc C j/\bG C' j=bG C j:=λj b f=>⟨⟨b.1,by rw[<-hold j f];exact b.2⟩,hold j f⟩
 refine⟨hl,aQ,λj b=>?_,λj m b hm he=>?_,λj b=>?_,λj b=>?_,λj m b hm he=>?_⟩
 .by_cases e:j=i
  .subst e;rw[a,k];simp only;omega
  .obtain⟨o,e⟩:=ho j b e;rw[e,k];have:=h.nu j o;omega
 .by_cases e:j=i
  .by_cases c:m=i
   .rw[e,c]
   .obtain⟨o,d⟩:=ho m hm c;have:=h.nu m o;subst e;rw[a,d] at he;simp only at he;omega
  .obtain⟨o,g⟩:=ho j b e;by_cases c:m=i
   .have:=h.nu j o;subst c;rw[a,g] at he;simp only at he;omega
   .obtain⟨o2,d⟩:=ho m hm c;rw[d,g] at he;exact h.inj j m o o2 he
 .by_cases e:j=i
  .subst e;rw[a];exact⟨l.2.2.2.2.1,l.2.2.2.2.2⟩
  .obtain⟨o,e⟩:=ho j b e;rw[e];exact h.rt j o
 .by_cases e:j=i
  .subst e;rw[a,k];simp only;omega
  .obtain⟨o,e⟩:=ho j b e;rw[e,k];have:=h.pf j o;omega
 .by_cases e:m=i
  .subst e;rw[a] at he;simp only at he;by_cases c:j=m
   .subst c;rw[a] at he;simp only at he;omega
   .obtain⟨o,d⟩:=ho j b c;rw[d] at he;have:=h.pf j o;omega
  .obtain⟨o,g⟩:=ho m hm e;by_cases c:j=i
   .subst c;rw[a,g] at he⊢;simp only at he⊢;rcases hp with hp|⟨z,u,A,v,x,y⟩
    .have:=h.nu m o;omega
    .obtain rfl:z=m:=h.inj z m u o aQ;exact⟨v,x,y⟩
   .obtain⟨o2,d⟩:=ho j b c;rw[d,g] at he⊢;exact h.ch j m o2 o he
theorem wU{env from_ other to_ rights more:Int}:(gV C env from_ other to_ rights more=(23,C))\/∃i:Nat,Oc C i/\env=((i /16:Nat):Int)/\0<=rights/\dX (bG C i).rt rights=rights/\gV C env from_ other to_ rights more=dB C other to_ (bG C i).kd (bG C i).ob rights (bG C i).nu:=by
 cases hf:eX C env from_ with
 |none=>exact .inl (KY hf other to_ rights more)
 |some i=>
  by_cases hc:rights<0\/dX (bG C i).rt rights≠rights\/dX (bG C i).rt more≠more
  .exact .inl (P8 hf other to_ hc)
  .obtain⟨h1,b,_⟩:=mN hf;have c:¬rights<0:=λe=>hc (.inl e)
   have a:dX (bG C i).rt rights=rights:=acD λe=>hc (.inr (.inl e))
   have d:dX (bG C i).rt more=more:=acD λe=>hc (.inr (.inr e))
   exact .inr ⟨i,h1,b,aQ,a,NK hf other to_ c a d⟩
end
variable{s':dU}{k':Kv}
section
theorem oZ{s:dU}{o:Int}:dM s o=true↔∃i:Nat,o=i/\i<s.n/\s.T[i]?=some true:=by
 unfold dM zO;rw[acY,ad0];constructor
 .rintro⟨⟨h1,c⟩,a⟩;refine⟨o.toNat,aQ,aQ,?_⟩;cases h:s.T[o.toNat]? with
  |none=>rw[h] at a;cases a
  |some b=>rw[h] at a;simp at a;rw[a]
 .rintro⟨i,rfl,c,a⟩;refine⟨aQ,?_⟩;rw[abW,a];rfl
theorem sN{s:dU}{o x:Int}:dM (uJ s o) x=true↔dM s x=true/\x≠o:=by
 unfold uJ;by_cases h:dM s o=true
 .rw[abP h];obtain⟨i,rfl,f,g⟩:=oZ.1 h;rw[oZ,oZ];simp only[abW];constructor
  .rintro⟨j,rfl,d,a⟩;rw[acW] at a;split at a
   .split at a
    .cases a
    .cases a
   .rename_i b;exact⟨⟨j,rfl,d,a⟩,λe=>b aQ⟩
  .rintro⟨⟨j,rfl,d,a⟩,b⟩;refine⟨j,rfl,d,?_⟩;rw[acW,abQ (λe=>b aQ)];exact a
 .rw[abQ h];exact⟨λc=>⟨c,λe=>h (e ▸ c)⟩,λc=>c.1⟩
theorem JX(s:dU)(o:Int):(uJ s o).n=s.n/\(uJ s o).B=s.B/\(uJ s o).T.length=s.T.length:=by
 unfold uJ;split
 .exact⟨rfl,rfl,aT⟩
 .exact⟨rfl,rfl,rfl⟩
theorem sH{s:dU}(h:jH s=some i):i<s.n/\dM s (i:Int)=false:=by
 unfold jH at h;obtain⟨h1,b,_⟩:=ab9.1 h;have c:i<s.n/\i<s.T.length:=by rw[acQ] at h1;omega
 refine⟨c.1,?_⟩;cases d:dM s (i:Int) with
 |false=>rfl
 |true=>
  obtain⟨j,e,_,a⟩:=oZ.1 d;obtain rfl:j=i:=aQ;rw[afV] at b;rw[abL c.2] at a;injection a with a;rw[a] at b;cases b
theorem Mg(a:List Int):∀(B:List Int) (m j:Nat),(j<m\/m+a.length<=j)->(JB B m a)[j]?=B[j]?:=by
 induction a with
 |nil=>intro B m j _;rfl
 |cons v a b=>
  intro B m j h;rw[acN] at h;show(JB (B.set m v) (m+1) a)[j]?=_;rw[b _ _ _ aQ,acW,abQ aQ]
theorem Dv(a:List Int):∀(B:List Int) (m:Nat),(JB B m a).length=B.length:=by
 induction a with
 |nil=>intro B m;rfl
 |cons v a b=>
  intro B m;show(JB (B.set m v) (m+1) a).length=_;rw[b,ab1]
theorem KB{s:dU}(d:s.T.length=32)(f:s.n<=32)(h:jH s=some i):(∀x,dM (fV s) x=true↔dM s x=true\/x=i)/\(∀j,j≠i->uQ (fV s) j=uQ s j)/\(fV s).n=s.n/\(fV s).T.length=s.T.length/\(fV s).B.length=s.B.length:=by
 obtain⟨h1,g⟩:=sH h;have e:fV s={s with T:=s.T.set i true,B:=QC s.B i}:=by unfold fV;rw[h]
 rw[e];refine⟨λx=>?_,λj b=>?_,rfl,aT,Dv _ _ _⟩
 .rw[oZ,oZ];simp only;constructor
  .rintro⟨j,rfl,c,a⟩;by_cases b:j=i
   .exact .inr (by rw[b])
   .rw[acW,abQ (λe=>b e.symm)] at a;exact .inl ⟨j,rfl,c,a⟩
  .rintro(⟨j,rfl,c,a⟩|rfl)
   .refine⟨j,rfl,c,?_⟩;rw[acW];split
    .split
     .rfl
     .omega
    .exact a
   .refine⟨i,rfl,h1,?_⟩;rw[acW,abP rfl,abP aQ]
 .unfold uQ;apply aeU;intro m;rw[acJ,acJ];split
  .rw[adD,adD];simp only[QC];rw[Mg _ _ _ _ (by simp only[acN,ac2];omega)]
  .rfl
theorem wQ(s:dU)(o a v:Int):(iV s o a v).n=s.n/\(iV s o a v).T=s.T/\(iV s o a v).B.length=s.B.length/\∀j:Nat,(j:Int)≠o->uQ (iV s o a v) j=uQ s j:=by
 unfold iV;split
 .rename_i h;obtain⟨k,m,rfl,rfl,_,hm⟩:=M7 h;refine⟨rfl,rfl,aT,λj b=>?_⟩;unfold uQ;apply aeU;intro p;rw[acJ,acJ];split
  .rw[adD,adD];simp only[abW];rw[acW,abQ aQ]
  .rfl
 .exact⟨rfl,rfl,rfl,λ_ _=>rfl⟩
theorem FF{s:dU}(a:s'.n=s.n)(b:s'.T=s.T)(x:Int):dM s' x=dM s x:=by
 unfold dM zO;rw[a,b]
theorem Y2{t:List En}{o:Int}{x:En}(h:x∈GB t e o):x∈t/\¬(x.frame=o/\x.env=e):=by
 unfold GB at h;rw[ac1] at h;refine⟨h.1,λhc=>?_⟩;have:=h.2;rw[acB hc] at this;cases this
theorem M8(G:List cP):∀(t:List En) (x:En),x∈iI t G->x∈t/\∀p∈G,p.h.kd=1->¬(x.frame=p.h.ob/\x.env=p.e):=by
 induction G with
 |nil=>intro t x h;exact⟨h,λp hp=>by cases hp⟩
 |cons p G c=>
  intro t x h;have e:iI t (p::G)=iI (yK t p) G:=rfl;rw[e] at h;obtain⟨h1,b⟩:=c _ _ h;unfold yK at h1;split at h1
  .obtain⟨d,f⟩:=Y2 h1;refine⟨d,λq hq hk=>?_⟩;rcases adV.1 hq with hq|hq
   .rw[hq];exact f
   .exact b q hq hk
  .rename_i a;refine⟨h1,λq hq hk=>?_⟩;rcases adV.1 hq with hq|hq
   .rw[hq] at hk;exact absurd hk a
   .exact b q hq hk
theorem Md{t:List En}{X x:En}(h:x∈x8 t X):x∈t\/x=X:=by
 unfold x8 at h;split at h
 .unfold ld at h;rcases ab6.1 h with h|h
  .unfold mE at h;split at h
   .exact .inl (aeD h)
   .split at h
    .exact .inl (aeD h)
    .exact .inl h
  .exact .inr (ab0.1 h)
 .exact .inl h
def Zj(C:Cf)(o:Int):Prop:=∃i,Oc C i/\(bG C i).kd=1/\(bG C i).ob=o/\(bG C i).rt=15/\(bG C i).pf=0
def OB(C:Cf)(o:Int):Prop:=∃i,Oc C i/\(bG C i).kd=1/\(bG C i).ob=o
structure KJ(k:Kv):Prop where
 ci:CI k.c
 fT:k.f.T.length=32
 fn:k.f.n=6
 pl:∀i,Oc k.c i->(bG k.c i).pf<(bG k.c i).nu/\((bG k.c i).pf≠0->∃j,Oc k.c j/\(bG k.c j).nu=(bG k.c i).pf)
 un:∀i j,Oc k.c i->Oc k.c j->(bG k.c i).kd=1->(bG k.c j).kd=1->(bG k.c i).ob=(bG k.c j).ob->(bG k.c i).pf=0->(bG k.c j).pf=0->i=j
 tk:∀i,Oc k.c i->(bG k.c i).kd=1->dM k.f (bG k.c i).ob=true
 ro:∀o,dM k.f o=true->OB k.c o->Zj k.c o
 tb:∀x∈k.t,∃i,Oc k.c i/\x.env=((i /16:Nat):Int)/\(bG k.c i).kd=1/\(bG k.c i).ob=x.frame/\(x.write=true->dX (bG k.c i).rt 2=2)
inductive Mv (A:Int->Int->Int->Prop) (k:Kv):Kv->Prop
 |fY {o:Int} (h:(∃i,Oc k.c i/\A ((i /16:Nat):Int) 1 o/\(bG k.c i).kd=1/\(bG k.c i).ob=o/\dX (bG k.c i).rt 8=8)\/¬OB k.c o) {k':Kv} (r:kD k o k'):Mv A k k'
 |nD {i:Nat} (ho:Oc k.c i) (ha:A ((i /16:Nat):Int) (bG k.c i).kd (bG k.c i).ob) (self:Bool) {L:List cP} (hL:xY k L):Mv A k (gY k (bG k.c i).nu self L)
 |alloc {i:Nat} (h:jH k.f=some i) {e s:Int} (h2:(dB k.c e s 1 i 15 0).1=0):Mv A k {k with f:=fV k.f,c:=(dB k.c e s 1 i 15 0).2}
 |pass {i:Nat} (ho:Oc k.c i) (ha:A ((i /16:Nat):Int) (bG k.c i).kd (bG k.c i).ob) {rights:Int} (h0:0<=rights) (h1:dX (bG k.c i).rt rights=rights) (e s:Int):Mv A k {k with c:=(dB k.c e s (bG k.c i).kd (bG k.c i).ob rights (bG k.c i).nu).2}
 |write {i:Nat} (ho:Oc k.c i) (ha:A ((i /16:Nat):Int) 1 (bG k.c i).ob) (hk:(bG k.c i).kd=1) (h2:dX (bG k.c i).rt 2=2) (a v:Int):Mv A k {k with f:=iV k.f (bG k.c i).ob a v}
 |load {i:Nat} (ho:Oc k.c i) (hk:(bG k.c i).kd=1) {x:En} (he:x.env=((i /16:Nat):Int)) (hf:(bG k.c i).ob=x.frame) (h2:x.write=true->dX (bG k.c i).rt 2=2):Mv A k {k with t:=x8 k.t x}
 |tl {t:List En} (h:∀x∈t,x∈k.t):Mv A k {k with t:=t}
 |xM (b:List Nt) (v:List Vc) (s:Sd) (n:Nat):Mv A k {k with b:=b,v:=v,s:=s,n:=n}
theorem KT(num:Int)(self:Bool)(st:List Int×List cP)(p:cP):(∀x∈st.1,x∈(fC num self st p).1)/\(∀q∈st.2,q∈(fC num self st p).2)/\∀q∈(fC num self st p).2,q∈st.2\/q=p:=by
 unfold fC;split
 .split
  .exact⟨λx a=>a,λq hq=>aeS _ hq,λq hq=>by rcases ab6.1 hq with h|h;exact .inl h;exact .inr (ab0.1 h)⟩
  .exact⟨λx a=>a,λq hq=>hq,λq hq=> .inl hq⟩
 .split
  .exact⟨λx a=>aeS _ a,λq hq=>aeS _ hq,λq hq=>by rcases ab6.1 hq with h|h;exact .inl h;exact .inr (ab0.1 h)⟩
  .exact⟨λx a=>a,λq hq=>hq,λq hq=> .inl hq⟩
theorem LP(num:Int)(self:Bool)(L:List cP):∀st:List Int×List cP,(∀x∈st.1,x∈(L.foldl (fC num self) st).1)/\(∀q∈st.2,q∈(L.foldl (fC num self) st).2)/\∀q∈(L.foldl (fC num self) st).2,q∈st.2\/q∈L:=by
 induction L with
 |nil=>intro st;exact⟨λx a=>a,λq hq=>hq,λq hq=> .inl hq⟩
 |cons y L b=>
  intro st;obtain⟨c,a2,a3⟩:=KT num self st y;obtain⟨b1,b2,b3⟩:=b (fC num self st y);rw[ad4];refine⟨λx a=>b1 x (c x a),λq hq=>b2 q (a2 q hq),λq hq=>?_⟩;rcases b3 q hq with h|h
  .rcases a3 q h with h|h
   .exact .inl h
   .exact .inr (by simp[h])
  .exact .inr (by simp[h])
theorem Br(num:Int)(self:Bool)(L:List cP):∀st:List Int×List cP,(∀q∈st.2,q.h.nu∈st.1\/q.h.nu=num)->∀q∈(L.foldl (fC num self) st).2,q.h.nu∈(L.foldl (fC num self) st).1\/q.h.nu=num:=by
 induction L with
 |nil=>intro st h;exact h
 |cons y L b=>
  intro st h;rw[ad4];refine b _ (λq hq=>?_);unfold fC at hq⊢;split at hq
  .rename_i a;rw[abP a];split at hq
   .rename_i hs;rw[abP hs];rcases ab6.1 hq with hq|hq
    .exact h q hq
    .rw[ab0.1 hq];exact .inr a
   .rename_i hs;rw[abQ hs];exact h q hq
  .rename_i a;rw[abQ a];split at hq
   .rename_i hs;rw[abP hs];rcases ab6.1 hq with hq|hq
    .rcases h q hq with h|h
     .exact .inl (aeS _ h)
     .exact .inr h
    .rw[ab0.1 hq];exact .inl (afB _ aT)
   .rename_i hs;rw[abQ hs];exact h q hq
theorem S9{num:Int}{self:Bool}{L:List cP}(g:L.Pairwise λx y=>x.h.nu<=y.h.nu){q:cP}(hq:q∈L)(j:q.h.nu≠num)(h:q.h.pf=num\/∃p∈(dC num self L).2,p.h.nu=q.h.pf/\p.h.nu<q.h.nu):q∈(dC num self L).2:=by
 obtain⟨pre,post,rfl⟩:=List.append_of_mem hq;unfold dC at h⊢;rw[ad1,ad4] at h⊢;obtain⟨b1,b2,b3⟩:=LP num self post (fC num self (pre.foldl (fC num self) ([num], [])) q);refine b2 q ?_;have a:q.h.pf∈(pre.foldl (fC num self) ([num], [])).1:=by
  obtain⟨i,a2,a3⟩:=LP num self pre ([num], []);rcases h with h|⟨p,hp,he,b⟩
  .rw[h];exact i num aT
  .rw[aeG] at g;have c:=aeQ.1 g.2.1;have d:p∈(pre.foldl (fC num self) ([num], [])).2:=by
    rcases b3 p hp with h1|h1
    .rcases(KT num self (pre.foldl (fC num self) ([num], [])) q).2.2 p h1 with e|e
     .exact e
     .rw[e] at b;omega
    .have:=c.1 p h1;omega
   rcases Br num self pre ([num], []) (λq hq=>by cases hq) p d with f|f
   .rw[<-he];exact f
   .rw[<-he,f];exact i num aT
 generalize pre.foldl (fC num self) ([num], [])=st at *;unfold fC;rw[abQ j,abP a];exact afB _ aT
theorem IY{L:List cP}(a:L.Perm (lE C)){o:Int}(hi:Oc C i):(∃p∈L.filter (nZ 1 o),gD p=i)↔((bG C i).kd=1/\(bG C i).ob=o):=by
 constructor
 .rintro⟨p,hp,rfl⟩;obtain⟨h1,b⟩:=ac1.1 hp;obtain⟨_,c,_,_⟩:=pU (a.mem_iff.1 h1);have:=adB b;rw[c] at this;exact this
 .rintro hk;exact⟨_,ac1.2 ⟨a.mem_iff.2 (UG hi),acB hk⟩,ZI i _⟩
theorem KJ.fY{k k':Kv}{o:Int}(h:KJ k)(r:kD k o k'):KJ k'/\nC k'.c k.c/\(∀i,Oc k'.c i↔Oc k.c i/\¬((bG k.c i).kd=1/\(bG k.c i).ob=o))/\k'.f=uJ k.f o:=by
 obtain⟨L,n,rfl⟩:=r;have hs:nC (GF k o L).c k.c:=qE k.c (L.filter (nZ 1 o));have a:∀i,Oc (GF k o L).c i↔Oc k.c i/\¬((bG k.c i).kd=1/\(bG k.c i).ob=o):=λi=>by
  show Oc (iA k.c (L.filter (nZ 1 o))) i↔_;rw[tR];exact⟨λ⟨h1,d⟩=>⟨h1,λhk=>d ((IY n h1).2 hk)⟩,λ⟨h1,d⟩=>⟨h1,λhk=>d ((IY n h1).1 hk)⟩⟩
 have hf:(GF k o L).f=uJ k.f o:=rfl;have F:(GF k o L).t=iI k.t (L.filter (nZ 1 o)):=rfl;refine⟨?_,hs,a,hf⟩;generalize GF k o L=k' at *;obtain⟨f1,f2,f3⟩:=JX k.f o;refine⟨h.ci.sub hs,by rw[hf,f3];exact h.fT,by rw[hf,f1];exact h.fn,λi hi=>?_,λi j hi u=>?_,λi hi hk=>?_,λx b G=>?_,λx b=>?_⟩
 .obtain⟨o1,q⟩:=hs.s i hi;rw[q];refine⟨(h.pl i o1).1,λhp=>?_⟩;obtain⟨j,v,y⟩:=(h.pl i o1).2 hp;obtain⟨c1,c2,_⟩:=h.ci.ch i j o1 v y.symm;have g:Oc k'.c j:=(a j).2 ⟨v,λhk=>((a i).1 hi).2 ⟨c1.trans hk.1,c2.trans hk.2⟩⟩;exact⟨j,g,by rw[(hs.s j g).2];exact y⟩
 .rw[(hs.s i hi).2,(hs.s j u).2];exact h.un i j (hs.s i hi).1 (hs.s j u).1
 .rw[(hs.s i hi).2] at hk⊢;rw[hf,sN];exact⟨h.tk i (hs.s i hi).1 hk,λe=>((a i).1 hi).2 ⟨hk,e⟩⟩
 .rw[hf,sN] at b;obtain⟨i,l,z,A⟩:=G;rw[(hs.s i l).2] at z A;obtain⟨r,or,r1,B,H,I⟩:=h.ro x b.1 ⟨i,(hs.s i l).1,z,A⟩;have or':Oc k'.c r:=(a r).2 ⟨or,λhc=>b.2 (B.symm.trans hc.2)⟩;exact⟨r,or',by rw[(hs.s r or').2];exact⟨r1,B,H,I⟩⟩
 .rw[F] at b;obtain⟨h1,d⟩:=M8 _ _ _ b;obtain⟨i,l,q,C,D,J⟩:=h.tb x h1;have m:Oc k'.c i:=(a i).2 ⟨l,λhc=>by
   obtain⟨p,hp,hid⟩:=(IY n l).2 hc;obtain⟨_,q2,E,_⟩:=pU (n.mem_iff.1 (ac1.1 hp).1);rw[hid] at q2 E;exact d p hp (by rw[q2];exact C) ⟨by rw[q2];exact D.symm,by rw[E];exact q⟩⟩
  exact⟨i,m,by rw[(hs.s i m).2];exact⟨q,C,D,J⟩⟩
theorem KJ.nD{k:Kv}(h:KJ k){i0:Nat}(U:Oc k.c i0)(self:Bool){L:List cP}(I:xY k L):KJ (gY k (bG k.c i0).nu self L):=by
 have u:∀p∈L,p∈lE k.c:=λp hp=>I.1.mem_iff.1 hp
 have b:=FX h.ci U (self:=self) u;have hs:nC (gY k (bG k.c i0).nu self L).c k.c:=qE k.c _;have v:∀i,Oc (gY k (bG k.c i0).nu self L).c i↔Oc k.c i/\¬∃p∈(dC (bG k.c i0).nu self L).2,gD p=i:=λi=>tR
 have z:∀i j,Oc k.c i->Oc k.c j->(bG k.c i).pf=(bG k.c j).nu->i≠i0->(∃p∈(dC (bG k.c i0).nu self L).2,gD p=j)->∃p∈(dC (bG k.c i0).nu self L).2,gD p=i:=λi j g d he J ⟨p,hp,hid⟩=>by
  refine⟨_,S9 I.2 (I.1.mem_iff.2 (UG g)) (λe=>J (h.ci.inj i i0 g U e)) (.inr ⟨p,hp,?_,?_⟩),ZI i _⟩
  .rw[(pU (b p hp).1).2.1,hid];exact he.symm
  .rw[(pU (b p hp).1).2.1,hid,<-he];exact(h.pl i g).1
 have K:∀p∈(dC (bG k.c i0).nu self L).2,(bG k.c i0).nu<=p.h.nu:=by
  suffices key:∀(L:List cP) (st:List Int×List cP),(∀p∈L,p∈lE k.c)->(∀x∈st.1,(bG k.c i0).nu<=x)->(∀p∈st.2,(bG k.c i0).nu<=p.h.nu)->∀p∈(L.foldl (fC (bG k.c i0).nu self) st).2,(bG k.c i0).nu<=p.h.nu by
   exact key L ([(bG k.c i0).nu], []) u (λx a=>by rw[ab0.1 a];exact adL _) (λp hp=>by cases hp)
  intro L;induction L with
  |nil=>intro st _ _ l;exact l
  |cons y L M=>
   intro st u h1 l;obtain⟨oy,hy,_,_⟩:=pU (u y aT);have A:=(h.pl _ oy).1;rw[<-hy] at A;rw[ad4];refine M _ (λp hp=>u p (by simp[hp])) (λx a=>?_) (λp hp=>?_)
   .unfold fC at a;split at a
    .split at a <;> exact h1 x a
    .split at a
     .rename_i o;rcases ab6.1 a with a|a
      .exact h1 x a
      .rw[ab0.1 a];have:=h1 _ o;omega
     .exact h1 x a
   .unfold fC at hp;split at hp
    .rename_i N;split at hp
     .rcases ab6.1 hp with hp|hp
      .exact l p hp
      .rw[ab0.1 hp,N];exact adL _
     .exact l p hp
    .split at hp
     .rename_i o;rcases ab6.1 hp with hp|hp
      .exact l p hp
      .rw[ab0.1 hp];have:=h1 _ o;omega
     .exact l p hp
 have ht:(gY k (bG k.c i0).nu self L).t=iI k.t (dC (bG k.c i0).nu self L).2:=rfl;have hf:(gY k (bG k.c i0).nu self L).f=k.f:=rfl;generalize gY k (bG k.c i0).nu self L=k' at *;generalize (dC (bG k.c i0).nu self L).2=G at *;refine⟨h.ci.sub hs,by rw[hf];exact h.fT,by rw[hf];exact h.fn,λi hi=>?_,λi j hi B=>?_,λi hi hk=>?_,λx a hh=>?_,λx a=>?_⟩
 .obtain⟨o1,F⟩:=hs.s i hi;rw[F];refine⟨(h.pl i o1).1,λhp=>?_⟩;obtain⟨j,d,O⟩:=(h.pl i o1).2 hp;have C:Oc k'.c j:=(v j).2 ⟨d,λB=>by
   by_cases D:i=i0
   .subst D;obtain⟨p,hp,hid⟩:=B;have h1:=K p hp;rw[(pU (b p hp).1).2.1,hid,O] at h1;have:=(h.pl i o1).1;omega
   .exact((v i).1 hi).2 (z i j o1 d O.symm D B)⟩
  exact⟨j,C,by rw[(hs.s j C).2];exact O⟩
 .rw[(hs.s i hi).2,(hs.s j B).2];exact h.un i j (hs.s i hi).1 (hs.s j B).1
 .rw[(hs.s i hi).2] at hk⊢;rw[hf];exact h.tk i (hs.s i hi).1 hk
 .rw[hf] at a;obtain⟨i,g,P,Q⟩:=hh;obtain⟨q,e0⟩:=hs.s i g;rw[e0] at P Q;obtain⟨r,or,r1,V,r3,H⟩:=h.ro x a ⟨i,q,P,Q⟩;by_cases R:∃p∈G,gD p=r
  .exfalso
   have S:r=i0:=by
    obtain⟨p,hp,hid⟩:=R;rcases(b p hp).2.2.2.2 with e|e
    .rw[<-hid];exact e
    .rw[hid,H] at e;omega
   have all:∀(n:Nat) (j:Nat),Oc k.c j->(bG k.c j).kd=1->(bG k.c j).ob=x->(bG k.c j).nu<=n->∃p∈G,gD p=j:=by
    intro n;induction n with
    |zero=>intro j d _ _ hn;have:=(h.ci.nu j d).1;omega
    |succ n M=>
     intro j d W X hn;by_cases hp:(bG k.c j).pf=0
     .rw[h.un j r d or W r1 (X.trans V.symm) hp H];exact R
     .obtain⟨m,T,em⟩:=(h.pl j d).2 hp;obtain⟨c1,c2,_⟩:=h.ci.ch j m d T em.symm;have A:=(h.pl j d).1;refine z j m d T em.symm (λe=>?_) (M m T (c1.symm.trans W) (c2.symm.trans X) aQ);rw[e,<-S] at hp;exact hp H
   have:=h.ci.nu i q;exact((v i).1 g).2 (all (bG k.c i).nu.toNat i q P Q aQ)
  .have or':Oc k'.c r:=(v r).2 ⟨or,R⟩;exact⟨r,or',by rw[(hs.s r or').2];exact⟨r1,V,r3,H⟩⟩
 .rw[ht] at a;obtain⟨h1,l⟩:=M8 _ _ _ a;obtain⟨i,g,F,Y,Z,e4⟩:=h.tb x h1;have E:Oc k'.c i:=(v i).2 ⟨g,λ⟨p,hp,hid⟩=>by
   obtain⟨_,q2,q3,_⟩:=pU (b p hp).1;rw[hid] at q2 q3;exact l p hp (by rw[q2];exact Y) ⟨by rw[q2];exact Z.symm,by rw[q3];exact F⟩⟩
  exact⟨i,E,by rw[(hs.s i E).2];exact⟨F,Y,Z,e4⟩⟩
theorem KJ.same(h:KJ k)(hc:k'.c=k.c)(hf:k'.f=k.f)(a:∀x∈k'.t,x∈k.t):KJ k':=by
 obtain⟨b,d,g,i,j,s',l⟩:=k';obtain rfl:b=k.c:=hc;obtain rfl:d=k.f:=hf;exact⟨h.ci,h.fT,h.fn,h.pl,h.un,h.tk,h.ro,λx e=>h.tb x (a x e)⟩
theorem KJ.alloc{k:Kv}(h:KJ k){i:Nat}(hi:jH k.f=some i){e s:Int}(H:(dB k.c e s 1 i 15 0).1=0):KJ {k with f:=fV k.f,c:=(dB k.c e s 1 i 15 0).2}:=by
 have y:=h.ci.put e s 1 i 15 0 (.inl rfl);obtain⟨t1,t2,t3,t4,t5⟩:=KB h.fT (by rw[h.fn];omega) hi;have A:=(sH hi).2;rcases mS h.ci.len e s 1 i 15 0 with⟨_,I⟩|⟨m,_,hm,_,_,B,_,_,M,a,hold⟩
 .exact absurd H I
 generalize (dB k.c e s 1 i 15 0).2=C' at *;have ho:∀j,Oc C' j->j≠m->Oc k.c j/\bG C' j=bG k.c j:=λj b d=>⟨⟨b.1,by rw[<-hold j d];exact b.2⟩,hold j d⟩
 have hb:∀j,Oc k.c j->Oc C' j/\bG C' j=bG k.c j:=λj b=>by
  have d:j≠m:=λe=>B (e ▸ b)
  exact⟨⟨b.1,by rw[hold j d];exact b.2⟩,hold j d⟩
 have J:=h.ci.n0;have K:Oc C' m:=⟨hm,by rw[a];simp only;omega⟩
 refine⟨y,t4.trans h.fT,t3.trans h.fn,λj b=>?_,λj l b hl=>?_,λj b hk=>?_,λx p F=>?_,λx p=>?_⟩
 .simp only at b⊢;by_cases e:j=m
  .subst e;rw[a];simp only;exact⟨aQ,λhc=>absurd rfl hc⟩
  .obtain⟨o1,g⟩:=ho j b e;rw[g];refine⟨(h.pl j o1).1,λhp=>?_⟩;obtain⟨z,t,L⟩:=(h.pl j o1).2 hp;exact⟨z,(hb z t).1,by rw[(hb z t).2];exact L⟩
 .simp only at b hl⊢;have BG:∀z,Oc k.c z->(bG k.c z).kd=1->(bG k.c z).ob≠i:=λz t hk e=>by
   have:=h.tk z t hk;rw[e,A] at this;cases this
  by_cases g:j=m
  .by_cases q:l=m
   .intro _ _ _ _ _;rw[g,q]
   .obtain⟨o2,C⟩:=ho l hl q;rw[g,a,C];intro _ o D _ _;exact absurd D.symm (BG l o2 o)
  .obtain⟨o1,G⟩:=ho j b g;by_cases q:l=m
   .rw[q,a,G];intro u _ D _ _;exact absurd D (BG j o1 u)
   .obtain⟨o2,C⟩:=ho l hl q;rw[C,G];exact h.un j l o1 o2
 .simp only at b hk⊢;by_cases e:j=m
  .rw[e,a,t1];exact .inr rfl
  .obtain⟨o1,g⟩:=ho j b e;rw[g] at hk⊢;rw[t1];exact .inl (h.tk j o1 hk)
 .simp only at p F⊢;rw[t1] at p;by_cases n:x=i
  .exact⟨m,K,by rw[a];exact⟨rfl,n.symm,rfl,rfl⟩⟩
  .obtain⟨j,v,u,o⟩:=F;have E:j≠m:=λe=>by rw[e,a] at o;exact n o.symm
   obtain⟨o1,g⟩:=ho j v E;rw[g] at u o;obtain⟨r,or,r1⟩:=h.ro x (p.resolve_right n) ⟨j,o1,u,o⟩;exact⟨r,(hb r or).1,by rw[(hb r or).2];exact r1⟩
 .obtain⟨j,v,g⟩:=h.tb x p;exact⟨j,(hb j v).1,by simp only;rw[(hb j v).2];exact g⟩
theorem KJ.pass{k:Kv}(h:KJ k){i:Nat}(g:Oc k.c i){rights:Int}(h1:dX (bG k.c i).rt rights=rights)(e s:Int):KJ {k with c:=(dB k.c e s (bG k.c i).kd (bG k.c i).ob rights (bG k.c i).nu).2}:=by
 have t:=h.ci.put e s (bG k.c i).kd (bG k.c i).ob rights (bG k.c i).nu (.inr ⟨i,g,rfl,rfl,rfl,h1⟩);rcases mS h.ci.len e s (bG k.c i).kd (bG k.c i).ob rights (bG k.c i).nu with⟨C,_⟩|⟨m,_,hm,_,_,u,_,_,J,a,hold⟩
 .rw[C];exact h
 generalize (dB k.c e s (bG k.c i).kd (bG k.c i).ob rights (bG k.c i).nu).2=C' at *;have ho:∀j,Oc C' j->j≠m->Oc k.c j/\bG C' j=bG k.c j:=λj b d=>⟨⟨b.1,by rw[<-hold j d];exact b.2⟩,hold j d⟩
 have hb:∀j,Oc k.c j->Oc C' j/\bG C' j=bG k.c j:=λj b=>by
  have d:j≠m:=λe=>u (e ▸ b)
  exact⟨⟨b.1,by rw[hold j d];exact b.2⟩,hold j d⟩
 have D:=h.ci.nu i g;refine⟨t,h.fT,h.fn,λj b=>?_,λj l b hl=>?_,λj b hk=>?_,λx n y=>?_,λx n=>?_⟩
 .simp only at b⊢;by_cases e:j=m
  .subst e;rw[a];simp only;exact⟨aQ,λ_=>⟨i,(hb i g).1,by rw[(hb i g).2]⟩⟩
  .obtain⟨o1,f⟩:=ho j b e;rw[f];refine⟨(h.pl j o1).1,λhp=>?_⟩;obtain⟨z,A,E⟩:=(h.pl j o1).2 hp;exact⟨z,(hb z A).1,by rw[(hb z A).2];exact E⟩
 .simp only at b hl⊢;by_cases f:j=m
  .rw[f,a];intro _ _ _ F _;simp only at F;omega
  .obtain⟨o1,G⟩:=ho j b f;by_cases B:l=m
   .rw[B,a];intro _ _ _ _ H;simp only at H;omega
   .obtain⟨o2,I⟩:=ho l hl B;rw[I,G];exact h.un j l o1 o2
 .simp only at b hk⊢;by_cases e:j=m
  .rw[e,a] at hk⊢;exact h.tk i g hk
  .obtain⟨o1,f⟩:=ho j b e;rw[f] at hk⊢;exact h.tk j o1 hk
 .simp only at n y⊢;obtain⟨j,o,p,q⟩:=y;have v:OB k.c x:=by
   by_cases e:j=m
   .rw[e,a] at p q;exact⟨i,g,p,q⟩
   .obtain⟨o1,f⟩:=ho j o e;rw[f] at p q;exact⟨j,o1,p,q⟩
  obtain⟨r,or,r1⟩:=h.ro x n v;exact⟨r,(hb r or).1,by rw[(hb r or).2];exact r1⟩
 .obtain⟨j,o,f⟩:=h.tb x n;exact⟨j,(hb j o).1,by simp only;rw[(hb j o).2];exact f⟩
theorem KJ.mv{A:Int->Int->Int->Prop}(h:KJ k)(m:Mv A k k'):KJ k':=by
 cases m with
 |fY _ r=>exact(h.fY r).1
 |nD ho _ self o=>exact h.nD ho self o
 |alloc hi g=>exact h.alloc hi g
 |pass ho _ _ h1 e s=>exact h.pass ho h1 e s
 | @write i ho _ hk g a v=>
  obtain⟨f1,f2,f3,_⟩:=wQ k.f (bG k.c i).ob a v;have ft:∀x,dM (iV k.f (bG k.c i).ob a v) x=dM k.f x:=λx=>FF f1 f2 x
  exact⟨h.ci,by simp only;rw[f2];exact h.fT,by simp only;rw[f1];exact h.fn,h.pl,h.un,λj p hk=>by simp only;rw[ft];exact h.tk j p hk,λx d q=>h.ro x (by simp only at d;rw[ft] at d;exact d) q,h.tb⟩
 |load ho hk he hf g=>
  refine⟨h.ci,h.fT,h.fn,h.pl,h.un,h.tk,h.ro,λy l=>?_⟩;rcases Md l with l|rfl
  .exact h.tb y l
  .exact⟨_,ho,he,hk,hf,g⟩
 |tl t=>exact h.same rfl rfl t
 |xM b v s n=>exact h.same rfl rfl (λx d=>d)
end
variable{x0:Hd}{k1 k2:Kv}{op N E:Int}
section
theorem aaL{r:Int}(h:0<=r/\r<=15)(a:dX r 10=0):dX r 8≠8/\dX r 2≠2:=by
 rw[(jF h aQ).1] at a;rw[(jF h aQ).1,(jF h aQ).1];obtain⟨x,rfl⟩:=abR h.1;have key:∀y:Fin 16,(y.val &&& 10=0)->(y.val &&& 8≠8/\y.val &&& 2≠2):=cE;have:=key ⟨x,aQ⟩ (by simp only[abW] at a;show x &&& 10=0;exact_mod_cast a);simp only[abW] at this⊢;exact⟨λe=>this.1 (by exact_mod_cast e),λe=>this.2 (by exact_mod_cast e)⟩
theorem and_zero{r:Int}(h:0<=r/\r<=15):dX 0 r=0:=by
 rw[(jF aQ h).1];simp
theorem Rb{r:Int}(h:0<=r/\r<=15)(a:dX r 3=3):dX r 2=2:=xB h aQ aQ a cE
structure PS(i0:Nat)(x0:Hd)(k:Kv):Prop where
 oc:Oc k.c i0
 hd:bG k.c i0=x0
 kd:x0.kd=1
 rt:x0.rt≠0
 no:∀j,Oc k.c j->(bG k.c j).kd=1->(bG k.c j).ob=x0.ob->((j /16:Nat):Int)≠((i0 /16:Nat):Int)->(bG k.c j).rt=0
theorem PS.mv{A:Int->Int->Int->Prop}(h:KJ k)(p:PS i0 x0 k)(m:Mv A k k')(F:∀w d o,A w d o->w≠((i0 /16:Nat):Int)\/d≠1\/o≠x0.ob):PS i0 x0 k':=by
 have key:∀i,Oc k.c i->A ((i /16:Nat):Int) (bG k.c i).kd (bG k.c i).ob->(bG k.c i).kd=1->(bG k.c i).ob=x0.ob->(bG k.c i).rt=0:=λi x ha b a=>by
  rcases F _ _ _ ha with h1|h1|h1
  .exact p.no i x b a h1
  .exact absurd b h1
  .exact absurd a h1
 have sub:∀u:Cf,nC u k.c->∀j,Oc u j->(bG u j).kd=1->(bG u j).ob=x0.ob->((j /16:Nat):Int)≠((i0 /16:Nat):Int)->(bG u j).rt=0:=λu s j l b a n=>by
  obtain⟨o1,e⟩:=s.s j l;rw[e] at b a⊢;exact p.no j o1 b a n
 cases m with
 | @fY o' hc _ rr=>
  obtain⟨_,hs,G,hf⟩:=h.fY rr;have r:x0.ob≠o':=λe=>by
   rcases hc with⟨i,x,ha,b,a,n⟩|hc
   .have:=key i x (by rw[b,a];exact ha) b (a.trans e.symm);rw[this] at n;exact absurd n cE
   .exact hc ⟨i0,p.oc,by rw[p.hd];exact⟨p.kd,e⟩⟩
  have or':Oc k'.c i0:=(G i0).2 ⟨p.oc,λhk=>r (by rw[p.hd] at hk;exact hk.2)⟩;exact⟨or',(hs.s i0 or').2.trans p.hd,p.kd,p.rt,sub _ hs⟩
 | @nD i ho ha self L H=>
  have hs:nC (gY k (bG k.c i).nu self L).c k.c:=qE k.c _;have or':Oc (gY k (bG k.c i).nu self L).c i0:=tR.2 ⟨p.oc,λ⟨q,hq,hid⟩=>by
   obtain⟨h1,B,v,C,_⟩:=FX h.ci ho (self:=self) (λp hp=>H.1.mem_iff.1 hp) q hq;rw[hid,p.hd] at B v C;have D:=key i ho ha (B.symm.trans p.kd) v.symm;rw[D,and_zero (by rw[<-p.hd];exact h.ci.rt i0 p.oc)] at C;exact p.rt C.symm⟩
  exact⟨or',(hs.s i0 or').2.trans p.hd,p.kd,p.rt,sub _ hs⟩
 | @alloc i hi e' s B=>
  have y:=(sH hi).2;have z:=h.tk i0 p.oc (by rw[p.hd];exact p.kd);rw[p.hd] at z;have r:x0.ob≠i:=λe=>by rw[<-e,z] at y;cases y
  rcases mS h.ci.len e' s 1 i 15 0 with⟨_,v⟩|⟨m,_,hm,_,_,t,_,_,I,f,hold⟩
  .exact absurd B v
  have g:i0≠m:=λe=>t (e ▸ p.oc)
  refine⟨⟨p.oc.1,by simp only;rw[hold i0 g];exact p.oc.2⟩,by simp only;rw[hold i0 g];exact p.hd,p.kd,p.rt,λj l b a n=>?_⟩;simp only at l b a⊢;by_cases e:j=m
  .rw[e,f] at a;exact absurd a.symm r
  .rw[hold j e] at b a⊢;exact p.no j ⟨l.1,by rw[<-hold j e];exact l.2⟩ b a n
 | @pass i x ha rights D h1 e' s=>
  rcases mS h.ci.len e' s (bG k.c i).kd (bG k.c i).ob rights (bG k.c i).nu with⟨v,_⟩|⟨m,_,hm,_,_,t,E,_,I,f,hold⟩
  .rw[v];exact p
  have g:i0≠m:=λe=>t (e ▸ p.oc)
  refine⟨⟨p.oc.1,by simp only;rw[hold i0 g];exact p.oc.2⟩,by simp only;rw[hold i0 g];exact p.hd,p.kd,p.rt,λj l b a n=>?_⟩;simp only at l b a⊢;by_cases e:j=m
  .rw[e,f] at b a⊢;have J:=key i x ha b a;rw[J,and_zero ⟨E.2.2.2.2.1,E.2.2.2.2.2⟩] at h1;exact h1.symm
  .rw[hold j e] at b a⊢;exact p.no j ⟨l.1,by rw[<-hold j e];exact l.2⟩ b a n
 |write _ _ _ _ _ _=>exact⟨p.oc,p.hd,p.kd,p.rt,p.no⟩
 |load _ _ _ _ _=>exact⟨p.oc,p.hd,p.kd,p.rt,p.no⟩
 |tl _=>exact⟨p.oc,p.hd,p.kd,p.rt,p.no⟩
 |xM _ _ _ _=>exact⟨p.oc,p.hd,p.kd,p.rt,p.no⟩
inductive uF (A:Int->Int->Int->Prop):Kv->Kv->Prop
 |nil (k:Kv):uF A k k
 |cons {k k1 k2:Kv} (m:Mv A k k1) (r:uF A k1 k2):uF A k k2
theorem uF.one{A:Int->Int->Int->Prop}(m:Mv A k k'):uF A k k':= .cons m (.nil _)
theorem uF.trans{A:Int->Int->Int->Prop}(h:uF A k k1)(a:uF A k1 k2):uF A k k2:=by
 induction h with
 |nil _=>exact a
 |cons m _ b=>exact .cons m (b a)
theorem KJ.BH{A:Int->Int->Int->Prop}(h:KJ k)(m:uF A k k'):KJ k':=by
 induction m with
 |nil _=>exact h
 |cons m _ a=>exact a (h.mv m)
theorem PS.BH{A:Int->Int->Int->Prop}(h:KJ k)(p:PS i0 x0 k)(m:uF A k k')(a:∀w d o,A w d o->w≠((i0 /16:Nat):Int)\/d≠1\/o≠x0.ob):PS i0 x0 k':=by
 induction m with
 |nil _=>exact p
 |cons m _ b=>exact b (h.mv m) (p.mv h m a)
def HD(k:Kv):Prop:=∀o,dM k.f o=true->OB k.c o
theorem RW{o:Int}(h:kY k o=false):¬OB k.c o:=λa=>by
 rw[JO.2 a] at h;cases h
theorem HD.fY{k k':Kv}{o:Int}(h:KJ k)(d:HD k)(r:kD k o k'):HD k':=by
 obtain⟨_,hs,f,hf⟩:=h.fY r;intro x b;rw[hf,sN] at b;obtain⟨i,g,j,e⟩:=d x b.1;have a:Oc k'.c i:=(f i).2 ⟨g,λhk=>b.2 (e.symm.trans hk.2)⟩;exact⟨i,a,by rw[(hs.s i a).2];exact⟨j,e⟩⟩
theorem YL{num:Int}{L:List cP}:∀p∈(dC num false L).2,p.h.nu≠num:=by
 suffices key:∀(L:List cP) (st:List Int×List cP),(∀p∈st.2,p.h.nu≠num)->∀p∈(L.foldl (fC num false) st).2,p.h.nu≠num from key L ([num], []) (λp hp=>by cases hp)
 intro L;induction L with
 |nil=>intro st h;exact h
 |cons y L a=>
  intro st h;rw[ad4];refine a _ (λp hp=>?_);unfold fC at hp;split at hp
  .simp only[acH,acG] at hp;exact h p hp
  .rename_i b;split at hp
   .rcases ab6.1 hp with hp|hp
    .exact h p hp
    .rw[ab0.1 hp];exact b
   .exact h p hp
theorem gC.BH{A:Int->Int->Int->Prop}{l:List cP}(r:gC l k k'):uF A k k':=by
 induction r with
 |nil _=>exact .nil _
 |skip _ _ a=>exact a
 |fY h r1 _ a=>exact .cons (.fY (.inr (RW h.2.1)) r1) a
theorem gC.hd{l:List cP}(r:gC l k k'):KJ k->(∀x,dM k.f x=true->OB k.c x\/∃p∈l,p.h.kd=1/\p.h.ob=x)->HD k':=by
 induction r with
 |nil _=>exact λ_ h x a=>(h x a).resolve_right (λ⟨p,hp,_⟩=>by cases hp)
 | @skip p l k k' hs _ ih=>
  intro d h;refine ih d (λx a=>?_);rcases h x a with h1|⟨q,hq,q1,q2⟩
  .exact .inl h1
  .rcases adV.1 hq with e|hq
   .subst e;refine .inl ?_;by_cases j:kY k x=true
    .exact JO.1 j
    .exact absurd ⟨q1,by rw[q2];simpa using j,by rw[q2];exact a⟩ hs
   .exact .inr ⟨q,hq,q1,q2⟩
 | @fY p l k m k' hs r1 _ ih=>
  intro d h;obtain⟨g,o,t,hf⟩:=d.fY r1;refine ih g (λx a=>?_);rw[hf,sN] at a;rcases h x a.1 with⟨i,u,m,n⟩|⟨q,hq,q1,q2⟩
  .have b:=(t i).2 ⟨u,λhk=>a.2 (n.symm.trans hk.2)⟩;exact .inl ⟨i,b,by rw[(o.s i b).2];exact⟨m,n⟩⟩
  .rcases adV.1 hq with e|hq
   .subst e;exact absurd q2.symm a.2
   .exact .inr ⟨q,hq,q1,q2⟩
theorem PY(h:KJ k){s:Int}(he:0<=e/\e<8)(hs:0<=s/\s<16)(a:(mH k.c e s).isSome=false)(hi:jH k.f=some i):(dB k.c e s 1 i 15 0).1=0:=by
 have b:=(sH hi).1;rw[h.fn] at b;have hid:oH e s=some (e.toNat *16+s.toNat):=by unfold oH;rw[abP aQ]
 have d:iR 1 i 15=true:=by unfold iR;exact acB aQ
 unfold dB;rw[d,hid];simp only[ae1,acG];rw[abQ ?_];intro g;unfold mH eX at a;rw[hid] at a;simp only at a;rw[abQ g] at a;cases a
def JL(e:Int):Int->Int->Int->Prop:=λw _ _=>w=e
theorem lH.BH{A B C D:Int}(h:KJ k)(he:0<=e/\e<8)(F:0<=A)(r:lH k e op A B C D N E k'):uF (JL e) k k':=by
 have b:∀other to_ rights more from_,uF (JL e) k {k with c:=(gV k.c e from_ other to_ rights more).2}:=λother to_ rights more from_=>by
  rcases wU (C:=k.c) (env:=e) (from_:=from_) (other:=other) (to_:=to_) (rights:=rights) (more:=more) with a|⟨i,d,a,n,t,g⟩
  .rw[a];exact .nil _
  .rw[g];exact .one (.pass d a.symm n t _ _)
 cases r with
 |alloc _=>
  unfold lJ;split
  .exact .nil _
  .rename_i hs;split
   .exact .nil _
   .rename_i u;split
    .rename_i hf;have:fV k.f=k.f:=by unfold fV;rw[hf]
     rw[this];exact .nil _
    .rename_i i hf;have q:=PY h he (s:=A) aQ (by simpa using u) hf;split
     .rename_i v;exact absurd q v
     .exact .one (.alloc hf q)
 |free _ r=>
  unfold rM at r;split at r
  .rw[r.2];exact .nil _
  .rename_i x l;obtain⟨i,d,a,n,rfl,g,m⟩:=L0 l;exact .one (.fY (.inl ⟨i,d,a.symm,g,rfl,m⟩) r.2)
 |read _=>exact .nil _
 |write _=>
  unfold oD;split
  .exact .nil _
  .rename_i x l;obtain⟨i,d,a,n,rfl,g,m⟩:=L0 l;split
   .exact .nil _
   .exact .one (.write d a.symm g m _ _)
 |load _=>
  unfold mP;split
  .exact .nil _
  .split
   .exact .nil _
   .rename_i x l;obtain⟨i,d,a,n,rfl,g,m⟩:=L0 l;refine .one (.load d g a rfl (λhw=>?_));have hw:=adB hw;rw[abP hw] at m;exact Rb (h.ci.rt i d) m
 |zG _=>exact .one (.tl (λx l=>(ac1.1 l).1))
 |hand _ r=>
  unfold gT at r;split at r
  .injection r with _ r;rw[r];exact b _ _ _ _ _
  .split at r
   .split at r
    .injection r with _ r;rw[r];exact b _ _ _ _ _
    .rw[r.2];exact .nil _
   .split at r
    .unfold pW at r;split at r
     .rw[r.2];exact .nil _
     .rename_i i hi;obtain⟨_,L,p,rfl⟩:=r;unfold r8 at hi;split at hi
      .cases hi
      .rename_i j y;split at hi
       .cases hi
       .injection hi with hi;subst hi;obtain⟨o1,a,_⟩:=mN y;exact .one (.nD o1 a.symm false p)
    .unfold wP at r;split at r
     .rw[r.2];exact .nil _
     .rename_i i hi;obtain⟨_,L,p,z⟩:=r;obtain⟨o1,a,_⟩:=mN hi;exact .cons (.nD o1 a.symm true p) z.BH
 |line _=>exact .nil _
 |p7 _ _=>exact .one (.xM _ _ _ _)
 |time _ r=>
  unfold mQ at r;split at r
  .rw[r.2];exact .one (.xM _ _ _ _)
  .split at r
   .rw[r.2];exact .one (.xM _ _ _ _)
   .rcases r with rfl|rfl
    .exact .nil _
    .exact .one (.xM _ _ _ _)
 |send _ r=>
  rcases r with rfl|⟨o,rfl⟩
  .exact .nil _
  .unfold dQ;split
   .exact .one (.xM _ _ _ _)
   .exact .nil _
 |next _ _=>exact .nil _
 |null _=>exact .nil _
theorem HD.same(h:HD k)(hc:k'.c=k.c)(hf:k'.f=k.f):HD k':=λx a=>by rw[hc];rw[hf] at a;exact h x a
theorem HD.pass{k:Kv}(h:KJ k)(d:HD k)(env from_ other to_ rights more:Int):HD {k with c:=(gV k.c env from_ other to_ rights more).2}:=by
 intro x o;obtain⟨i,a,e,f⟩:=d x o;rcases wU (C:=k.c) (env:=env) (from_:=from_) (other:=other) (to_:=to_) (rights:=rights) (more:=more) with g|⟨j,r,_,_,_,p⟩
 .rw[g];exact⟨i,a,e,f⟩
 .simp only;rw[p];rcases mS h.ci.len other to_ (bG k.c j).kd (bG k.c j).ob rights (bG k.c j).nu with⟨q,_⟩|⟨m,_,hm,_,_,l,_,_,s,n,hold⟩
  .rw[q];exact⟨i,a,e,f⟩
  .have b:i≠m:=λg=>l (g ▸ a)
   exact⟨i,⟨a.1,by rw[hold i b];exact a.2⟩,by rw[hold i b];exact⟨e,f⟩⟩
theorem lH.hd{A B C D:Int}(h:KJ k)(d:HD k)(he:0<=e/\e<8)(R:0<=A)(r:lH k e op A B C D N E k'):HD k':=by
 cases r with
 |alloc _=>
  unfold lJ;split
  .exact d
  .rename_i hs;split
   .exact d
   .rename_i O;split
    .rename_i hf;have:fV k.f=k.f:=by unfold fV;rw[hf]
     rw[this];exact d
    .rename_i i hf;have t:=PY h he (s:=A) aQ (by simpa using O) hf;split
     .rename_i K;exact absurd t K
     .intro x a;obtain⟨t1,_⟩:=KB h.fT (by rw[h.fn];omega) hf;simp only at a⊢;rw[t1] at a;rcases mS h.ci.len e A 1 i 15 0 with⟨_,G⟩|⟨m,_,hm,_,_,I,_,_,K,g,hold⟩
      .exact absurd t G
      rcases a with a|a
      .obtain⟨j,u,l,n⟩:=d x a;have v:j≠m:=λJ=>I (J ▸ u)
       exact⟨j,⟨u.1,by rw[hold j v];exact u.2⟩,by rw[hold j v];exact⟨l,n⟩⟩
      .have:=h.ci.n0;exact⟨m,⟨hm,by rw[g];simp only;omega⟩,by rw[g];exact⟨rfl,a.symm⟩⟩
 |free _ r=>
  unfold rM at r;split at r
  .rw[r.2];exact d
  .exact d.fY h r.2
 |read _=>exact d
 |write _=>
  unfold oD;split
  .exact d
  .split
   .exact d
   .intro x a;simp only at a;obtain⟨f1,f2,_,_⟩:=wQ k.f (by assumption:Hd).ob B (C%256);rw[FF f1 f2] at a;exact d x a
 |load _=>
  unfold mP;split
  .exact d
  .split
   .exact d
   .exact d.same rfl rfl
 |zG _=>exact d.same rfl rfl
 |hand _ r=>
  unfold gT at r;split at r
  .injection r with _ r;rw[r];exact d.pass h _ _ _ _ _ _
  .split at r
   .split at r
    .injection r with _ r;rw[r];exact d.pass h _ _ _ _ _ _
    .rw[r.2];exact d
   .split at r
    .unfold pW at r;split at r
     .rw[r.2];exact d
     .rename_i i hi;obtain⟨_,L,y,rfl⟩:=r;unfold r8 at hi;split at hi
      .cases hi
      .rename_i j H;split at hi
       .cases hi
       .injection hi with hi;subst hi;obtain⟨o1,J,_⟩:=mN H;have hs:nC (gY k (bG k.c j).nu false L).c k.c:=qE k.c _;intro x a;obtain⟨i,P,l,n⟩:=d x a;by_cases hi:∃p∈(dC (bG k.c j).nu false L).2,gD p=i
        .obtain⟨p,hp,hid⟩:=hi;obtain⟨h1,t,G,_,_⟩:=FX h.ci o1 (self:=false) (λp hp=>y.1.mem_iff.1 hp) p hp;rw[hid] at t G;have b:Oc (gY k (bG k.c j).nu false L).c j:=tR.2 ⟨o1,λ⟨q,hq,z⟩=>by
          have M:=YL q hq;rw[(pU (y.1.mem_iff.1 ((xC _ _ _).2 q hq))).2.1,z] at M;exact M rfl⟩
         exact⟨j,b,by rw[(hs.s j b).2];exact⟨t.symm.trans l,G.symm.trans n⟩⟩
        .have F:Oc (gY k (bG k.c j).nu false L).c i:=tR.2 ⟨P,hi⟩;exact⟨i,F,by rw[(hs.s i F).2];exact⟨l,n⟩⟩
    .unfold wP at r;split at r
     .rw[r.2];exact d
     .rename_i i hi;obtain⟨_,L,y,Q⟩:=r;obtain⟨o1,J,_⟩:=mN hi;have hs:nC (gY k (bG k.c i).nu true L).c k.c:=qE k.c _;refine Q.hd (h.nD o1 true y) (λx a=>?_);obtain⟨j,u,l,n⟩:=d x a;by_cases H:∃p∈(dC (bG k.c i).nu true L).2,gD p=j
      .obtain⟨p,hp,hid⟩:=H;have:=(pU (y.1.mem_iff.1 ((xC _ _ _).2 p hp))).2.1;rw[hid] at this;exact .inr ⟨p,hp,by rw[this];exact⟨l,n⟩⟩
      .have b:Oc (gY k (bG k.c i).nu true L).c j:=tR.2 ⟨u,H⟩;exact .inl ⟨j,b,by rw[(hs.s j b).2];exact⟨l,n⟩⟩
 |line _=>exact d
 |p7 _ _=>exact d.same rfl rfl
 |time _ r=>
  unfold mQ at r;split at r
  .rw[r.2];exact d.same rfl rfl
  .split at r
   .rw[r.2];exact d.same rfl rfl
   .rcases r with rfl|rfl
    .exact d
    .exact d.same rfl rfl
 |send _ r=>
  rcases r with rfl|⟨o,rfl⟩
  .exact d
  .unfold dQ;split
   .exact d.same rfl rfl
   .exact d
 |next _ _=>exact d
 |null _=>exact d
def R7(e o:Int):Int->Int->Int->Prop:=λw d x=>w=e/\d=1/\x=o
theorem YV{s:Int}(hs:nC C' C)(h:eX C' e s=some i):eX C e s=some i/\bG C' i=bG C i:=by
 obtain⟨o1,a,b⟩:=mN h;obtain⟨o2,c⟩:=hs.s i o1;exact⟨by rw[a,b];exact I2 o2,c⟩
theorem jA.BH{o:Int}{l:List Int}(r:jA e l k k'):KJ k->(∀s i,eX k.c e s=some i->s∈l->(bG k.c i).kd=1/\(bG k.c i).ob=o)->uF (R7 e o) k k'/\nC k'.c k.c/\k'.f=k.f/\∀x,x≠o->OB k.c x->OB k'.c x:=by
 induction r with
 |nil _=>exact λ_ _=>⟨.nil _,nC.refl _,rfl,λ_ _ h=>h⟩
 | @no s l k k' hn _ ih=>exact λb h=>ih b (λs' i h1 g=>h s' i h1 (by simp[g]))
 | @drop s l k k' i hf L m _ ih=>
  intro b h;obtain⟨o1,u,_⟩:=mN hf;obtain⟨v,n⟩:=h s i hf aT;have hs:nC (gY k (bG k.c i).nu true L).c k.c:=qE k.c _;obtain⟨y,a2,a3,a4⟩:=ih (b.nD o1 true m) (λs' j h1 g=>by
   obtain⟨d,z⟩:=YV hs h1;rw[z];exact h s' j d (by simp[g]))
  refine⟨.cons (.nD o1 ⟨u.symm,v,n⟩ true m) y,a2.trans hs,a3,λx q ⟨j,A,B,t⟩=>a4 x q ?_⟩;have a:Oc (gY k (bG k.c i).nu true L).c j:=tR.2 ⟨A,λ⟨p,hp,hid⟩=>by
   obtain⟨_,_,d,_,_⟩:=FX b.ci o1 (self:=true) (λp hp=>m.1.mem_iff.1 hp) p hp;rw[hid,t,n] at d;exact q d⟩
  exact⟨j,a,by rw[(hs.s j a).2];exact⟨B,t⟩⟩
theorem KP{o s:Int}(h1:eX k.c e s=some i)(a:s∈eV k e o):(bG k.c i).kd=1/\(bG k.c i).ob=o:=by
 obtain⟨j,b,d,f,g,h⟩:=C7.1 a;rw[d,f,I2 b] at h1;injection h1 with h1;subst h1;exact⟨g,h⟩
theorem nJ.BH{o:Int}(h:KJ k)(r:nJ e o k k'):uF (R7 e o) k k'/\(HD k->HD k'):=by
 cases r with
 |no _ m=>rw[m];exact⟨.nil _,λd=>d⟩
 |keep _ r a=>
  obtain⟨f,a2,a3,a4⟩:=r.BH (o:=o) h (λs i h1 a=>KP h1 a);refine⟨f,λd x b=>?_⟩;by_cases g:x=o
  .rw[g];exact JO.1 a
  .rw[a3] at b;exact a4 x g (d x b)
 |fY _ r a j=>
  obtain⟨f,a2,a3,a4⟩:=r.BH (o:=o) h (λs i h1 a=>KP h1 a);have h1:=h.BH f;refine⟨f.trans (.one (.fY (.inr (RW a)) j)),λd x b=>?_⟩;obtain⟨_,hs,n,hf⟩:=h1.fY j;rw[hf,sN,a3] at b;obtain⟨i,p,q,l⟩:=a4 x b.2 (d x b.1);have c:=(n i).2 ⟨p,λhk=>b.2 (l.symm.trans hk.2)⟩;exact⟨i,c,by rw[(hs.s i c).2];exact⟨q,l⟩⟩
end
end
end Go.Proofs.YtacgiflhgdaeaaaGreat
