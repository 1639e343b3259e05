/- Texts laid as one. -/
import Derived.Laws.BitsLemmas
import Derived.Shelf.Abstract
import Derived.Test.YtacgiflhgdaeaaaGreatWZ1
import Derived.Test.YtacgiflhgdaeaaaGreatWZ2
import Derived.Test.YtacgiflhgdaeaaaGreatWZ4
import Derived.Test.YtacgiflhgdaeaaaGreatWZ5
set_option linter.unusedVariables false
set_option linter.unusedSimpArgs false
set_option maxRecDepth 100000
set_option maxHeartbeats 20000000
namespace Go.Proofs.YtacgiflhgdaeaaaGreat
open Go.Proofs.Tryz
open Go renaming World->aA,Value->aC,Addr->aJ,Ending->aM,Calls->aG
open Go.RowKit renaming Below->aD,Hid->aH,intOf->aL
open Go.Obj renaming cells->aI
section
open Go.RowKit Go.Lib Go.Shelf dL Fr Up Nt
variable{F:Nat->Prop}{w:aA}{g:Nat}{k:Kv}{e:Int}
section
theorem WT{a:Ka}(h:bS F w g a k)(hw:KW k)(e o nw gr:Int):aG prog 105 #[.pointer a.gb,e,o,nw,gr] w λx w'=>x= .returned (.int .i64 (gV k.b e o nw gr).1)/\bS F w' g a {k with b:=(gV k.b e o nw gr).2}/\Kp F w w':=by
 obtain⟨G,hb,back⟩:=h.bo;unfold gV;by_cases c:xD e o nw gr
 .rw[abS c];refine(Ij e o nw gr hb (by have:=hw.b;omega) c).mono ?_;rintro x w' ⟨rfl,d,f⟩;by_cases hp:0<=rC k.b e o
  .rw[abS hp] at d⊢;rw[abS hp];exact⟨rfl,(back _ _ _ d f).1,(back _ _ _ d f).2⟩
  .rw[abT hp] at d⊢;rw[abT hp];exact⟨rfl,(back _ _ _ d f).1,(back _ _ _ d f).2⟩
 .rw[abT c];refine(Fk e o nw gr w c).mono ?_;rintro x w' ⟨rfl,rfl⟩;exact⟨rfl,h,Kp.refl _ _⟩
theorem EM{o gr:Int}(h:oI e=false\/o<0\/6<=o):iB k e o gr=(1,k):=by
 unfold iB;rw[abS (by simpa using h)]
theorem VH{o gr:Int}(h1:oI e=true)(a:¬o<0)(c:¬6<=o):iB k e o gr=if eV k e o= [] then(23,k) else
 if(gV k.b e o k.s.nw gr).1≠0 then((gV k.b e o k.s.nw gr).1,k) else(0,dQ {k with b:=(gV k.b e o k.s.nw gr).2} e):=by
 unfold iB;rw[abT (by simp[h1];omega)]
theorem WX{L:List Nt}{o nw gr:Int}(h:(gV L e o nw gr).1≠0):(gV L e o nw gr).2=L:=by
 unfold gV at h⊢;split
 .rename_i h1;rw[abS h1] at h;split
  .rfl
  .rename_i a;rw[abT a] at h;exact absurd rfl h
 .rfl
theorem XU{a:Ka}(h:bS F w g a k)(e o:Int):aG prog 104 #[.pointer g,e,o] w λx w'=>∃A c,x= .returned (.slice A (eV k e o).length c)/\aD w w w':=by
 refine(C5 h e o).mono ?_;rintro x w' ⟨A,c,rfl,_,hb⟩;exact⟨A,c,rfl,hb⟩
theorem Bl{a:Ka}(h:bS F w g a k)(hw:KW k)(e o gr:Int):aG prog 75 #[.pointer g,e,o,gr] w λr w'=>gK F g (iB k e o gr).2 (.int .i64 (iB k e o gr).1) w r w':=by
 obtain⟨c7,_,_⟩:=h.ME;have ps:=h.ps;have pb:=h.pb;unfold pA at ps pb;have j:=aP (CP h e);have u:=aP h;have J:=aP hw;have y:=aP (XU h e o);clear h hw;cases l:oI e with
 |false=>
  have d:aH (iB k e o gr=(1,k)):=EM (.inl l);rw[l] at j;clear l;generalize iB k e o gr=rk at *;go_enter func75,ntmps75
  go_wp2_with fail
  refine aR j ?_;rintro x D ⟨rfl,rfl⟩;go_wp2_with fail
  go_ret
  rw[d.o];exact⟨rfl,⟨a,u.o⟩,Kp.refl _ _⟩
 |true=>
  rw[l] at j;by_cases h1:o<0
  .have d:aH (iB k e o gr=(1,k)):=EM (.inr (.inl h1));clear l;generalize iB k e o gr=rk at *;go_enter func75,ntmps75
   go_wp2_with fail
   refine aR j ?_;rintro x D ⟨rfl,rfl⟩;go_wp2_with fail
   go_ret
   rw[d.o];exact⟨rfl,⟨a,u.o⟩,Kp.refl _ _⟩
  by_cases K:6<=o
  .have d:aH (iB k e o gr=(1,k)):=EM (.inr (.inr K));clear l;generalize iB k e o gr=rk at *;go_enter func75,ntmps75
   go_wp2_with fail
   refine aR j ?_;rintro x D ⟨rfl,rfl⟩;go_wp2_with fail
   go_ret
   rw[d.o];exact⟨rfl,⟨a,u.o⟩,Kp.refl _ _⟩
  have f:=aP (VH (k:=k) (gr:=gr) l h1 K);generalize iB k e o gr=rk at *;clear l;by_cases hs:eV k e o= []
  .have d:aH (rk=(23,k)):=by unfold aH;rw[f.o,abS hs]
   rw[hs] at y;clear hs f;simp only[ac6] at y;go_enter func75,ntmps75
   go_wp2_with fail
   refine aR j ?_;rintro x D ⟨rfl,rfl⟩;go_wp2_with fail
   refine aR y ?_;rintro x P ⟨A,c,rfl,hb⟩;have n:=aP (u.o.below hb);clear hb;go_wp2_with fail
   go_ret
   rw[d.o];exact⟨rfl,⟨a,n.o.1⟩,n.o.2⟩
  .have i:aH (rk=if(gV k.b e o k.s.nw gr).1≠0 then((gV k.b e o k.s.nw gr).1,k) else(0,dQ {k with b:=(gV k.b e o k.s.nw gr).2} e)):=by unfold aH;rw[f.o,abT hs]
   have hl:¬((eV k e o).length:Int)=0:=by
    intro S;exact hs (afT.1 aQ)
   have Q:(((eV k e o).length:Int)==0)=false:=by rw[afA];exact hl
   clear hs f hl;generalize (eV k e o).length=m at *;go_enter func75,ntmps75
   go_wp2_with fail
   refine aR j ?_;rintro x D ⟨rfl,rfl⟩;go_wp2_with fail
   refine aR y ?_;rintro x P ⟨A,c,rfl,hb⟩;have E:=bK hb ps;have H:=bK hb pb;have q:=aP (u.o.below hb);clear hb ps pb c7 y j;obtain⟨G,z,_⟩:=q.o.1.sd;have I:=aP (wO z);clear z;go_wp2_with fail
   refine aR I ?_;rintro x T ⟨rfl,rfl⟩;have t:=aP (WT q.o.1 J.o e o k.s.nw gr);by_cases p:(gV k.b e o k.s.nw gr).1=0
   .have d:aH (rk=(0,dQ {k with b:=(gV k.b e o k.s.nw gr).2} e)):=by unfold aH;rw[i.o,abT (by simpa using p)]
    rw[p] at t;clear p i;generalize (gV k.b e o k.s.nw gr).2=L2 at *;go_wp2_with fail
    refine aR t ?_;rintro x w5 ⟨rfl,B,C⟩;have L:=aP (uC B J.o.p8 e 5 o (IntKind.u64.wrap (wrap64 (k.s.nw+gr))) aQ);have M:=aP (q.o.2.trans C);clear B C t I q E H;go_wp2_with fail
    refine aR L ?_;rintro x U ⟨v,rfl,N,O⟩;have n:=bO N (M.o.trans O);clear N O L M;go_wp2_with fail
    go_ret
    rw[d.o];exact⟨rfl,⟨a,n.o.1⟩,n.o.2⟩
   .have d:aH (rk=((gV k.b e o k.s.nw gr).1,k)):=by unfold aH;rw[i.o,abS p]
    rw[WX p] at t;have R:((gV k.b e o k.s.nw gr).1 !=0)=true:=by simp[p]
    clear p i;generalize (gV k.b e o k.s.nw gr).1=v2 at *;go_wp2_with fail
    refine aR t ?_;rintro x w5 ⟨rfl,B,C⟩;have n:=bO B (q.o.2.trans C);clear B C t I q;go_wp2_with fail
    go_ret
    rw[d.o];exact⟨rfl,⟨a,n.o.1⟩,n.o.2⟩
end
end
section
open Go.RowKit Go.Lib Go.Shelf
variable{F:Nat->Prop}{w:aA}{g n:Nat}
section
theorem Ik{y:Wa}(h:dJ F w g n y):aG prog 218 #[.pointer g] w λe w'=>e= .returned (.int .i64 y.nw)/\w=w':=by
 have c0:=h.c0;have c1:=h.c1;clear h;go_enter func218,ntmps218
 go_wp2_with fail
 go_ret
 exact⟨rfl,rfl⟩
theorem W8(n:Int)(a:0<=n)(h₁:n<2 ^ 63):IntKind.i64.wrap n=n:=by rw[IntKind.wrap_i64];omega
theorem Wv(x:Int)(a:0<=x)(h1:x<9223372036854775808):bits .and .i64 x 63=x%64:=by
 simpa using bits_mask .i64 63 cH W8 6 cH x a (by simpa using h1)
theorem lL(x:Int)(a:0<=x)(h1:x<9223372036854775808):(x%64).toNat<=63/\bits .and .i64 x 63=(((x%64).toNat:Nat):Int):=by
 rw[Wv x a h1];omega
theorem KP{y:Wa}(h:dJ F w g n y)(at_:Int)(a:0<=at_/\at_<=2097152):aG prog 229 #[.pointer g,at_] w λe w'=>(∃l s:Nat,l<=3/\s<=63/\e= .returned (.tuple #[l,s]))/\aD w w w':=by
 have c1:=h.c1;generalize y.nw=nw at *;clear h;go_enter func229,ntmps229
 go_wp2_with fail
 refine wp_loop_rounds 4 ?_;rw[rounds_succ];go_upto_region 1 with(fail)
 go_quiet (fail)
 go_wp2_with fail
 rotate_left
 .go_quiet (fail)
  go_wp2_with fail
  go_ret2
  exact⟨⟨0,(at_%64).toNat,aQ,(lL at_ aQ aQ).1,by first|rfl|simp[(lL at_ aQ aQ).2]⟩,by repeat first|exact Below.refl _ _|refine fL ?_ _⟩
 rw[rounds_succ];go_upto_region 1 with(fail)
 go_quiet (fail)
 go_wp2_with fail
 rotate_left
 .go_quiet (fail)
  go_wp2_with fail
  go_ret2
  exact⟨⟨1,((at_ /64)%64).toNat,aQ,(lL (at_ /64) aQ aQ).1,by first|rfl|simp[(lL (at_ /64) aQ aQ).2]⟩,by repeat first|exact Below.refl _ _|refine fL ?_ _⟩
 rw[rounds_succ];go_upto_region 1 with(fail)
 go_quiet (fail)
 go_wp2_with fail
 rotate_left
 .go_quiet (fail)
  go_wp2_with fail
  go_ret2
  exact⟨⟨2,((at_ /4096)%64).toNat,aQ,(lL (at_ /4096) aQ aQ).1,by first|rfl|simp[(lL (at_ /4096) aQ aQ).2]⟩,by repeat first|exact Below.refl _ _|refine fL ?_ _⟩
 rw[rounds_succ];go_upto_region 1 with(fail)
 go_quiet (fail)
 go_wp2_with fail
 go_quiet (fail)
 go_wp2_with fail
 go_ret2
 exact⟨⟨3,((at_ /262144)%64).toNat,aQ,(lL (at_ /262144) aQ aQ).1,by first|rfl|simp[(lL (at_ /262144) aQ aQ).2]⟩,by repeat first|exact Below.refl _ _|refine fL ?_ _⟩
end
variable{w':aA}{i m:Nat}{A:Option aJ}
section
theorem dJ.rowAt{y:Wa}(h:dJ F w g n y)(hi:i<y.R.length){c:Nat}{xs:List Int}(ho:bH eI 1 w' 0 3 A c xs)(e:w.grownBy w' (aY y.R[i].A))(ha:aY A=aY y.R[i].A\/aY A=some w.heap.size):
 w'.cell? (g,4+i)=some (r6 y.R[i])/\w'.frozen? (g,4+i)=false:=by
 obtain⟨G,f,back⟩:=Ob.use h.o (2+i) _ (GQ hi);have a:gQ eI 1 3 y.R[i].A y.R[i].c y.R[i].xs G w:=f;obtain⟨t1,t2⟩:=a.eQ ho e ha;obtain⟨b1,b2⟩:=back (QL ⟨A,c,xs⟩) w' t1 t2;rw[L5] at b1;obtain⟨j,d,_⟩:=Ob.use b1 0 _ rfl;have hb:mV g 339 (vV y).toArray j w':=d;refine⟨hb.b.cell (4+i) _ ?_,hb.b.frozen _⟩;rw[ab4,vV,ab2 aT];simp[hi]
theorem DR{y:Wa}(h:dJ F w g n y)(d:Du)(hd:0<=d.at_/\d.at_<=2097152)(hm:n<=m)(hs:iD y.R+1<=m)(x:m<=1000000):
 aG prog 187 #[.pointer g, .agg #[d.at_,d.hd,d.wh]] w λe w'=>e= .returned (.tuple #[])/\∃R,dJ F w' g m {y with R:=R}/\iD R=iD y.R+1/\Kp F w w':=by
 obtain⟨z,j,H⟩:=d;have u:=aX w (aI #[z,j,H] 274);have I:=bF.new w 274 #[z,j,H];have H1:=aP (h.below u);have P:=aP (KP (h.below u).1 z hd);have E:=dE hm hs x;clear h hm hs x u;go_enter func187,ntmps187
 go_upto_region 1 with(fail)
 generalize w.alloc (aI #[z,j,H] 274)=w1 at *;generalize w.heap.size=q1 at *;have T:=I.cell 0 z rfl;go_wp2_with fail
 refine aR P ?_;rintro e b ⟨⟨l,s,hl,hs,rfl⟩,v⟩;have k:=H1.o.1.below v;have hlen:y.R.length=256:=k.1.i.len;have hi:l *64+s<y.R.length:=aQ;have U:=aP (I.keep v);have l0:¬(l:Int)<0:=aQ;have Z:(l:Int)<4:=aQ;have s0:¬(s:Int)<0:=aQ;have V:(s:Int)<64:=aQ;have G:aH (∀W,aD b b W->W.cell? (g,4+l *64+s)=some (r6 (y.R[l *64+s]'hi))/\W.frozen? (g,4+l *64+s)=false/\bH eI 1 W 0 3 (y.R[l *64+s]'hi).A (y.R[l *64+s]'hi).c (y.R[l *64+s]'hi).xs):=λW t=>⟨by rw[show 4+l *64+s=4+(l *64+s) by omega];exact(k.1.below t).1.cr hi,(k.1.below t).1.fz _,(k.1.below t).1.row hi⟩
 have B:=aX b.drew (aI #[j] 3);have f:aH (aD b b (b.drew.alloc (aI #[j] 3))):=fI (Below.refl _ _).drew (abQ _) B;have c0:=(G.o _ (Below.refl _ _)).1;have J:=(G.o _ f.o).1;have K:=(G.o _ (aX b (aI #[j] 3))).1;have y1:=U.o.cell 1 j rfl;have L:(y.R[l *64+s]'hi).xs.length<=1000000:=by
  have:=yP hi;have:=E.o.2.1;have:=E.o.2.2;omega
 have C:aH (∀(W w':aA) (A:Option aJ) (c:Nat) (xs:List Int),aD b b W->bH eI 1 w' 0 3 A c xs->W.grownBy w' (aY (y.R[l *64+s]'hi).A)->(aY A=aY (y.R[l *64+s]'hi).A\/aY A=some W.heap.size)->w'.cell? (g,4+l *64+s)=some (r6 (y.R[l *64+s]'hi))/\w'.frozen? (g,4+l *64+s)=false):=λW w' A c xs t ho M ha=>by
  rw[show 4+l *64+s=4+(l *64+s) by omega];exact(k.1.below t).1.rowAt hi ho M ha
 have N:aH (∀(W w':aA) (A:Option aJ) (c:Nat) (xs:List Int),aD b b W->bH eI 1 w' 0 3 A c xs->W.grownBy w' (aY (y.R[l *64+s]'hi).A)->(aY A=aY (y.R[l *64+s]'hi).A\/aY A=some W.heap.size)->xs.length=(y.R[l *64+s]'hi).xs.length+1->∃R,dJ F (w'.setCell (g,4+l *64+s) (.slice A xs.length c)) g m {y with R:=R}/\iD R=iD y.R+1/\Kp F w (w'.setCell (g,4+l *64+s) (.slice A xs.length c))):=λW w' A c xs t ho M ha hx=>by
  rw[show 4+l *64+s=4+(l *64+s) by omega];have O:=DP hi ⟨A,c,xs⟩;simp only at O;obtain⟨r1,X⟩:=(k.1.below t).1.setRow hi ho M ha E.o.1 (by have:=E.o.2.1;omega);exact⟨_,r1,aQ,(H1.o.2.trans k.2).trans ((k.1.below t).2.trans X)⟩
 generalize Q:y.R[l *64+s]'hi=r at *;have Hr:=aP Q;obtain⟨A,c,xs⟩:=r;simp only[r6] at c0 J K L;clear Q k B T I v hlen P H1;go_upto_region 2 with(fail)
 go_wp2_with fail
 go_region_law (refine kM _ rfl (.tmp 23) (.tmp 26) rfl Vn gR (base:=0) (xs:=xs) (G.o _ f.o).2.2 (n:=xs.length) rfl rfl (m:=1) rfl (ys:= [j]) rfl (Sl.fH gR b.drew j _ rfl _ rfl) dN aQ aQ _ rfl (xs.length+1) rfl ?_;intro A5 c5 w5 a p q;(have Y:w5.cell? (g,4+l *64+s)=some (.slice A xs.length c):=(C.o _ _ _ _ _ f.o a p q).1);(have f5:w5.frozen? (g,4+l *64+s)=false:=(C.o _ _ _ _ _ f.o a p q).2))
 all_goals
  have S:=aP (N.o _ _ _ _ _ f.o a p q aT);have D:(xs++ [j]).length=xs.length+1:=aT;rw[D] at S;clear a p q Y f5 D;first|go_end0|(go_wp2_with fail;go_end0)
  exact⟨rfl,S.o⟩
end
section
theorem dJ.mono{y:Wa}(h:dJ F w g n y)(hm:n<=m):dJ F w g m y:=
 ⟨h.o,⟨h.i.nw,⟨h.i.hs.1,by have:=h.i.hs.2;omega⟩,h.i.len,by have:=h.i.sum;omega,h.i.ok⟩⟩
theorem CK(g n:Nat)(y:Wa):dV (λF w=>dJ F w g n y):=λF G H w w' h k a fl hH=>⟨Ob.cM _ F G H w w' h.o k a fl hH,h.i⟩
def Qu(F:Nat->Prop)(g n:Nat)(w:aA)(e:aM)(w':aA):Prop:=∃H E:Int,e= .returned (.tuple #[H,E])/\CN F w' g (n+1)/\Kp F w w'
theorem Kh{y:Wa}(h:dJ F w g n y)(H:n+1<=1000000)(at_ c:Int)(f:0<=c/\c<4):aG prog 217 #[.pointer g,at_,c] w (Qu F g n w):=by
 have c0:=h.c0;have c1:=h.c1;have c2:=h.c2;have f2:=h.fz 2;have Z:=h.i.nw;have N:=h.i.hs;have z:aH (CN F w g (n+1)/\Kp F w w):=⟨⟨y,h.mono aQ⟩,Kp.refl _ _⟩
 by_cases h1:at_<=y.nw
 .generalize y.nw=nw at *;clear h f H;go_enter func217,ntmps217
  go_wp2_with fail
  go_ret2
  exact⟨0,1,rfl,z.o.1,z.o.2⟩
 by_cases h2:2097152<at_
 .generalize y.nw=nw at *;clear h f H;go_enter func217,ntmps217
  go_wp2_with fail
  go_ret2
  exact⟨0,1,rfl,z.o.1,z.o.2⟩
 have Q:=aP (show(0<=c/\c<4)/\0<=at_/\at_<=2097152 by omega);have H1:=aP (h.Xj (m:=n+1) (v:=y.hs+1) aQ aQ);have HN:=aP H;clear z;obtain⟨a,s⟩:∃v,v=y.hs+1:=⟨_,rfl⟩
 have hv:0<=a/\a<=1000000:=aQ;rw[<-s] at H1;have r:=h.i.sum;have A:aH (iD y.R<=n):=r;clear h r f;go_enter func217,ntmps217
 go_upto_region 6 with(fail)
 rw[<-s];clear s c2 f2 N H c0 c1;generalize w.setCell (g,2) a=I at *;have c2:=H1.o.1.c2;simp only at c2;go_upto_region 7 with(fail)
 have B:=aX I (aI #[at_,a,c] 274);have C:=bF.new I 274 #[at_,a,c];have J:=aP (And.intro ((CK g (n+1) {y with hs:=a}).box H1.o.1 H1.o.1.fl (aI #[at_,a,c] 274)) (H1.o.2.trans (H1.o.1.below B).2));clear B H1 c2;generalize I.alloc (aI #[at_,a,c] 274)=w2 at *;generalize I.heap.size=q2 at *;have d0:=C.cell 0 at_ rfl;have d1:=C.cell 1 a rfl;have d2:=C.cell 2 c rfl;have c3:=J.o.1.c3;simp only at c3;have j:=bE c3;have k:=bE d0;have l:=bE d1;have p:=bE d2;refine bN (bP _) (λ_=>bP) [] (λ_ _ _=>True) [7] [] 54 (bZ _) (λ_ _ _ h S=>bV h S) (λ_ d hd _ v w w' _ h S=>by cases hd) aV aV aZ ?_;repeat refine eK ?_
 refine dG ?_;intro γ w5 t hT;clear j k l p;simp only[cE,Act.put,abP,abV,abU];refine dS ?_;obtain⟨O,T⟩:=J.o.1.below t;have U:=aP (C.keep t);have V:=aP O.mp;have K:=bO O (J.o.2.trans T.unbox);clear O T t hT J C d0 d1 d2 c3;refine G7 AM w5 rfl (.tmp 45) (.tmp 47) (.tmp 48) 335 3 274 rfl underlying335 underlying3 y.M a ⟨at_,a,c⟩ rfl rfl rfl V.o ?_;intro w6 D E;have L:=aP (K.o.1.V0 D E (λx d u=>by
  unfold gG at u;split at u
  .injection u with u;subst u;exact Q.o
  .exact K.o.1.i.ok x d u))
 have q:=aP (L.o.2.aY U.o (.inr rfl));have G:=aP (K.o.2.trans L.o.2.unbox);have W:=aP (DR (m:=n+1) L.o.1 ⟨at_,a,c⟩ Q.o.2 (abQ _) (by have:=A.o;show iD y.R+1<=n+1;omega) HN.o);have d0:=q.o.cell 0 at_ rfl;have d1:=q.o.cell 1 a rfl;have d2:=q.o.cell 2 c rfl;clear D E V K U;refine cY ?_;try refine cI ?_
 go_wp2_with fail
 refine aR W ?_;rintro e w7 ⟨rfl,R,X,_,P⟩;have d17:=P.cell d1 (.inr rfl);have Y:=bO X (G.o.trans P.unbox);clear X P W L q G d0 d1 d2;go_wp2_with fail
 go_ret2
 exact⟨a,0,rfl,⟨_,Y.o.1.less (λb hb=> .inl hb)⟩,Y.o.2⟩
end
section
namespace DI
theorem Dx:(prog.info? 3).map (λi=>(i.zero,i.size,i.bytes))=some (some (.int .i64 0),1,8):=aV
theorem kU:∀w,(zeroValue 3).run prog w= .ok (.int .i64 0) w:=λw=>by kernel_rfl
theorem fK{c:Nat}(h:n=m):Ending.returned (.slice A n c)= .returned (.slice A m c):=by rw[h]
theorem lV(g c i k base:Nat)(L:List Int)(w:aA)(own:bH eI 1 w base 3 g c L)(s:L.length=i+1+k)(hl:L.length<=4000000):
 aG prog 250 #[.slice g L.length c,i, .int .i64 ((i:Int)+1)] w λe w'=>e= .returned (.slice g (L.eraseIdx i).length c)/\bH eI 1 w' base 3 g c (L.eraseIdx i)/\w.grownBy w' (some g):=by
 obtain⟨i0,n,G,p,H⟩:=info_parts Dx;have v:(L.eraseIdx i).length=i+k:=by rw[adN,abS aQ];omega
 obtain⟨_,_,_,x,y,_,_⟩:=eY own;simp only[maxLen] at y;obtain⟨news,b⟩:∃news,news=(L.drop (i+1)).flatMap eI:=⟨_,rfl⟩
 have s1:aH (news.length=k):=by unfold aH;rw[b,fF gR.len,ad7];omega
 have s2:aH (∀u∈news,u.oneCell'=true):=λu hu=>rG gR _ u (by rw[<-b];exact hu)
 have C:aH (∀t,t<news.length->(w.drew.cell? ⟨g,0+i+t,none⟩).isSome=true/\w.drew.frozen? ⟨g,0+i+t,none⟩=false):=λt D=>by
  rw[s1.o] at D;exact dD own _ aQ
 have I:aH (∀t u,news[t]?=some u->w.drew.cell? ((⟨g,i+1,none⟩:aJ).add t)=some u):=λt u hu=>by
  have D:t<k:=by rw[<-s1.o];exact(ab7.1 hu).1
  have hF:=oR gR.len L (i+1);rw[b,hF,adF] at hu;rw[Addr.add_lit];obtain⟨cur,_,J,_,_,_,K⟩:=eY own;show w.cell? _=_;rw[cell_of_row w g _ cur _ (0,0) J,<-hu,<-K,acN,abS aQ,acH,adT]
 obtain⟨m,h⟩:∃m,m=w.drew.setCells g (0+i) news:=⟨_,rfl⟩
 have E:=aP h;have q:=tS (w:=w.drew) gR.len own.drew i k s [.int .i64 0] rfl;simp only[adT] at q;rw[<-b,show w.drew.setCells g i news=m by rw[h,acT]] at q;have a:=aP q;have d:∀j,j<c->(m.cell? ⟨g,j,none⟩).isSome=true/\m.frozen? ⟨g,j,none⟩=false:=λj F=>by
  rw[h];have:=dD own j aQ;exact⟨Go.World.isSome_setCells g _ _ _ _ this.1,by rw[World.frozen?_setCells];exact this.2⟩
 have l:∀ty r z,r=1->(Builtin.clear_ #[35] ty #[.slice (some ⟨g,i+k,none⟩) r z]).run prog m= .ok (.tuple #[]) (m.setCells g (i+k) [.int .i64 0]):=λty r z A=>
  lE m _ 3 ty _ underlying35 kU [.int .i64 0] aV cH g (i+k) r z A (λj F=>d _ (by simp at F;omega))
 clear h q d b;rw[s];rw[s] at x;have M:i<=c:=aQ;have N:i+1<=c:=aQ;have O:(0:Int)<=i+1:=aQ;have P:(i:Int)+1<=(i:Int)+1+(k:Int):=aQ;by_cases hce:c=i+1
 .obtain rfl:k=0:=aQ;obtain rfl:news= []:=acQ (by rw[s1.o]);have B:aH (∀t u,([]:List aC)[t]?=some u->w.drew.cell? ((⟨g,0,none⟩:aJ).add t)=some u):=λt u hu=>by simp at hu
  subst hce;have f:=λty=>l ty (i+1 - i) (i+1 - i) aQ
  simp only[acD] at f v⊢;have Q:(i:Int)<=(i:Int)+1:=aQ;have R:i+1 - i=1:=aQ;rw[R] at f;clear l;go_enter func250,ntmps250
  go_wp2_with fail
  go_region_law (refine step_append_room rfl (.tmp 22) (.tmp 25) 35 rfl 3 i0 1 underlying35 n p g 0 i (i+1) (by simp[Act.eval,Act.put]) ⟨g,0,none⟩ 0 0 [] (by simp[Act.eval,Act.put]) (by rw[adT];exact s1.o) B.o s2.o aQ (by rw[adT];exact C.o) ?_;(try simp only[adT]);rw[<-E.o])
  go_wp2
  go_ret
  exact⟨fK aQ,a.o.1,⟨a.o.2.os,a.o.2.tape,a.o.2.output,a.o.2.size,a.o.2.block⟩⟩
 .have f:=λty=>l ty (i+1+k - (i+k)) (c - (i+k)) aQ
  clear l;go_enter func250,ntmps250
  go_wp2_with fail
  go_region_law (refine step_append_room rfl (.tmp 22) (.tmp 25) 35 rfl 3 i0 1 underlying35 n p g 0 i c (by simp[Act.eval,Act.put]) ⟨g,i+1,none⟩ k (c - (i+1)) news (by simp[Act.eval,Act.put]) (by rw[adT];exact s1.o) I.o s2.o aQ (by rw[adT];exact C.o) ?_;(try simp only[adT]);rw[<-E.o])
  go_wp2
  go_ret
  exact⟨fK aQ,a.o.1,⟨a.o.2.os,a.o.2.tape,a.o.2.output,a.o.2.size,a.o.2.block⟩⟩
end DI
end
section
theorem Ns(L:List Int)(v:Int):uT L v= -1\/∃k:Nat,k<L.length/\uT L v=k:=by
 unfold uT;cases h:L.findIdx? (λx=>decide (x=v)) with
 |none=>exact .inl rfl
 |some i=>exact .inr ⟨i,(acB.1 h).1,rfl⟩
def SG(F:Nat->Prop)(g n:Nat)(w:aA)(e:aM)(w':aA):Prop:=∃b,e= .returned (.bool b)/\CN F w' g n/\Kp F w w'
theorem S6{y:Wa}(h:dJ F w g n y)(hn:n<=1000000)(x:Int):aG prog 216 #[.pointer g,x] w (SG F g n w):=by
 have c0:=h.c0;have c3:=h.c3;have a:=wY underlying335 underlying3 (z:= .agg #[aU,aU,aU]) (P:=prog) (w:=w) aV h.mp x true;have HN:=aP hn;clear hn;cases hf:y.f x with
 |none=>
  rw[hf] at a;simp only[adP,Option.getD_none,adR,ac2] at a;have D:aH (SG F g n w (.returned (.bool false)) (w.alloc (aI #[aU,aU,aU] 274))):=⟨false,rfl,⟨y,(h.below (aX w _)).1⟩,(h.below (aX w _)).2⟩
  clear h hf;go_enter func216,ntmps216
  go_wp2_with fail
  go_ret
  exact D.o
 |some d=>
  have I:=h.i.ok x d hf;rw[hf] at a;obtain⟨E,Z,dw⟩:=d;simp only[acP,af2,adQ,ac2,AM] at a;have HD:=aP I.2;have J:=aX w (aI #[E,Z,dw] 274);have xb:=bF.new w 274 #[E,Z,dw];have H1:=aP (And.intro ((CK g n y).box h h.fl (aI #[E,Z,dw] 274)) (h.below J).2);clear h hf I J;go_enter func216,ntmps216
  go_upto_region 6 with(fail)
  clear c0 c3 a;generalize w.alloc (aI #[E,Z,dw] 274)=w1 at *;generalize w.heap.size=q1 at *;have c3:=H1.o.1.c3;obtain⟨w2,L,M,N⟩:=BX (P:=prog) underlying335 underlying3 H1.o.1.mp x 0;have O:=aP (H1.o.1.V0 M N (λz d u=>by
   unfold gG at u;split at u
   .cases u
   .exact H1.o.1.i.ok z d u))
  have Q:=aP (O.o.2.aY xb (.inr rfl));have B:=aP (H1.o.2.trans O.o.2.unbox);clear M N;have d0:=Q.o.cell 0 E rfl;have HP:=aP (KP O.o.1 E HD.o);go_wp2_with fail
  refine aR HP ?_;rintro e S ⟨⟨l,s,hl,hs,rfl⟩,hb3⟩;have j:=O.o.1.below hb3;have hlen:y.R.length=256:=j.1.i.len;have hi:l *64+s<y.R.length:=aQ;have c4:S.cell? (g,4+l *64+s)=some (r6 (y.R[l *64+s]'hi)):=by
   rw[show 4+l *64+s=4+(l *64+s) by omega];exact j.1.cr hi
  have T:aH (bH eI 1 S 0 3 (y.R[l *64+s]'hi).A (y.R[l *64+s]'hi).c (y.R[l *64+s]'hi).xs):=j.1.row hi;have hlX:(y.R[l *64+s]'hi).xs.length<=1000000:=by
   have h1:=yP hi;have h2:iD y.R<=n:=j.1.i.sum;have:=HN.o;omega
  have G:=aP (LL (c:=(y.R[l *64+s]'hi).c) (T.o.sl gR) (by show(y.R[l *64+s]'hi).xs.length<=_;omega) x);have H3:=bO j.1 (B.o.trans (j.2).unbox);have l0:¬(l:Int)<0:=aQ;have l4:(l:Int)<4:=aQ;have s0:¬(s:Int)<0:=aQ;have s64:(s:Int)<64:=aQ;have U:aH (∀(W w':aA) (A:Option aJ) (c:Nat) (xs:List Int),aD S S W->bH eI 1 w' 0 3 A c xs->W.grownBy w' (aY (y.R[l *64+s]'hi).A)->aY A=aY (y.R[l *64+s]'hi).A->xs.length<=(y.R[l *64+s]'hi).xs.length->
   (w'.cell? (g,4+l *64+s)=some (r6 (y.R[l *64+s]'hi))/\w'.frozen? (g,4+l *64+s)=false)/\CN F (w'.setCell (g,4+l *64+s) (.slice A xs.length c)) g n/\Kp F w (w'.setCell (g,4+l *64+s) (.slice A xs.length c))):=λW w' A c xs hW ho hg ha H=>by
   rw[show 4+l *64+s=4+(l *64+s) by omega];have hsm:=DP hi ⟨A,c,xs⟩;simp only at hsm;have hsum:iD y.R<=n:=j.1.i.sum;obtain⟨V,hW2⟩:=j.1.below hW;obtain⟨r1,r2⟩:=V.setRow hi ho hg (.inl ha) (abQ n) (by show iD (y.R.set (l *64+s) ⟨A,c,xs⟩)<=n;omega);exact⟨V.rowAt hi ho hg (.inl ha),⟨_,r1.less (λb hb=> .inl hb)⟩,(B.o.trans (j.2).unbox).trans ((hW2.trans r2).unbox)⟩
  generalize hr:y.R[l *64+s]'hi=r at *;have Hr:=aP hr;obtain⟨A,c,xs⟩:=r;simp only[r6] at c4 hlX G T;clear hr j hb3 hlen HP O Q B H1 c3 L d0;rcases Ns xs x with H|⟨k,hk,H⟩
  .rw[H] at G;clear H;go_wp2_with fail
   refine aR G ?_;rintro e w4 ⟨rfl,rfl⟩;have D:aH (SG F g n w (.returned (.bool true)) S):=⟨true,rfl,⟨_,H3.o.1.less (λb hb=> .inl hb)⟩,H3.o.2⟩
   go_wp2_with fail
   go_ret
   exact D.o
  .rw[H] at G;clear H;obtain⟨q,rfl⟩:∃q,A=some ⟨q,0,none⟩:=by
    rcases T.o.shape with⟨_,h2,_⟩|h2
    .rw[h2] at hk;simp at hk
    .exact h2
   have HK:=aP hk;have k0:(0:Int)<=k:=aQ;go_wp2_with fail
   refine aR G ?_;rintro e w4 ⟨rfl,rfl⟩;clear G;go_upto_region 10 with(fail)
   have p:=bE c4;refine bN (bP _) (λ_=>bP) [] (λ_ _ _=>True) [14,19] [] 73 (bZ _) (λ_ _ _ h u=>bV h u) (λ_ d hd _ v w w' _ h u=>by cases hd) aV aV aZ ?_;repeat refine eK ?_
   refine dG ?_;intro γ w5 C hT;clear p;simp only[cE,Act.put,abP,abV,abU];refine dS ?_;have X:=aP (DI.lV q c k (xs.length - (k+1)) 0 xs w5 (T.o.keep C) (by have:=HK.o;omega) aQ);have HL:aH ((xs.eraseIdx k).length<=xs.length):=aeL _ _;have HB5:=aP C;clear C hT c4 T H3;refine wpList_plain rfl (λK hK=>?_);go_wp2_with fail
   refine aR X ?_;rintro e w6 ⟨rfl,t,Y⟩;have HR:=aP (U.o w5 w6 _ _ _ HB5.o t Y rfl HL.o);have c6:=HR.o.1.1;have f6:=HR.o.1.2;simp only[r6] at c6;have D:=aP HR.o.2;clear t Y X U HR HL;generalize (xs.eraseIdx k).length=m at *;refine hK _ _ ?_;clear hK K;refine wpList_plain rfl (λK hK=>?_);go_simp
   refine hK _ _ ?_;clear hK K;refine cY ?_;try refine cI ?_
   go_wp2_with fail
   go_ret
   exact⟨true,rfl,D.o.1,D.o.2⟩
end
end
section
open Go.RowKit Go.Lib Go.Shelf dL Fr Up Nt
variable{F:Nat->Prop}{w:aA}{g:Nat}{k:Kv}
section
theorem IK{a:Ka}(h:bS F w g a k)(f:k.n<=1000000)(x:Int):aG prog 216 #[.pointer a.gw,x] w λe w'=>∃b,e= .returned (.bool b)/\bS F w' g a k/\Kp F w w':=by
 obtain⟨G,⟨y,i⟩,back⟩:=h.wh;refine(S6 i f x).mono ?_;rintro e w' ⟨b,rfl,c,d⟩;exact⟨b,rfl,(back k.n _ c d).1,(back k.n _ c d).2⟩
theorem N4{a:Ka}(h:bS F w g a k):∃v:Int,(0<=v/\v<=1048576)/\∀W,aD w w W->aG prog 218 #[.pointer a.gw] W λe w'=>e= .returned (.int .i64 v)/\W=w':=by
 obtain⟨G,⟨y,b⟩,_⟩:=h.wh;exact⟨y.nw,b.i.nw,λW c=>Ik (b.below c).1⟩
theorem SH{a:Ka}(h:bS F w g a k)(i:k.n+1<=1000000)(at_ b:Int)(c:0<=b/\b<4):aG prog 217 #[.pointer a.gw,at_,b] w λe w'=>∃H E:Int,e= .returned (.tuple #[H,E])/\bS F w' g a {k with n:=k.n+1}/\Kp F w w':=by
 obtain⟨G,⟨y,j⟩,back⟩:=h.wh;refine(Kh j i at_ b c).mono ?_;rintro e w' ⟨H,E,rfl,d,f⟩;exact⟨H,E,rfl,(back (k.n+1) _ d f).1,(back (k.n+1) _ d f).2⟩
end
section
def F7(F:Nat->Prop)(g:Nat)(k:Kv)(w:aA)(r:aM)(w':aA):Prop:=∃(E:Int) (m:Nat),(k.n<=m/\m<=k.n+1)/\gK F g {k with n:=m} (.int .i64 E) w r w'
theorem S4{a:Ka}(h:bS F w g a k)(e:Nat)(he:e<4)(c:w.cell? (g,11+e)=some (.int .i64 0)):aG prog 171 #[.pointer g,e,aU] w (F7 F g k w):=by
 have b:aH (F7 F g k w (.returned (.int .i64 0)) w):=⟨0,k.n,⟨abQ _,adA _⟩,rfl,⟨a,h⟩,Kp.refl _ _⟩
 have d:(e:Int)<8:=aQ;clear h;go_enter func171,ntmps171
 go_wp2_with fail
 go_ret
 exact b.o
theorem YC{a:Ka}(h:bS F w g a k)(C:k.n+1<=1000000)(e:Nat)(he:e<4)(v:Int)(D:v≠0)(y:w.cell? (g,11+e)=some (.int .i64 0)):aG prog 171 #[.pointer g,e,v] w (F7 F g k w):=by
 have L:¬(e:Int)<0:=aQ;have M:(e:Int)<8:=aQ;have I:(v==0)=false:=by simp[D]
 have pw:=h.pw;have ps:=h.ps;unfold pA at pw ps;obtain⟨u,_,c⟩:=N4 h;have j:=aP c;obtain⟨G,hs,_⟩:=h.sd;have l:aH (∀W,aD w w W->aG prog 21 #[.pointer a.gs] W λe w'=>e= .returned (.int .i64 k.s.nw)/\W=w'):=λW J=>wO (h.below J).1.sd.choose_spec.1
 have m:aH (∀x,aG prog 217 #[.pointer a.gw, .int .i64 x,e] w.drew λr w'=>∃H E:Int,r= .returned (.tuple #[H,E])/\bS F w' g a {k with n:=k.n+1}/\Kp F w.drew w'):=λx=>SH (h.below (Below.refl w w).drew).1 C x e aQ
 have K:aH (Kp F w w.drew):=(h.below (Below.refl w w).drew).2;clear h hs c;go_enter func171,ntmps171
 go_upto_region 6 with(fail)
 go_region_held3 (λW=>W.cell? (g,10)=some (.pointer a.gw)/\W.cell? (g,6)=some (.pointer a.gs)) (first|exact⟨pw,ps⟩|exact⟨‹_›,‹_›⟩) ((first|(go_at_call 21;(refine aS (l.o _ (Below.refl _ _).drew) ?_);rintro r z ⟨rfl,rfl⟩)|(go_at_call 218;(refine aS (j.o _ (Below.refl _ _).drew) ?_);rintro r z ⟨rfl,rfl⟩)|(go_at_call 217;(refine aS (m.o _) ?_);rintro r z ⟨H,E,rfl,d,A⟩;(have p:=d.pw);(have q:=d.ps);(unfold pA at p q);(have b:=bO d (K.o.trans A));clear d A)))
 all_goals
  by_cases f:E=0
  .have t:(E !=0)=false:=by simp[f]
   have B:=aP (b.o.1.store (11+e) aQ H);have fz:=b.o.1.fz (11+e);obtain⟨v0,hc⟩:=b.o.1.qC (i:=e) aQ;clear f y;go_wp2_with fail
   go_ret
   exact⟨0,k.n+1,⟨aQ,aQ⟩,rfl,B.o.1,b.o.2.trans B.o.2⟩
  .have t:(E !=0)=true:=by simp[f]
   clear f y;go_wp2_with fail
   go_ret
   exact⟨E,k.n+1,⟨aQ,aQ⟩,rfl,⟨a,b.o.1⟩,b.o.2⟩
end
section
theorem RV{a:Ka}(h:bS F w g a k)(q:k.n+1<=1000000)(e:Nat)(he:e<4)(x:Int)(s:x≠0)(j:w.cell? (g,11+e)=some (.int .i64 x)):aG prog 171 #[.pointer g,e,aU] w (F7 F g k w):=by
 have C:¬(e:Int)<0:=aQ;have D:(e:Int)<8:=aQ;have A:(x !=0)=true:=by simp[s]
 have pw:=h.pw;unfold pA at pw;have t:=aP h;have B:=aP q;clear h q s;go_enter func171,ntmps171
 go_upto_region 2 with(fail)
 have c:=bE pw;have f:=bE j;refine bN (bP _) (λ_=>bP) [] (λ_ _ _=>True) [10] [] 65 (bZ _) (λ_ _ _ h j=>bV h j) (λ_ d hd _ v w w' _ h j=>by cases hd) aV aV aZ ?_;repeat refine eK ?_
 refine dG ?_;intro γ w5 hb5 hT;clear c f;simp only[cE,Act.put,abP,abV,abU];refine dS ?_;have m:=t.o.below hb5;have HD:=aP (IK m.1 (by have:=B.o;omega) x);have u:=aP m.2;clear m hb5 hT t pw j;refine wpList_plain rfl (λK hK=>?_);go_wp2_with fail
 refine aR HD ?_;rintro r E ⟨b,rfl,l,y⟩;have f6:=l.fz (11+e);obtain⟨v6,c6⟩:=l.qC (i:=e) aQ;have z:=aP (l.store (11+e) aQ 0);have p:=aP (u.o.trans y);clear l y HD u;refine hK _ _ ?_;clear hK K;refine cY ?_;try refine cI ?_
 go_wp2_with fail
 go_ret
 exact⟨0,k.n,⟨abQ _,adA _⟩,rfl,z.o.1,p.o.trans z.o.2⟩
end
section
theorem SO{a:Ka}(h:bS F w g a k)(R:k.n+1<=1000000)(e:Nat)(he:e<4)(x:Int)(S:x≠0)(v:Int)(Z:v≠0)(t:w.cell? (g,11+e)=some (.int .i64 x)):aG prog 171 #[.pointer g,e,v] w (F7 F g k w):=by
 have e0:¬(e:Int)<0:=aQ;have e8:(e:Int)<8:=aQ;have a1:(x !=0)=true:=by simp[S]
 have a6:(v==0)=false:=by simp[Z]
 have pw:=h.pw;unfold pA at pw;have T:=aP h;have U:=aP R;clear h R S;go_enter func171,ntmps171
 go_upto_region 2 with(fail)
 have j:=bE pw;have l:=bE t;refine bN (bP _) (λ_=>bP) [] (λ_ _ _=>True) [10] [] 65 (bZ _) (λ_ _ _ h t=>bV h t) (λ_ d hd _ v w w' _ h t=>by cases hd) aV aV aZ ?_;repeat refine eK ?_
 refine dG ?_;intro γ w5 hb5 hT;clear j l;simp only[cE,Act.put,abP,abV,abU];refine dS ?_;have J:=T.o.below hb5;have HD:=aP (IK J.1 (by have:=U.o;omega) x);have B:=aP J.2;clear J hb5 hT T pw t;refine wpList_plain rfl (λK hK=>?_);go_wp2_with fail
 refine aR HD ?_;rintro r w6 ⟨b,rfl,C,V⟩;have f6:=C.fz (11+e);obtain⟨v6,c6⟩:=C.qC (i:=e) aQ;have m:=aP (C.store (11+e) aQ 0);have c:=aP (B.o.trans V);clear C V HD B;refine hK _ _ ?_;clear hK K;refine cY ?_;try refine cI ?_
 have y:=aP (c.o.trans m.o.2);have z:=aP m.o.1;clear m;go_upto_region 6 with(fail)
 clear c6 f6 c;generalize w6.setCell (g,11+e) (.int .i64 0)=f at *;obtain⟨p,h⟩:=z.o;have c:=y;have pw:=h.pw;have ps:=h.ps;unfold pA at pw ps;clear z y;obtain⟨u,_,A⟩:=N4 h;have L:=aP A;obtain⟨G,hs,_⟩:=h.sd;have M:aH (∀W,aD f f W->aG prog 21 #[.pointer p.gs] W λe w'=>e= .returned (.int .i64 k.s.nw)/\W=w'):=λW hW=>wO (h.below hW).1.sd.choose_spec.1
 have N:aH (∀x,aG prog 217 #[.pointer p.gw, .int .i64 x,e] f.drew λr w'=>∃H E:Int,r= .returned (.tuple #[H,E])/\bS F w' g p {k with n:=k.n+1}/\Kp F f.drew w'):=λx=>SH (h.below (Below.refl f f).drew).1 U.o x e aQ
 have B:aH (Kp F f f.drew):=(h.below (Below.refl f f).drew).2;clear h hs A;go_region_held3 (λW=>W.cell? (g,10)=some (.pointer p.gw)/\W.cell? (g,6)=some (.pointer p.gs)) (first|exact⟨pw,ps⟩|exact⟨‹_›,‹_›⟩) ((first|(go_at_call 21;(refine aS (M.o _ (Below.refl _ _).drew) ?_);rintro r X ⟨rfl,rfl⟩)|(go_at_call 218;(refine aS (L.o _ (Below.refl _ _).drew) ?_);rintro r X ⟨rfl,rfl⟩)|(go_at_call 217;(refine aS (N.o _) ?_);rintro r X ⟨H,E,rfl,D,Y⟩;(have O:=D.pw);(have P:=D.ps);(unfold pA at O P);(have q:=bO D (B.o.trans Y));clear D Y)))
 all_goals
  by_cases I:E=0
  .have Q:(E !=0)=false:=by simp[I]
   have m:=aP (q.o.1.store (11+e) aQ H);have fz:=q.o.1.fz (11+e);obtain⟨v0,hc⟩:=q.o.1.qC (i:=e) aQ;clear I;go_wp2_with fail
   go_ret
   exact⟨0,k.n+1,⟨aQ,aQ⟩,rfl,m.o.1,c.o.trans (q.o.2.trans m.o.2)⟩
  .have Q:(E !=0)=true:=by simp[I]
   clear I;go_wp2_with fail
   go_ret
   exact⟨E,k.n+1,⟨aQ,aQ⟩,rfl,⟨p,q.o.1⟩,c.o.trans q.o.2⟩
end
section
theorem X0{a:Ka}(h:bS F w g a k)(d:k.n+1<=1000000)(e:Nat)(he:e<4)(v:Int):aG prog 171 #[.pointer g,e,v] w (F7 F g k w):=by
 obtain⟨x,c⟩:=h.qC (i:=e) aQ;by_cases f:x=0
 .subst f;by_cases b:v=0
  .subst b;exact S4 h e he c
  .exact YC h d e he v b c
 .by_cases b:v=0
  .subst b;exact RV h d e he x f c
  .exact SO h d e he x f v b c
end
variable{X:(Nat->Prop)->aA->Prop}{W w' w3 w6 wE:aA}{j i q3:Nat}{v:aC}{H:Nat->Prop}{k':Kv}
section
def Nw(F:Nat->Prop)(N:Nat)(W:aA):Nat->Prop:=λb=>F b\/(N<=b/\b<W.heap.size)
theorem dV.grow(M:dV X)(h:X F w)(fl:Ol F w)(hb:aD w w W):X (Nw F w W) W:=
 M F (λb=>b<w.heap.size) _ w W h (Kp.cD hb λ_ hb=>hb) (λ_ c _=>c) (λb a=>by
  rcases a with a|a
  .exact abR (fl b a) hb.size
  .exact a.2) (λr c d hc=>by
  rcases hc with hc|hc
  .exact d hc
  .omega)
theorem dP{A:Nat}(h:g≠A):(w.setCell (A,i) v).cell? (g,j)=w.cell? (g,j):=
 World.cell?_of_block (w:=w) (Below.heap_setCell w ⟨A,i,none⟩ v g h)
theorem dV.r8(M:dV X){A:Nat}(h:X F w)(fl:Ol F w)(c:w.grownBy w' (some A))(d:F A)(hH:∀b,H b->F b/\b≠A):X H w'/\Kp H w w':=by
 have k:Kp (λb=>b<w.heap.size/\b≠A) w w':=Kp.grown c λb hb=>⟨hb.1,λe=>hb.2 (by injection e)⟩
 have f:Kp H w w':=k.mono λb hb=>⟨fl b (hH b hb).1,(hH b hb).2⟩
 exact⟨M F _ H w w' h k (λr g a=>⟨g,λe=>a (e ▸ d)⟩) (λb hb=>abR (fl b (hH b hb).1) k.size) (λr _ a hc=>a (hH r hc).1),f⟩
theorem LZ{a:Ka}(d:bS (Fb F q3) w3 g a k/\Kp F w w3)(c:bS (Nw (Fb F q3) w3.heap.size w3.drew) w6 g a k'/\Kp (Nw (Fb F q3) w3.heap.size w3.drew) w3.drew w6)(hb:aD w6 w6 wE):KM F wE g k'/\Kp F w wE:=by
 obtain⟨e,f⟩:=c.1.below hb;have h:Kp F w3.drew w6:=c.2.mono λb hb=> .inl (.inl hb)
 have i:Kp F w6 wE:=f.mono λb hb=> .inl (.inl hb)
 exact⟨⟨a,e.less (λb hb=> .inl (.inl hb))⟩,(d.2.drew.trans h).trans i⟩
theorem Tg{a:Ka}{o:Obj}(c:bS (Fb F q3) w3 g a k/\Kp F w w3)(d:bS (Nw (Fb F q3) w3.heap.size (w3.alloc o).drew) w6 g a k'/\Kp (Nw (Fb F q3) w3.heap.size (w3.alloc o).drew) (w3.alloc o).drew w6)(f:w6.grownBy wE (some w3.heap.size)):KM F wE g k'/\Kp F w wE:=by
 have h:Nw (Fb F q3) w3.heap.size (w3.alloc o).drew w3.heap.size:= .inr ⟨abQ _,(show w3.heap.size<(w3.alloc o).heap.size by simp)⟩;obtain⟨i,j⟩:=dV.r8 (bS.cM g a k') (H:=F) d.1 d.1.fl f h (λb hb=>⟨.inl (.inl hb),λe=>by have:=c.1.fl b (.inl hb);omega⟩);have l:Kp F (w3.alloc o).drew w6:=d.2.mono λb hb=> .inl (.inl hb)
 have m:Kp F w (w3.alloc o).drew:=(c.2.trans (Kp.cD (aX w3 o) λb hb=>c.1.fl b (.inl hb))).drew;exact⟨⟨a,i⟩,(m.trans l).trans j⟩
theorem Fq(k:Kv)(e s a wr:Int)(h:¬1<wr):mR k e s a wr=match jH k.c e s 1 (if wr=1 then 3 else 1) with
 |none=>(23,k)
 |some h=>(if lH ⟨e,a,h.ob,decide (wr=1)⟩ then 0 else 1,{k with t:=x8 k.t ⟨e,a,h.ob,decide (wr=1)⟩}):=by
 unfold mR;exact abT h
theorem Cm{a:Ka}(h:bS F w g a k)(hw:KW k)(e s l wr:Int):aG prog 167 #[.pointer g,e,s,l,wr] w (gK F g (mR k e s l wr).2 (.int .i64 (mR k e s l wr).1) w):=by
 have J:=aP h;have Z:=aP hw;by_cases h1:1<wr
 .have v:aH (mR k e s l wr=(1,k)):=by unfold aH mR;rw[abS h1]
  generalize mR k e s l wr=rk at *;clear h hw;go_enter func167,ntmps167
  go_wp2_with fail
  go_ret
  rw[v.o];exact⟨rfl,⟨a,J.o⟩,Kp.refl _ _⟩
 obtain⟨G,K,_⟩:=h.cp;have pc:=h.pc;unfold pA at pc;have L:=aP (Fq k e s l wr h1);generalize mR k e s l wr=rk at *;by_cases M:wr=1
 .subst M;have hor:bits .or .i64 1 2=3:=cH;have v:aH (rk=match jH k.c e s 1 3 with
   |none=>(23,k)
   |some h=>(if lH ⟨e,l,h.ob,true⟩ then 0 else 1,{k with t:=x8 k.t ⟨e,l,h.ob,true⟩})):=by unfold aH;rw[L.o];rfl
  have q:=kZ K e s 1 3;clear h hw K L;cases hq:jH k.c e s 1 3 with
  |none=>
   rw[hq] at q v;have q:=aP q;clear hq;go_enter func167,ntmps167
   go_wp2_with fail
   refine aR q ?_;rintro r N ⟨rfl,d⟩;simp only[mB,adR];have V:=aP (J.o.below (d.alloc d.size (aI #[aU,aU,aU] 154)));clear d;go_wp2_with fail
   go_ret
   rw[v.o];exact⟨rfl,⟨a,V.o.1⟩,V.o.2⟩
  |some x=>
   rw[hq] at q v;have q:=aP q;clear hq;obtain⟨O,i,P,x4,x5⟩:=x;simp only at v;go_enter func167,ntmps167
   go_wp2_with fail
   refine aR q ?_;rintro r N ⟨rfl,d⟩;simp only[mB,adQ];have C:=d.alloc d.size (aI #[O,i,P] 154);have yb:=bF.new N 154 #[O,i,P];have u:=aP (And.intro ((bS.cM g a k).box (J.o.below d).1 (J.o.below d).1.fl (aI #[O,i,P] 154)) (J.o.below C).2);clear d C pc;go_upto_region 9 with(fail)
   generalize N.alloc (aI #[O,i,P] 154)=f at *;generalize N.heap.size=z at *;have A:=yb.cell 1 i rfl;have pt:=u.o.1.pt;unfold pA at pt;clear yb;have Q:aH (∀W,aD f f W->aG prog 210 #[.pointer a.gt, .agg #[e,l,i,true]] W λr w'=>∃(y:En) (b:Bool),r= .returned (.tuple #[.agg #[y.env,y.cZ,y.frame,y.write],b, .int .i64 (if lH ⟨e,l,i,true⟩=true then 0 else 1)])/\bS (Nw (Fb F z) f.heap.size W) w' g a {k with t:=x8 k.t ⟨e,l,i,true⟩}/\Kp (Nw (Fb F z) f.heap.size W) W w'/\w'.cell? (g,1)=some (.pointer a.gt)/\w'.cell? (z,1)=some (.int .i64 i)):=λW X=>by
    obtain⟨G2,ht,back⟩:=(dV.grow (bS.cM g a k) u.o.1 u.o.1.fl X).tb;refine(NJ ht Z.o.t ⟨e,l,i,true⟩).mono ?_;rintro r B ⟨y,bo,rfl,R,S⟩;obtain⟨m,n⟩:=back _ _ R S;exact⟨y,bo,rfl,m,n,m.pt,n.cell (bK X A) (.inl (.inr rfl))⟩
   generalize (if lH ⟨e,l,i,true⟩=true then(0:Int) else 1)=er at *;have T:aH (∀o,aD f f (f.alloc o).drew):=λo=>(aX f o).drew
   have D:g≠f.heap.size:=by have:=u.o.1.bk.lt;omega
   have E:z≠f.heap.size:=by have:=World.block_lt_of_cell? f _ A;simp only at this;omega
   go_region_held3 (λW=>W.cell? (g,1)=some (.pointer a.gt)/\W.cell? (z,1)=some (.int .i64 i)) (first|with_reducible exact⟨‹_›,‹_›⟩|exact⟨by simp only[dP D,dP H];with_reducible assumption,by simp only[dP E,dP I];with_reducible assumption⟩|exact⟨bK (aX f _).drew pt,bK (aX f _).drew A⟩|exact⟨bK (aX _ _) pt,bK (aX _ _) A⟩|exact⟨bK (aX _ _) ‹_›,bK (aX _ _) ‹_›⟩|exact⟨pt,A⟩|fail) ((go_at_call 210;first|((refine aS (Q.o _ (Below.refl _ _).drew) ?_);rintro r B ⟨y,bo,rfl,m,n,U,Y⟩;(have H:g≠B.heap.size:=by have:=m.bk.lt;omega);(have I:z≠B.heap.size:=by have:=World.block_lt_of_cell? B _ Y;simp only at this;omega);(have j:=bO m n);clear m n)|((refine aS (Q.o _ (T.o _)) ?_);rintro r B ⟨y,bo,rfl,m,n,U,Y⟩;(have p:bF B f.heap.size 396 #[aU,aU,aU,false]:=n.aY (bF.new f 396 #[aU,aU,aU,false]) (.inr ⟨abQ _,(show f.heap.size<(f.alloc (aI #[aU,aU,aU,false] 396)).heap.size by simp)⟩));(have z0:=p.cell 0 _ rfl);(have z1:=p.cell 1 _ rfl);(have z2:=p.cell 2 _ rfl);(have z3:=p.cell 3 _ rfl);(have f0:=p.frozen 0);(have f1:=p.frozen 1);(have f2:=p.frozen 2);(have f3:=p.frozen 3);(have j:=bO m n);(have H:=D);(have I:=E);clear p m n)|fail))
   all_goals
    clear pt A Q Z;go_wp2_with fail
    go_ret
    rw[v.o];first
     |exact⟨rfl,LZ u.o j.o (aX _ _)⟩
     |exact⟨rfl,LZ u.o j.o (aX _ _).drew⟩
     |exact⟨rfl,LZ u.o j.o ((((((aX _ _).setCell (abQ _) _).setCell (abQ _) _).setCell (abQ _) _).setCell (abQ _) _))⟩
     |exact⟨rfl,Tg u.o j.o (bC (bC (bC (bC (bL _ _) 0 _) 1 _) 2 _) 3 _)⟩
 .have hw1':(wr==1)=false:=by simp[M]
  have v:aH (rk=match jH k.c e s 1 1 with
   |none=>(23,k)
   |some h=>(if lH ⟨e,l,h.ob,false⟩ then 0 else 1,{k with t:=x8 k.t ⟨e,l,h.ob,false⟩})):=by unfold aH;rw[L.o];simp only[abT M,ab8 M]
  have q:=kZ K e s 1 1;clear h hw K L;cases hq:jH k.c e s 1 1 with
  |none=>
   rw[hq] at q v;have q:=aP q;clear hq;go_enter func167,ntmps167
   go_wp2_with fail
   refine aR q ?_;rintro r N ⟨rfl,d⟩;simp only[mB,adR];have V:=aP (J.o.below (d.alloc d.size (aI #[aU,aU,aU] 154)));clear d;go_wp2_with fail
   go_ret
   rw[v.o];exact⟨rfl,⟨a,V.o.1⟩,V.o.2⟩
  |some x=>
   rw[hq] at q v;have q:=aP q;clear hq;obtain⟨O,i,P,x4,x5⟩:=x;simp only at v;go_enter func167,ntmps167
   go_wp2_with fail
   refine aR q ?_;rintro r N ⟨rfl,d⟩;simp only[mB,adQ];have C:=d.alloc d.size (aI #[O,i,P] 154);have yb:=bF.new N 154 #[O,i,P];have u:=aP (And.intro ((bS.cM g a k).box (J.o.below d).1 (J.o.below d).1.fl (aI #[O,i,P] 154)) (J.o.below C).2);clear d C pc;go_upto_region 9 with(fail)
   generalize N.alloc (aI #[O,i,P] 154)=f at *;generalize N.heap.size=z at *;have A:=yb.cell 1 i rfl;have pt:=u.o.1.pt;unfold pA at pt;clear yb;have Q:aH (∀W,aD f f W->aG prog 210 #[.pointer a.gt, .agg #[e,l,i,false]] W λr w'=>∃(y:En) (b:Bool),r= .returned (.tuple #[.agg #[y.env,y.cZ,y.frame,y.write],b, .int .i64 (if lH ⟨e,l,i,false⟩=true then 0 else 1)])/\bS (Nw (Fb F z) f.heap.size W) w' g a {k with t:=x8 k.t ⟨e,l,i,false⟩}/\Kp (Nw (Fb F z) f.heap.size W) W w'/\w'.cell? (g,1)=some (.pointer a.gt)/\w'.cell? (z,1)=some (.int .i64 i)):=λW X=>by
    obtain⟨G2,ht,back⟩:=(dV.grow (bS.cM g a k) u.o.1 u.o.1.fl X).tb;refine(NJ ht Z.o.t ⟨e,l,i,false⟩).mono ?_;rintro r B ⟨y,bo,rfl,R,S⟩;obtain⟨m,n⟩:=back _ _ R S;exact⟨y,bo,rfl,m,n,m.pt,n.cell (bK X A) (.inl (.inr rfl))⟩
   generalize (if lH ⟨e,l,i,false⟩=true then(0:Int) else 1)=er at *;have T:aH (∀o,aD f f (f.alloc o).drew):=λo=>(aX f o).drew
   have D:g≠f.heap.size:=by have:=u.o.1.bk.lt;omega
   have E:z≠f.heap.size:=by have:=World.block_lt_of_cell? f _ A;simp only at this;omega
   go_region_held3 (λW=>W.cell? (g,1)=some (.pointer a.gt)/\W.cell? (z,1)=some (.int .i64 i)) (first|with_reducible exact⟨‹_›,‹_›⟩|exact⟨by simp only[dP D,dP H];with_reducible assumption,by simp only[dP E,dP I];with_reducible assumption⟩|exact⟨bK (aX f _).drew pt,bK (aX f _).drew A⟩|exact⟨bK (aX _ _) pt,bK (aX _ _) A⟩|exact⟨bK (aX _ _) ‹_›,bK (aX _ _) ‹_›⟩|exact⟨pt,A⟩|fail) ((go_at_call 210;first|((refine aS (Q.o _ (Below.refl _ _).drew) ?_);rintro r B ⟨y,bo,rfl,m,n,U,Y⟩;(have H:g≠B.heap.size:=by have:=m.bk.lt;omega);(have I:z≠B.heap.size:=by have:=World.block_lt_of_cell? B _ Y;simp only at this;omega);(have j:=bO m n);clear m n)|((refine aS (Q.o _ (T.o _)) ?_);rintro r B ⟨y,bo,rfl,m,n,U,Y⟩;(have p:bF B f.heap.size 396 #[aU,aU,aU,false]:=n.aY (bF.new f 396 #[aU,aU,aU,false]) (.inr ⟨abQ _,(show f.heap.size<(f.alloc (aI #[aU,aU,aU,false] 396)).heap.size by simp)⟩));(have z0:=p.cell 0 _ rfl);(have z1:=p.cell 1 _ rfl);(have z2:=p.cell 2 _ rfl);(have z3:=p.cell 3 _ rfl);(have f0:=p.frozen 0);(have f1:=p.frozen 1);(have f2:=p.frozen 2);(have f3:=p.frozen 3);(have j:=bO m n);(have H:=D);(have I:=E);clear p m n)|fail))
   all_goals
    clear pt A Q Z;go_wp2_with fail
    go_ret
    rw[v.o];first
     |exact⟨rfl,LZ u.o j.o (aX _ _)⟩
     |exact⟨rfl,LZ u.o j.o (aX _ _).drew⟩
     |exact⟨rfl,LZ u.o j.o ((((((aX _ _).setCell (abQ _) _).setCell (abQ _) _).setCell (abQ _) _).setCell (abQ _) _))⟩
     |exact⟨rfl,Tg u.o j.o (bC (bC (bC (bC (bL _ _) 0 _) 1 _) 2 _) 3 _)⟩
end
section
theorem S7{a:Ka}(h:bS F w g a k)(e:Int)(he:0<=e/\e<8):aG prog 219 #[.pointer a.gr,e] w λx w'=>∃(y:Up) (r:Int),x= .returned (.tuple #[.agg #[y.kind,y.a, .int .u64 y.b],r])/\bS F w' g a k/\Kp F w w':=by
 obtain⟨G,f,back⟩:=h.rw;refine(VT f e he).mono ?_;rintro x w' ⟨y,r,rfl,c,d⟩;exact⟨y,r,rfl,(back _ c d).1,(back _ c d).2⟩
theorem ZR{a:Ka}(h:bS F w g a k)(e:Int)(he:0<=e/\e<8):aG prog 173 #[.pointer g,e] w λr w'=>∃N E:Int,(0<=N/\N<18446744073709551616)/\r= .returned (.tuple #[.int .u64 N,E])/\bS F w' g a k/\Kp F w w':=by
 have pr:=h.pr;unfold pA at pr;have q:=aP (S7 h e he);clear h he;go_enter func173,ntmps173
 go_wp2_with fail
 refine aR q ?_;rintro r i ⟨y,E,rfl,m,p⟩;obtain⟨c,d,f⟩:=y;have b:=aX i (aI #[c,d, .int .u64 f] 248);have yb:=bF.new i 248 #[c,d, .int .u64 f];have j:aH (bS F (i.alloc (aI #[c,d, .int .u64 f] 248)) g a k/\Kp F w (i.alloc (aI #[c,d, .int .u64 f] 248))):=⟨(m.below b).1,p.trans (m.below b).2⟩
 clear m p b;have s:=yb.cell 0 c rfl;have t:=yb.cell 1 d rfl;have u:=yb.cell 2 (.int .u64 f) rfl;by_cases l:E=0
 .have n:(E !=0)=false:=by simp[l]
  clear l;go_wp2_with fail
  go_ret2
  refine⟨_,_,?_,rfl,j.o.1,j.o.2⟩;unfold bits;rw[IntKind.wrap_u64];omega
 .have n:(E !=0)=true:=by simp[l]
  clear l;go_wp2_with fail
  go_ret2
  exact⟨0,E,aQ,rfl,j.o.1,j.o.2⟩
end
end
section
open Go.RowKit
namespace Pa
def fG(op:Int)(i:Nat):Bool:=
 match i with
 |0=>op==1 || op==2 || op==6 || op==9 || op==10 || op==11 || op==12 || op==14 || op==3 || op==13 || op==17 || op==4 || op==5 || op==7 || op==8
 |1=>op==3 || op==13 || op==17 || op==4 || op==5 || op==7 || op==8
 |2=>op==4 || op==5 || op==7 || op==8 || op==15
 |_=>op==8 || op==15
def iK(n:Int)(had:Bool)(most:Int):Bool:=if had then decide (0<=n/\n<=most) else n==0
def iT(op a b c d:Int):Bool:=decide (0<=op/\op<=19)&&iK a (fG op 0) 255&&iK b (fG op 1) 255&&iK c (fG op 2) 1048575&&iK d (fG op 3) 1048575
theorem yH(n:Int)(b:Bool)(a:Int)(w:aA):aG prog 205 #[n,b,a] w λe w'=>e= .returned (.bool (iK n b a))/\w=w':=by
 cases b
 .go_enter func205,ntmps205
  go_wp2
  go_ret
  exact⟨rfl,rfl⟩
 .go_enter func205,ntmps205
  go_wp2
  all_goals go_ret
  all_goals refine⟨jL ?_,rfl⟩
  all_goals unfold iK
  all_goals simp
  all_goals omega
theorem kZ(op:Int)(w:aA)(a:0<=op)(h1:op<=19):aG prog 204 #[op] w λe w'=>e= .returned (.tuple #[.bool (fG op 0), .bool (fG op 1), .bool (fG op 2), .bool (fG op 3)])/\w=w':=by
 obtain⟨n,rfl⟩:=abW a;have b:n<=19:=aQ;clear a h1;rcases(show n=0\/n=1\/n=2\/n=3\/n=4\/n=5\/n=6\/n=7\/n=8\/n=9\/n=10\/n=11\/n=12\/n=13\/n=14\/n=15\/n=16\/n=17\/n=18\/n=19 by omega) with rfl|rfl|rfl|rfl|rfl|rfl|rfl|rfl|rfl|rfl|rfl|rfl|rfl|rfl|rfl|rfl|rfl|rfl|rfl|rfl
 all_goals
  clear b;go_enter func204,ntmps204
  go_wp2
  exact bodyPost_ret (v:= .tuple #[_,_,_,_]) (by simp[results,results204,go_sem];exact⟨rfl,rfl,rfl,rfl⟩) rfl ⟨rfl,rfl⟩
theorem KU(op a b c d:Int)(w:aA):aG prog 162 #[.agg #[op,a,b,c,d]] w λe w'=>e= .returned (.bool (iT op a b c d))/\aD w w w':=by
 by_cases f:0<=op/\op<=19
 .obtain⟨f,h1⟩:=f;have h:=aP (λW=>kZ op W f h1);have g:iT op a b c d=(iK a (fG op 0) 255&&iK b (fG op 1) 255&&iK c (fG op 2) 1048575&&iK d (fG op 3) 1048575):=by unfold iT;simp[f,h1]
  rw[g];clear g;have i:=aP (λW=>yH a (fG op 0) 255 W);have j:=aP (λW=>yH b (fG op 1) 255 W);have k:=aP (λW=>yH c (fG op 2) 1048575 W);have l:=aP (λW=>yH d (fG op 3) 1048575 W);generalize iK a (fG op 0) 255=m at *;generalize iK b (fG op 1) 255=q1 at *;generalize iK c (fG op 2) 1048575=q2 at *;generalize iK d (fG op 3) 1048575=q3 at *;generalize fG op 0=p0 at *;generalize fG op 1=p1 at *;generalize fG op 2=p2 at *;generalize fG op 3=p3 at *;cases m <;> cases q1 <;> cases q2
  all_goals
   go_enter func162,ntmps162
   go_wp2_with(first|(go_at_call 204;(with_reducible refine(h.o _).mono ?_);rintro e n ⟨rfl,rfl⟩)|(go_at_call 205;(first|(with_reducible refine(i.o _).mono ?_)|(with_reducible refine(j.o _).mono ?_)|(with_reducible refine(k.o _).mono ?_)|(with_reducible refine(l.o _).mono ?_));rintro e n ⟨rfl,rfl⟩))
   go_ret
   exact⟨aT,aX _ _⟩
 .have g:iT op a b c d=false:=by unfold iT;simp[f]
  rw[g];clear g;by_cases h1:op<0
  .go_enter func162,ntmps162
   go_wp2
   go_ret
   exact⟨rfl,aX _ _⟩
  .have p:19<op:=aQ;clear f;go_enter func162,ntmps162
   go_wp2
   go_ret
   exact⟨rfl,aX _ _⟩
end Pa
namespace Pa
def oD:List Fl:= [⟨0,8⟩,⟨8,8⟩,⟨16,8⟩,⟨24,20⟩,⟨44,20⟩]
theorem FE(x:Nat)(a:x<18446744073709551616):oD.map (tQ · (x:Int))= [((x%256:Nat):Int),((x /256%256:Nat):Int),((x /65536%256:Nat):Int),((x /16777216%1048576:Nat):Int),((x /17592186044416:Nat):Int)]:=by
 simp[oD,tQ,EO,zC,NP.M4];omega
end Pa
namespace Pa
end Pa
section
namespace Pa
variable{sz:Nat}
theorem _root_.Go.Proofs.YtacgiflhgdaeaaaGreat.Sl.lit{α:Type}{enc:α->List aC}(he:eW enc sz)(w:aA)(xs:List α)(cs:Array aC)(a:cs.toList=xs.flatMap enc)(t:TypeId):Sl enc sz (w.alloc (.cells cs t)) (some ⟨w.heap.size,0,none⟩) xs:=λ_=>by
 refine⟨w.heap.size,0,rfl,λi x j u b hu=>?_⟩;have c:j<sz:=by rw[<-he.len x];exact(ab7.1 hu).1
 have h1:=cell_of_row (w.alloc (.cells cs t)) w (i *sz+j) cs t (0,0) (heap_alloc_new w _);rw[acT,h1,<-acH,a,kH he.len xs i x j b c,hu]
def uO:Array aC:=#[aU, .int .i64 8, .int .i64 8, .int .i64 8, .int .i64 16, .int .i64 8, .int .i64 24, .int .i64 20, .int .i64 44, .int .i64 20]
theorem D9(w:aA):aG prog 161 #[] w λe w'=>e= .returned (.slice w.heap.size 5 5)/\w'=w.alloc (.cells uO 384):=by
 go_enter func161,ntmps161
 go_wp2
 go_ret
 exact⟨rfl,rfl⟩
end Pa
end
namespace Pa
theorem uG(w:aA)(g:Nat)(v0 v1 v2 v3 v4:aC):w.grownBy (((((w.setCell (g,0) (v0)).setCell (g,1) (v1)).setCell (g,2) (v2)).setCell (g,3) (v3)).setCell (g,4) (v4)) (some g):=
 bC (bC (bC (bC (bC (bL w g) 0 v0) 1 v1) 2 v2) 3 v3) 4 v4
theorem As(x n0 n1 c f j:Nat)(w:aA)(S:x<18446744073709551616)(F:oD.map (tQ · (x:Int))= [(n0:Int),(n1:Int),(c:Int),(f:Int),(j:Int)])(hs:n0<1000000000/\n1<1000000000/\c<1000000000/\f<1000000000/\j<1000000000)(q:Bool)(hq:iT n0 n1 c f j=q):
 aG prog 118 #[.int .u64 x] w λe w'=>e= .returned (if q then .tuple #[.agg #[n0,n1,c,f,j],aU] else .tuple #[.agg #[aU,aU,aU,aU,aU], .int .i64 21])/\aD w w w':=by
 have T:IntKind.i64.wrap (n0:Int)=n0:=by rw[IntKind.wrap_i64];omega
 have U:IntKind.i64.wrap (n1:Int)=n1:=by rw[IntKind.wrap_i64];omega
 have V:IntKind.i64.wrap (c:Int)=c:=by rw[IntKind.wrap_i64];omega
 have X:IntKind.i64.wrap (f:Int)=f:=by rw[IntKind.wrap_i64];omega
 have Y:IntKind.i64.wrap (j:Int)=j:=by rw[IntKind.wrap_i64];omega
 have G:=aP (λW=>KU n0 n1 c f j W);rw[hq] at G;have O:aH (∀(W:aA) (A:Option aJ),Sl eF 2 W A oD->aG prog 160 #[.slice A 5 5, .int .u64 (x:Int)] W (XF eU 1 75 [(n0:Int),(n1:Int),(c:Int),(f:Int),(j:Int)] W)):=λW A h=>by rw[<-F];exact OY A oD x 5 W h cH aQ aQ
 clear F;have l:=aX w (aI #[aU,aU,aU,aU,aU] 281);have bk:=bF.new w 281 #[aU,aU,aU,aU,aU];go_enter func118,ntmps118
 go_wp2_with fail
 refine(D9 _).mono ?_;rintro e Z ⟨rfl,rfl⟩;have b:=Sl.lit Li (w.alloc (aI #[aU,aU,aU,aU,aU] 281)) oD uO rfl 384;generalize w.alloc (aI #[aU,aU,aU,aU,aU] 281)=wa at *;replace l:=l.alloc l.size (aI uO 384);replace bk:=bk.alloc (aI uO 384);go_wp2_with fail
 refine(O.o _ _ b).mono ?_;rintro e w2 ⟨A,k,rfl,own,hb⟩;replace bk:=bk.keep hb;replace l:=fI l aT hb;clear hb b;rcases own.shape with⟨_,u,_⟩|⟨g,rfl⟩
 .cases u
 have b:=own.sl yF;have P:=own.lt g rfl;have c0:=b.IA (i:=0) aT;have c1:=b.IA (i:=1) aT;have c2:=b.IA (i:=2) aT;have c3:=b.IA (i:=3) aT;have c4:=b.IA (i:=4) aT;simp only[ac5,ac0,acT] at c0 c1 c2 c3 c4;clear b own;go_wp2_with fail
 have m:=bE c0;have n:=bE c1;have p:=bE c2;have r:=bE c3;have s:=bE c4;refine bN (bP _) (λ_=>bP) [5] (λ_ v w=>FR (jA c0) 281 #[aU,aU,aU,aU,aU] v w) [22] [] 35 (bZ _) (λ_ _ _ h B=>bV h B) (λ_ d hd _ v w w' _ h B=>h.keep B) aV aV aZ ?_;repeat (first|(refine eK ?_)|(refine sF 5 [] aZ aZ aZ aZ (λγ w hC C=>?_) ?_;(simp only[cE];go_simp;exact pG (aX w _) ⟨_,rfl,Below.size hC,bF.new w _ _⟩);(try refine cI ?_)))
 refine dG ?_;intro γ w_ hb_ C;clear m n p r s;simp only[cE,Act.put,abP,abV,abU];refine dS ?_;obtain⟨g5,H,y,z⟩:=C 5 aT;simp only[H];clear C H;refine iP y hb_ z rfl 281 _ _ rfl #[n0,n1,c,f,j] rfl rfl rfl aV aV ?_;clear y hb_ z;intro w3 t D;refine cY ?_;simp only[Act.put];obtain⟨Q,a⟩:=D;replace bk:=bk.keep t;replace l:=fI l aT t;have I:=a.cell 0 n0 rfl;have J:=a.cell 1 n1 rfl;have K:=a.cell 2 c rfl;have L:=a.cell 3 f rfl;have M:=a.cell 4 j rfl;clear t;go_wp2_with fail
 refine(G.o _).mono ?_;rintro e N ⟨rfl,hb⟩;replace bk:=bk.keep hb;replace a:=a.keep hb;replace l:=fI l aT hb;clear hb I J K L M;have R:=bk.lt;have I:=a.cell 0 n0 rfl;have J:=a.cell 1 n1 rfl;have K:=a.cell 2 c rfl;have L:=a.cell 3 f rfl;have M:=a.cell 4 j rfl;have z0:=bk.cell 0 (.int .i64 0) rfl;have z1:=bk.cell 1 (.int .i64 0) rfl;have z2:=bk.cell 2 (.int .i64 0) rfl;have z3:=bk.cell 3 (.int .i64 0) rfl;have z4:=bk.cell 4 (.int .i64 0) rfl;have f0:=bk.frozen 0;have f1:=bk.frozen 1;have f2:=bk.frozen 2;have f3:=bk.frozen 3;have f4:=bk.frozen 4;cases q
 .go_wp2
  have E:=l.grown (uG N w (.int .i64 0) (.int .i64 0) (.int .i64 0) (.int .i64 0) (.int .i64 0)) l.size (λk hk=>by injection hk with hk;omega);exact bodyPost_ret (v:= .tuple #[.agg #[aU,aU,aU,aU,aU], .int .i64 21]) (by simp[results,results118,go_sem, *]) rfl ⟨rfl,E⟩
 .go_wp2
  have E:=l.grown (uG N w (.int .i64 n0) (.int .i64 n1) (.int .i64 c) (.int .i64 f) (.int .i64 j)) l.size (λk hk=>by injection hk with hk;omega);exact bodyPost_ret (v:= .tuple #[.agg #[n0,n1,c,f,j],aU]) (by simp[results,results118,go_sem, *]) rfl ⟨rfl,E⟩
end Pa
end
section
open Go.RowKit Go.Lib Go.Shelf dL Fr Up Nt
variable{F:Nat->Prop}{w w1 w2:aA}{q1 g:Nat}{k k':Kv}{e op D N E:Int}
section
def qD(F:Nat->Prop)(g:Nat)(k:Kv)(e op A B C D:Int)(w:aA)(r:aM)(w':aA):Prop:=∃(N E:Int) (k':Kv),(lG k e op A B C D N E k'\/(N=0/\E=1/\k'=k))/\gK F g k' (.tuple #[.int .u64 N,E]) w r w'
theorem Qb{e:Nat}(he:e<4):oI (e:Int)=true:=acF aQ
theorem BxK.vB{a:Ka}{A B C:Int}(h:BxK F w w1 q1 g a k op A B C D)(hd:lG k e op A B C D N E k')(hm:KM (Fb F q1) w2 g k')(kp:Kp (Fb F q1) w1 w2):qD F g k e op A B C D w (.returned (.tuple #[.int .u64 N,E])) w2:=
 ⟨N,E,k', .inl hd,rfl,hm.less (λb hb=> .inl hb),h.k.trans kp.unbox⟩
theorem Ap{a:Ka}(h:bS F w g a k)(hw:KW k)(e p:Int):aG prog 168 #[.pointer a.gt,e,p] w λr w'=>∃v:Bool,r= .returned (.bool v)/\bS F w' g a {k with t:=PK k.t e p}/\Kp F w w':=by
 obtain⟨G,d,back⟩:=h.tb;refine(ZZ d hw.t e p).mono ?_;rintro r w' ⟨v,rfl,b,c⟩;exact⟨v,rfl,(back _ _ b c).1,(back _ _ b c).2⟩
theorem Iu{a:Ka}(h:bS F w g a k)(e op A B C D:Int)(he:oI e=false):aG prog 119 #[.pointer g,e, .agg #[op,A,B,C,D]] w (qD F g k e op A B C D w):=by
 have c:=aP (BxK.new h op A B C D);have b:=CP c.o.m e;rw[he] at b;have b:=aP b;clear h he;go_enter func119,ntmps119
 go_upto_region 3 with(fail)
 generalize w.alloc (aI #[op,A,B,C,D] 281)=w1 at *;generalize w.heap.size=q1 at *;go_wp2_with fail
 refine aR b ?_;rintro r f ⟨rfl,rfl⟩;have d:aH (qD F g k e op A B C D w (.returned (.tuple #[bD, .int .i64 1])) w1):=⟨0,1,k, .inr ⟨rfl,rfl,rfl⟩,rfl,c.o.o.1,c.o.o.2⟩
 clear c b;go_wp2_with fail
 go_ret2
 exact d.o
theorem Gu{A B C:Int}(h:Pa.iT op A B C D=true):(0<=op/\op<=19)/\0<=A:=by
 unfold Pa.iT at h;simp only[acM,aeE] at h;obtain⟨⟨⟨⟨a,h1⟩,_⟩,_⟩,_⟩:=h;refine⟨a,?_⟩;unfold Pa.iK at h1;split at h1
 .have:=adD h1;exact this.1
 .rw[beq_iff_eq] at h1;omega
theorem Rx{a:Ka}(h:bS F w g a k)(hw:KW k)(U:k.n+1<=1000000)(e:Nat)(he:e<4)(op A B C D:Int):aG prog 119 #[.pointer g,e, .agg #[op,A,B,C,D]] w (qD F g k e op A B C D w):=by
 have L:=aP (BxK.new h op A B C D);have z:=CP L.o.m (e:Int);rw[Qb he] at z;have z:=aP z;obtain⟨rb,Q⟩:∃rb,Pa.iT op A B C D=rb:=⟨_,rfl⟩
 have G:=λW=>Pa.KU op A B C D W
 rw[Q] at G;have G:=aP G;have q:=aP Q;have j:=aP hw;have H:=aP he;have R:=aP U;clear h hw Q he U;go_enter func119,ntmps119
 go_upto_region 3 with(fail)
 generalize w.alloc (aI #[op,A,B,C,D] 281)=w1 at *;generalize w.heap.size=q1 at *;obtain⟨M,x,O,P,I⟩:=L.o.xs;go_wp2_with fail
 refine aR z ?_;rintro r Y ⟨rfl,rfl⟩;go_wp2_with fail
 refine aS (G.o _) ?_;rintro r l ⟨rfl,J⟩;have b:=aP (L.o.below J);clear M x O P I z G J L;cases rb with
 |false=>
  have s:aH (qD F g k e op A B C D w (.returned (.tuple #[bD, .int .i64 1])) l):=⟨0,1,k, .inr ⟨rfl,rfl,rfl⟩,rfl,b.o.o.1,b.o.o.2⟩
  clear b q j H R;go_wp2_with fail
  go_ret2
  exact s.o
 |true=>
  obtain⟨M,x,O,P,I⟩:=b.o.xs;have i:aH (∀{f:FuncId} {args:Array aC} {Φ:aM->aA->Prop},aG prog f args l Φ->(∀r w',Φ r w'->(λr w'=>∃E,r= .returned (.int .i64 E)/\qD F g k e op A B C D w (.returned (.tuple #[bD, .int .i64 E])) w') r w')->aG prog f args l (λr w'=>∃E,r= .returned (.int .i64 E)/\qD F g k e op A B C D w (.returned (.tuple #[bD, .int .i64 E])) w')):=λh k=>h.mono k
  have y:aH (∀{f:FuncId} {args:Array aC} {Φ:aM->aA->Prop},aG prog f args l Φ->(∀r w',Φ r w'->(λr w'=>∃N E,r= .returned (.tuple #[.int .u64 N, .int .i64 E])/\qD F g k e op A B C D w (.returned (.tuple #[.int .u64 N, .int .i64 E])) w') r w')->aG prog f args l (λr w'=>∃N E,r= .returned (.tuple #[.int .u64 N, .int .i64 E])/\qD F g k e op A B C D w (.returned (.tuple #[.int .u64 N, .int .i64 E])) w')):=λh k=>h.mono k
  have S:=(Gu q.o).1;clear q;rcases(by omega:op=0\/op=6\/op=1\/op=3\/op=18\/op=2\/op=4\/op=5\/op=7\/op=8\/op=9\/op=10\/op=11\/op=12\/op=13\/op=14\/op=15\/op=16\/op=17\/op=19) with rfl|rfl|rfl|rfl|rfl|rfl|rfl|rfl|rfl|rfl|rfl|rfl|rfl|rfl|rfl|rfl|rfl|rfl|rfl|rfl
  all_goals clear S
  .have s:aH (qD F g k e 0 A B C D w (.returned (.tuple #[bD,aU])) l):=⟨0,0,k, .inl (.null rfl),rfl,b.o.o.1,b.o.o.2⟩
   clear j H R i y;go_wp2_with fail
   go_ret2
   exact s.o
  .have pt:=b.o.m.pt;unfold pA at pt;have c:aH (∀W,aD l l W->aG prog 168 #[.pointer a.gt,e,A] W λr w'=>∃v:Bool,r= .returned (.bool v)/\bS (Fb F q1) w' g a {k with t:=PK k.t e A}/\Kp (Fb F q1) l w'):=λW V=>(Ap (b.o.m.below V).1 j.o e A).mono (by
    rintro r w' ⟨v,rfl,h1,X⟩;exact⟨v,rfl,h1,(b.o.m.below V).2.trans X⟩)
   clear i y;go_upto_region 17 with(fail)
   go_region_held3 (λW=>W.cell? (g,1)=some (.pointer a.gt)/\W.cell? (q1,1)=some (.int .i64 A)) (first|exact⟨pt,x⟩|exact⟨‹_›,‹_›⟩) ((go_at_call 168;(refine aS (c.o _ (Below.refl _ _).drew) ?_);rintro r d ⟨v,rfl,hm,kp⟩;(have K:=hm.pt);(have I:=kp.cell x (.inr rfl));(unfold pA at K);(have T:=bO hm kp);clear hm kp))
   all_goals
    have s:aH (∀E,qD F g k e 6 A B C D w (.returned (.tuple #[bD, .int .i64 E])) d):=λE=>b.o.vB (.zI rfl) ⟨a,T.o.1⟩ T.o.2
    clear c M x O P I pt K T;cases v
    all_goals
     go_wp2_with fail
     go_ret2
     exact s.o _
  have c:=y.o (XC b.o.m j.o e A) (by rintro r d ⟨rfl,hm,kp⟩;exact⟨_,_,rfl,b.o.vB (.alloc rfl) hm kp⟩);rotate_left
  have c:=y.o (Y4 b.o.m e A B) (by rintro r d ⟨rfl,hm,kp⟩;exact⟨_,_,rfl,b.o.vB (.read rfl) hm kp⟩);rotate_left
  have c:=y.o (ZR b.o.m e (by have:=H.o;omega)) (by rintro r d ⟨Z,E1,hf,rfl,hm,kp⟩;exact⟨_,_,rfl,b.o.vB (.next rfl hf) ⟨a,hm⟩ kp⟩);rotate_left
  have c:=i.o (Bu b.o.m j.o e A) (by rintro r d ⟨E,p,hf,rfl,hm,kp⟩;exact⟨_,rfl,b.o.vB (.free rfl hf) hm kp⟩);rotate_left
  have c:=i.o (V9 b.o.m e A B C) (by rintro r d ⟨rfl,hm,kp⟩;exact⟨_,rfl,b.o.vB (.write rfl) hm kp⟩);rotate_left
  have c:=i.o (Cm b.o.m j.o e A B C) (by rintro r d ⟨rfl,hm,kp⟩;exact⟨_,rfl,b.o.vB (.load rfl) hm kp⟩);rotate_left
  have c:=i.o (RC b.o.m j.o e A B C D) (by rintro r d ⟨E,p,hf,rfl,hm,kp⟩;exact⟨_,rfl,b.o.vB (.hand cH hf) hm kp⟩);rotate_left
  have c:=i.o (YK b.o.m j.o e A B C D) (by rintro r d ⟨E,p,hf,rfl,hm,kp⟩;exact⟨_,rfl,b.o.vB (.hand cH hf) hm kp⟩);rotate_left
  have c:=i.o (Q5 b.o.m j.o e A B C D) (by rintro r d ⟨E,p,hf,rfl,hm,kp⟩;exact⟨_,rfl,b.o.vB (.hand cH hf) hm kp⟩);rotate_left
  have c:=i.o (YJ b.o.m j.o e A B C D) (by rintro r d ⟨E,p,hf,rfl,hm,kp⟩;exact⟨_,rfl,b.o.vB (.hand cH hf) hm kp⟩);rotate_left
  have c:=i.o (EJ b.o.m e 11 A B C D cH) (by rintro r d ⟨E,rfl,hm,kp⟩;exact⟨_,rfl,b.o.vB (.line cH) hm kp⟩);rotate_left
  have c:=i.o (EJ b.o.m e 12 A B C D cH) (by rintro r d ⟨E,rfl,hm,kp⟩;exact⟨_,rfl,b.o.vB (.line cH) hm kp⟩);rotate_left
  have c:=i.o (EJ b.o.m e 13 A B C D cH) (by rintro r d ⟨E,rfl,hm,kp⟩;exact⟨_,rfl,b.o.vB (.line cH) hm kp⟩);rotate_left
  have c:=i.o (X0 b.o.m R.o e H.o A) (by rintro r d ⟨E,p,hf,rfl,hm,kp⟩;exact⟨_,rfl,b.o.vB (.qC rfl hf) hm kp⟩);rotate_left
  have c:=i.o (Y9 b.o.m j.o e A B C D) (by rintro r d ⟨E,p,hf,rfl,hm,kp⟩;exact⟨_,rfl,b.o.vB (.time (.inl rfl) hf) hm kp⟩);rotate_left
  have c:=i.o (ZA b.o.m j.o e A B C D) (by rintro r d ⟨E,p,hf,rfl,hm,kp⟩;exact⟨_,rfl,b.o.vB (.time (.inr (.inl rfl)) hf) hm kp⟩);rotate_left
  have c:=i.o (Ba b.o.m j.o e A B) (by rintro r d ⟨E,p,hf,rfl,hm,kp⟩;exact⟨_,rfl,b.o.vB (.send rfl hf) hm kp⟩);rotate_left
  have c:=i.o (YV b.o.m j.o e (by have:=H.o;omega) A B C D) (by rintro r d ⟨E,p,hf,rfl,hm,kp⟩;exact⟨_,rfl,b.o.vB (.time (.inr (.inr rfl)) hf) hm kp⟩);rotate_left
  all_goals
   have c:=aP c;as_aux_lemma=>
   go_wp2_with fail
   refine aR c ?_;first
    |rintro r d ⟨N,E,rfl,u⟩
    |rintro r d ⟨E,rfl,u⟩
   have s:=aP u;clear u c i y M x O P I;go_wp2_with fail
   go_ret2
   exact s.o
theorem T4{a:Ka}(h:bS F w g a k)(hw:KW k)(c:k.n+1<=1000000)(e op A B C D:Int):aG prog 119 #[.pointer g,e, .agg #[op,A,B,C,D]] w (qD F g k e op A B C D w):=by
 cases he:oI e with
 |false=>exact Iu h e op A B C D he
 |true=>
  have b:=adD he;obtain⟨n,rfl⟩:=abW b.1;exact Rx h hw c n aQ op A B C D
end
end
section
open Go.RowKit Go.Lib Go.Shelf Go.Sort
variable{w:aA}{q:Nat}
section
def ZH(x y:Du):Int:=Lib.compareInt x.hd y.hd
theorem Kw(x y:Du):ltOf ZH x y=decide (x.hd<y.hd):=by
 unfold ltOf ZH Lib.compareInt;by_cases h1:x.hd<y.hd
 .simp[h1]
 .by_cases a:y.hd<x.hd <;> simp[h1,a]
theorem Zy:SWO (ltOf ZH) where
 irrefl x:=by rw[Kw];simp
 trans x y z h1 h2:=by rw[Kw] at *;simp at *;omega
 ntrans x y z h1 h2:=by rw[Kw] at *;simp at *;omega
theorem Jq(x y:Du)(W:aA):aG prog 189 #[.agg (uS x).toArray, .agg (uS y).toArray] W λe w'=>e= .returned (.int .i64 (ZH x y))/\∃q b,w'=grow (W.drewN q) b:=by
 have a:=λc=>AnyG.cmp_Compare_int YX x.hd y.hd c
 change ∀c,aG prog 147 _ _ _ at a
 show aG prog _ _ _ λe w'=>e= .returned (.int .i64 (Lib.compareInt x.hd y.hd))/\_
 generalize Lib.compareInt x.hd y.hd=r at a⊢;simp only[uS];obtain⟨d,f,g⟩:=x;go_enter func189,ntmps189
 go_wp2_with(go_at_call 147;refine(a _).mono ?_;rintro e w' ⟨rfl,rfl⟩)
 go_ret
 exact⟨rfl,0,_,by rw[alloc_eq_grow,alloc_eq_grow,grow_grow];rfl⟩
theorem YU(w:aA):aG prog 260 #[bG,aU,aU, .func (.func 189) #[] #[]] w λe w'=>e= .returned (.tuple #[])/\w=w':=by
 go_enter func260,ntmps260
 go_wp2_with fail
 go_loop [8] (λv8=>v8= .int .i64 1) (λ_=>0)
 case atStart=>exact rfl
 case round=>
  subst hrel;go_wp2_with fail
  refine bodyPost_end (v:= .tuple #[]) ?_ rfl ⟨rfl,rfl⟩;simp[results,results260,go_sem]
theorem Cs(w:aA):aG prog 230 #[bG,aU,aU,aU, .func (.func 189) #[] #[]] w λe w'=>e= .returned (.tuple #[])/\w=w':=by
 go_enter func230,ntmps230
 go_wp2_with fail
 go_loop [1,2,3] (λv1 v2 v3=>v1= .int .i64 0/\v2= .int .i64 0/\v3= .int .i64 0) (λ_ _ _=>0)
 case atStart=>exact⟨rfl,rfl,rfl⟩
 case round=>
  obtain⟨rfl,rfl,rfl⟩:=hrel;go_wp2_with fail
  refine aS (YU _) ?_;rintro e a ⟨rfl,rfl⟩;go_wp2_with fail
  first
   |(refine bodyPost_ret (v:= .tuple #[]) ?_ rfl ⟨rfl,rfl⟩;simp[results,results230,go_sem])
   |(refine bodyPost_end (v:= .tuple #[]) ?_ rfl ⟨rfl,rfl⟩;simp[results,results230,go_sem])
theorem WW(w:aA):aG prog 188 #[bG, .func (.func 189) #[] #[]] w λe w'=>e= .returned (.tuple #[])/\w=w':=by
 have hl:aG prog 231 #[bD] w λe w'=>e= .returned (.int .i64 0)/\w'=w:=by
  have h:=Any.bits_Len (SlLaysF0.n15.bits (P:=prog) (ρ:=IC) {UP with}) 0 w aQ aQ;exact h
 go_enter func188,ntmps188
 go_wp2_with fail
 with_reducible refine hl.mono ?_
 rintro e a ⟨rfl,rfl⟩;go_wp2_with fail
 refine aS (Cs _) ?_;rintro e a ⟨rfl,rfl⟩;go_wp2_with fail
 go_end0
 exact⟨rfl,rfl⟩
def SoD(base c q:Nat)(L:List Du)(w:aA)(e:aM)(w':aA):Prop:=e= .returned (.tuple #[])/\∃L':List Du,L'.Perm L/\L'.Pairwise (λx y=>x.hd<=y.hd)/\bH uS 3 w' base 274 q c L'/\w.grownBy w' (some q)
theorem WQ{base c:Nat}{L:List Du}(h:bH uS 3 w base 274 q c L)(hl:L.length<=1000000):aG prog 188 #[.slice q L.length c, .func (.func 189) #[] #[]] w (SoD base c q L w):=by
 have a:=AnyQ.slices_SortFunc UP 3 (λw=>by kernel_rfl) (λw=>by kernel_rfl) uS rM.len rM.one ZH Zy 189 #[] q 0 c L.toArray w (enters_of func189 aV rfl) (λ_ _ _ _ x y=>Jq x y _) (NL rM cH h) (h.lt q rfl).2 (by rw[aeN];omega);refine Calls.mono (f:=188) a ?_;rintro e w' ⟨rfl,d,n,os,hp,hs,rfl⟩;obtain⟨h1,i⟩:=T5 hp;have j:d.size=L.length:=by rw[i,aeN]
 have g:L.toArray.size=d.size:=i.symm;rw[g] at hs;obtain⟨o1,o2⟩:=K8 rM cH h d j n os;exact⟨rfl,d.toList,h1,IW hs (λx y b=>by rw[Kw] at b;have:=afR b;omega),o1,o2⟩
end
end
section
open Go.RowKit Go.Lib Go.Shelf
variable{w w' wr w9:aA}{n g c9:Nat}{X:(Nat->Prop)->aA->Prop}{F:Nat->Prop}{A A' A2 A9:Option aJ}
section
def AJ(f:Int->Option Du)(x:Int):Du:=(f x).getD ⟨0,0,0⟩
theorem GS{M:Nat}{f:Int->Option Du}(h:iJ AM w M f)(x:Int):(Instr.lookup 335 (.map (some M)) (.int .i64 x) false).run prog w= .ok (AM (AJ f x)) w:=by
 rw[wY underlying335 underlying3 (z:= .agg #[aU,aU,aU]) aV h x false];unfold AJ;cases f x <;> rfl
theorem KO{y:Wa}(h:Yg y n)(x:Int):(0<=(AJ y.f x).wh/\(AJ y.f x).wh<4)/\0<=(AJ y.f x).at_/\(AJ y.f x).at_<=2097152:=by
 unfold AJ;cases hf:y.f x with
 |none=>simp
 |some d=>exact h.ok x d hf
theorem Uu:jR prog 270 274 3 24:=fX (z:= .agg #[aU,aU,aU]) underlying270 aV (by simp[Value.cells]) aQ
theorem dV.app(M:dV X)(h:X (cN F A) w)(fl:Ol F w)(hF:∀b,F b->aY A≠some b)(d:w.grownBy w' (aY A))(ha:aY A'=aY A\/aY A'=some w.heap.size)(c:∀q,aY A'=some q->q<w'.heap.size):X (cN F A') w'/\Kp F w w':=by
 have k:Kp F w w':=Kp.grown d λb hb=>⟨fl b hb,λe=>hF b hb e.symm⟩
 refine⟨M (cN F A) (λb=>b<w.heap.size/\aY A≠some b) _ w w' h (Kp.grown d λb hb=>⟨hb.1,λe=>hb.2 e.symm⟩) (λr f a=>⟨f,λe=>a (.inr e)⟩) (λb hb=>?_) (λr f a hc=>?_),k⟩
 .rcases hb with hb|hb
  .exact fl.kp k b hb
  .exact c b hb
 .rcases hc with hc|hc
  .exact a (.inl hc)
  .rcases ha with ha|ha
   .exact a (.inr (ha.symm.trans hc))
   .rw[ha] at hc;injection hc with hc;omega
def XO(F:Nat->Prop)(g n:Nat)(nw:Int)(w:aA)(e:aM)(w':aA):Prop:=∃(A:Option aJ) (c:Nat) (D:List Du),e= .returned (.slice A D.length c)/\D.length<=n/\(∀d∈D,0<=d.wh/\d.wh<4)/\bH uS 3 w' w.heap.size 274 A c D/\(∃y',dJ (cN F A) w' g n y'/\y'.nw=nw)/\Kp F w w'
structure OL(F:Nat->Prop)(w wr:aA)(g n:Nat)(nw:Int)(A2:Option aJ)(c2:Nat)(D:List Du)(A:Option aJ)(c:Nat)(xs:List Int)(y:Wa):Prop where
 o:bH uS 3 wr w.heap.size 274 A2 c2 D
 d:∀d∈D,0<=d.wh/\d.wh<4
 m:dJ (cN F A2) wr g n y
 r:bH eI 1 wr 0 3 A c xs
 nw:y.nw=nw
 k:Kp F w wr
theorem OL.app{c2 c:Nat}{nw:Int}{D:List Du}{xs:List Int}{y:Wa}(h:OL F w wr g n nw A2 c2 D A c xs y)(fl:Ol F w)(o:Obj){d:Du}(hd:0<=d.wh/\d.wh<4)(a:bH uS 3 w9 w.heap.size 274 A9 c9 (D++ [d]))(j:(wr.alloc o).grownBy w9 (aY A2))(ha:aY A9=aY A2\/aY A9=some (wr.alloc o).heap.size):OL F w w9 g n nw A9 c9 (D++ [d]) A c xs y:=by
 obtain⟨h1,_⟩:=h.m.below (aX wr o);have i:Ol F (wr.alloc o):=λb hb=>h1.fl b (.inl hb)
 have l:Kp F w (wr.alloc o):=h.k.trans (Kp.cD (aX wr o) λb hb=>h.m.fl b (.inl hb));obtain⟨p,s⟩:=dV.app (CK g n y) h1 i (λb hb e=>by have:=(h.o.lt b e).1;have:=fl b hb;omega) j ha (λq hq=>(a.lt q hq).2);refine⟨a,λx f=>?_,p,(h.r.alloc o).kept j (xC (h.r.alloc o) (h.o.alloc o) cH),h.nw,l.trans s⟩;rcases ab9.1 f with f|f
 .exact h.d x f
 .rw[ab3.1 f];exact hd
theorem OL.del{c2 c:Nat}{nw:Int}{D:List Du}{xs:List Int}{y:Wa}(h:OL F w wr g n nw A2 c2 D A c xs y){x:Int}(hm:iJ AM w9 y.M (gG y.f x none))(j:wr.grownBy w9 (some y.M)):OL F w w9 g n nw A2 c2 D A c xs {y with f:=gG y.f x none}:=by
 obtain⟨h1,l⟩:=h.m.V0 hm j (λz d a=>by
  unfold gG at a;split at a
  .cases a
  .exact h.m.i.ok z d a)
 refine⟨h.o.kp l (λq hq=> .inr hq),h.d,h1,h.r.kept j ?_,h.nw,h.k.trans (l.mono λb hb=> .inl hb)⟩;cases s:aY A with
 |none=>exact .inl rfl
 |some q=>
  refine .inr (λe=>?_);injection e with e;obtain⟨cs,hb⟩:=qP h.r q s;obtain⟨es,cl,p,_⟩:=h.m.mp;rw[e] at hb;have t:wr.heap[y.M]?=some (.cells cs 3):=hb;rw[t] at p;cases p
theorem ZX{y:Wa}(h:dJ F w g n y)(hn:n<=1000000)(hw:y.nw+1<=1048576):aG prog 144 #[.pointer g] w (XO F g n (y.nw+1) w):=by
 have c1:=h.c1;have f1:=h.fz 1;have hnw:=h.i.nw;have HN:=aP hn;have HF:=aP h.fl;obtain⟨nw,Y⟩:∃v,v=y.nw+1:=⟨_,rfl⟩
 have hnwb:0<=nw/\nw<=1048576:=aQ;have HQ0:=aP (h.PS hnwb);have HQ1:aH (∃a,dJ F (w.setCell (g,1) nw) g n a/\a.nw=nw/\Kp F w (w.setCell (g,1) nw)):=⟨_,HQ0.o.1,rfl,HQ0.o.2⟩
 rw[<-Y];clear h hn HQ0;go_enter func144,ntmps144
 go_upto_region 2 with(fail)
 rw[<-Y];clear Y hnw hw c1 f1;generalize w.setCell (g,1) nw=w1 at *;go_wp2_with fail
 go_loopw [20] (λv20 wr=>∃i:Int,v20= .int .i64 i/\0<=i/\i<=3/\aH (∃a,dJ F wr g n a/\a.nw=nw/\Kp F w wr)) (λv20 _=>3 - (aL v20).toNat)
 case atStart=>exact⟨0,rfl,aQ,aQ,HQ1.o⟩
 case round=>
  clear HQ1;obtain⟨i,rfl,hi0,O,l⟩:=hrel;obtain⟨a,hx⟩:=l.o;have l:=aP hx;clear hx;by_cases hi:i<3
  .obtain rfl|rfl|rfl:i=0\/i=1\/i=2:=aQ
   ·
    by_cases z:bits .and .i64 nw 262143=0
    .have M:(bits .and .i64 nw 262143 !=0)=false:=by simp[z]
     obtain⟨s,hs,U⟩:∃s:Nat,s<=63/\bits .and .i64 (nw /262144) 63=(s:Int):=⟨_,(lL (nw /262144) aQ aQ).1,(lL (nw /262144) aQ aQ).2⟩
     have s0:¬(s:Int)<0:=aQ;have V:(s:Int)<64:=aQ;have hlen:a.R.length=256:=l.o.1.i.len;have hi:3 *64+s<a.R.length:=aQ;have c1:wr.cell? (g,1)=some (.int .i64 nw):=by rw[<-l.o.2.1];exact l.o.1.c1
     have c4:wr.cell? (g,196+s)=some (r6 (a.R[3 *64+s]'hi)):=by
      rw[show 196+s=4+(3 *64+s) by omega];exact l.o.1.cr hi
     have f4:wr.frozen? (g,196+s)=false:=l.o.1.fz _;have C:aH (∀nq,dJ F (wr.drewN nq) g n a/\Kp F w (wr.drewN nq)):=λnq=>⟨(l.o.1.below (fL (Below.refl _ _) nq)).1,l.o.2.2.trans (l.o.1.below (fL (Below.refl _ _) nq)).2⟩
     have HQ:aH (∀nq,∃p,dJ (cN F (a.R[3 *64+s]'hi).A) ((wr.drewN nq).setCell (g,196+s) (.slice none 0 0)) g n p/\p.nw=nw/\iD p.R+(a.R[3 *64+s]'hi).xs.length<=n/\Kp F w ((wr.drewN nq).setCell (g,196+s) (.slice none 0 0))/\bH eI 1 ((wr.drewN nq).setCell (g,196+s) (.slice none 0 0)) 0 3 (a.R[3 *64+s]'hi).A (a.R[3 *64+s]'hi).c (a.R[3 *64+s]'hi).xs):=λnq=>by
      obtain⟨t1,t2,t3⟩:=(C.o nq).1.take hi;rw[show 4+(3 *64+s)=196+s by omega] at t1 t2;exact⟨_,t1,l.o.2.1,abX (agA t3) l.o.1.i.sum,(C.o nq).2.trans (t2.mono λb hb=> .inl hb),((C.o nq).1.row hi).kp t2 (λq hq=> .inr hq)⟩
     have Q:(a.R[3 *64+s]'hi).xs.length<=1000000:=by
      have h1:=yP hi;have K:=l.o.1.i.sum;have:=HN.o;omega
     generalize hr:a.R[3 *64+s]'hi=r at *;obtain⟨A,c,xs⟩:=r;simp only[r6] at c4 Q HQ;clear hr;go_upto_region 6 with(fail)
     go_quiet (fail)
     clear l C z M hlen hi;go_wp2_with fail
     go_loopw [60] (λv60 W=>∃k:Nat,v60= .int .i64 k/\k<=xs.length/\aH (∃p,dJ (cN F A) W g n p/\p.nw=nw/\iD p.R+(xs.length - k)<=n/\Kp F w W/\bH eI 1 W 0 3 A c xs)) (λv60 _=>xs.length - (aL v60).toNat)
     case atStart=>exact⟨0,rfl,ab0 _,HQ.o _⟩
     case round=>
      clear HQ c1 c4 f4 U hs s0 V;obtain⟨k,rfl,hk,H⟩:=hrel;by_cases B:k<xs.length
      .obtain⟨p,I,J,Z,E,u⟩:=H.o;clear H;obtain⟨q,rfl⟩:∃q,A=some ⟨q,0,none⟩:=by
        rcases u.shape with⟨_,K,_⟩|K
        .rw[K] at B;simp at B
        .exact K
       have e0:=bM gR u B (j:=0) (v:= .int .i64 xs[k]) rfl;rw[adT,acD] at e0;have k0:(0:Int)<=k:=aQ;have k1:(k:Int)<(xs.length:Int):=aQ;have c3:=I.c3;have t:=GS I.mp xs[k];have hd:=KO I.i xs[k];have HP:=aP (DR (m:=n) I (AJ p.f xs[k]) hd.2 (abQ _) aQ HN.o);have S:=dE u E J;have T:aH (iD p.R+1+(xs.length - (k+1))<=n):=by unfold aH;omega
       generalize AJ p.f xs[k]=d at *;generalize xs[k]=x at *;obtain⟨da,dh,dw⟩:=d;simp only[AM] at t HP;clear I Z E u hd;go_wp2_with fail
       refine aR HP ?_;rintro e w5 ⟨rfl,R,h5,N,X⟩;have G:aH (∃p,dJ (cN F (some ⟨q,0,none⟩)) w5 g n p/\p.nw=nw/\iD p.R+(xs.length - (k+1))<=n/\Kp F w w5/\bH eI 1 w5 0 3 (some ⟨q,0,none⟩) c xs):=⟨_,h5,S.o.2.2,by show iD R+_<=n;rw[N];exact T.o,S.o.2.1.trans (X.mono λb hb=> .inl hb),S.o.1.kp X (λq hq=> .inr hq)⟩
       clear h5 N X S T HP t c3 e0;go_wp2_with fail
       go_roundw
       case rel=>exact⟨k+1,by go_num,aQ,G.o⟩
       case measure=>simp[aL];omega
      .obtain rfl:k=xs.length:=aQ;have k1:¬(xs.length:Int)<(xs.length:Int):=aQ;have G:aH (∃a,dJ F wr g n a/\a.nw=nw/\Kp F w wr):=by
        obtain⟨p,I,J,_,E,_⟩:=H.o;exact⟨p,I.less (λb hb=> .inl hb),J,E⟩
       clear H;go_wp2_with fail
       go_roundw
       case rel=>exact⟨1,by go_num,aQ,aQ,G.o⟩
       case measure=>simp[aL]
    .have M:(bits .and .i64 nw 262143 !=0)=true:=by simp[z]
     have c1:wr.cell? (g,1)=some (.int .i64 nw):=by rw[<-l.o.2.1];exact l.o.1.c1
     have G:aH (∀nq,∃a,dJ F (wr.drewN nq) g n a/\a.nw=nw/\Kp F w (wr.drewN nq)):=λnq=>⟨a,(l.o.1.below (fL (Below.refl _ _) nq)).1,l.o.2.1,l.o.2.2.trans (l.o.1.below (fL (Below.refl _ _) nq)).2⟩
     clear z l;go_upto_region 6 with(fail)
     go_quiet (fail)
     go_wp2_with fail
     go_roundw
     case rel=>exact⟨1,by go_num,aQ,aQ,G.o _⟩
     case measure=>simp[aL]
   ·
    by_cases z:bits .and .i64 nw 4095=0
    .have M:(bits .and .i64 nw 4095 !=0)=false:=by simp[z]
     obtain⟨s,hs,U⟩:∃s:Nat,s<=63/\bits .and .i64 (nw /4096) 63=(s:Int):=⟨_,(lL (nw /4096) aQ aQ).1,(lL (nw /4096) aQ aQ).2⟩
     have s0:¬(s:Int)<0:=aQ;have V:(s:Int)<64:=aQ;have hlen:a.R.length=256:=l.o.1.i.len;have hi:2 *64+s<a.R.length:=aQ;have c1:wr.cell? (g,1)=some (.int .i64 nw):=by rw[<-l.o.2.1];exact l.o.1.c1
     have c4:wr.cell? (g,132+s)=some (r6 (a.R[2 *64+s]'hi)):=by
      rw[show 132+s=4+(2 *64+s) by omega];exact l.o.1.cr hi
     have f4:wr.frozen? (g,132+s)=false:=l.o.1.fz _;have C:aH (∀nq,dJ F (wr.drewN nq) g n a/\Kp F w (wr.drewN nq)):=λnq=>⟨(l.o.1.below (fL (Below.refl _ _) nq)).1,l.o.2.2.trans (l.o.1.below (fL (Below.refl _ _) nq)).2⟩
     have HQ:aH (∀nq,∃p,dJ (cN F (a.R[2 *64+s]'hi).A) ((wr.drewN nq).setCell (g,132+s) (.slice none 0 0)) g n p/\p.nw=nw/\iD p.R+(a.R[2 *64+s]'hi).xs.length<=n/\Kp F w ((wr.drewN nq).setCell (g,132+s) (.slice none 0 0))/\bH eI 1 ((wr.drewN nq).setCell (g,132+s) (.slice none 0 0)) 0 3 (a.R[2 *64+s]'hi).A (a.R[2 *64+s]'hi).c (a.R[2 *64+s]'hi).xs):=λnq=>by
      obtain⟨t1,t2,t3⟩:=(C.o nq).1.take hi;rw[show 4+(2 *64+s)=132+s by omega] at t1 t2;exact⟨_,t1,l.o.2.1,abX (agA t3) l.o.1.i.sum,(C.o nq).2.trans (t2.mono λb hb=> .inl hb),((C.o nq).1.row hi).kp t2 (λq hq=> .inr hq)⟩
     have Q:(a.R[2 *64+s]'hi).xs.length<=1000000:=by
      have h1:=yP hi;have K:=l.o.1.i.sum;have:=HN.o;omega
     generalize hr:a.R[2 *64+s]'hi=r at *;obtain⟨A,c,xs⟩:=r;simp only[r6] at c4 Q HQ;clear hr;go_upto_region 6 with(fail)
     go_quiet (fail)
     clear l C z M hlen hi;go_wp2_with fail
     go_loopw [60] (λv60 W=>∃k:Nat,v60= .int .i64 k/\k<=xs.length/\aH (∃p,dJ (cN F A) W g n p/\p.nw=nw/\iD p.R+(xs.length - k)<=n/\Kp F w W/\bH eI 1 W 0 3 A c xs)) (λv60 _=>xs.length - (aL v60).toNat)
     case atStart=>exact⟨0,rfl,ab0 _,HQ.o _⟩
     case round=>
      clear HQ c1 c4 f4 U hs s0 V;obtain⟨k,rfl,hk,H⟩:=hrel;by_cases B:k<xs.length
      .obtain⟨p,I,J,Z,E,u⟩:=H.o;clear H;obtain⟨q,rfl⟩:∃q,A=some ⟨q,0,none⟩:=by
        rcases u.shape with⟨_,K,_⟩|K
        .rw[K] at B;simp at B
        .exact K
       have e0:=bM gR u B (j:=0) (v:= .int .i64 xs[k]) rfl;rw[adT,acD] at e0;have k0:(0:Int)<=k:=aQ;have k1:(k:Int)<(xs.length:Int):=aQ;have c3:=I.c3;have t:=GS I.mp xs[k];have hd:=KO I.i xs[k];have HP:=aP (DR (m:=n) I (AJ p.f xs[k]) hd.2 (abQ _) aQ HN.o);have S:=dE u E J;have T:aH (iD p.R+1+(xs.length - (k+1))<=n):=by unfold aH;omega
       generalize AJ p.f xs[k]=d at *;generalize xs[k]=x at *;obtain⟨da,dh,dw⟩:=d;simp only[AM] at t HP;clear I Z E u hd;go_wp2_with fail
       refine aR HP ?_;rintro e w5 ⟨rfl,R,h5,N,X⟩;have G:aH (∃p,dJ (cN F (some ⟨q,0,none⟩)) w5 g n p/\p.nw=nw/\iD p.R+(xs.length - (k+1))<=n/\Kp F w w5/\bH eI 1 w5 0 3 (some ⟨q,0,none⟩) c xs):=⟨_,h5,S.o.2.2,by show iD R+_<=n;rw[N];exact T.o,S.o.2.1.trans (X.mono λb hb=> .inl hb),S.o.1.kp X (λq hq=> .inr hq)⟩
       clear h5 N X S T HP t c3 e0;go_wp2_with fail
       go_roundw
       case rel=>exact⟨k+1,by go_num,aQ,G.o⟩
       case measure=>simp[aL];omega
      .obtain rfl:k=xs.length:=aQ;have k1:¬(xs.length:Int)<(xs.length:Int):=aQ;have G:aH (∃a,dJ F wr g n a/\a.nw=nw/\Kp F w wr):=by
        obtain⟨p,I,J,_,E,_⟩:=H.o;exact⟨p,I.less (λb hb=> .inl hb),J,E⟩
       clear H;go_wp2_with fail
       go_roundw
       case rel=>exact⟨2,by go_num,aQ,aQ,G.o⟩
       case measure=>simp[aL]
    .have M:(bits .and .i64 nw 4095 !=0)=true:=by simp[z]
     have c1:wr.cell? (g,1)=some (.int .i64 nw):=by rw[<-l.o.2.1];exact l.o.1.c1
     have G:aH (∀nq,∃a,dJ F (wr.drewN nq) g n a/\a.nw=nw/\Kp F w (wr.drewN nq)):=λnq=>⟨a,(l.o.1.below (fL (Below.refl _ _) nq)).1,l.o.2.1,l.o.2.2.trans (l.o.1.below (fL (Below.refl _ _) nq)).2⟩
     clear z l;go_upto_region 6 with(fail)
     go_quiet (fail)
     go_wp2_with fail
     go_roundw
     case rel=>exact⟨2,by go_num,aQ,aQ,G.o _⟩
     case measure=>simp[aL]
   ·
    by_cases z:bits .and .i64 nw 63=0
    .have M:(bits .and .i64 nw 63 !=0)=false:=by simp[z]
     obtain⟨s,hs,U⟩:∃s:Nat,s<=63/\bits .and .i64 (nw /64) 63=(s:Int):=⟨_,(lL (nw /64) aQ aQ).1,(lL (nw /64) aQ aQ).2⟩
     have s0:¬(s:Int)<0:=aQ;have V:(s:Int)<64:=aQ;have hlen:a.R.length=256:=l.o.1.i.len;have hi:1 *64+s<a.R.length:=aQ;have c1:wr.cell? (g,1)=some (.int .i64 nw):=by rw[<-l.o.2.1];exact l.o.1.c1
     have c4:wr.cell? (g,68+s)=some (r6 (a.R[1 *64+s]'hi)):=by
      rw[show 68+s=4+(1 *64+s) by omega];exact l.o.1.cr hi
     have f4:wr.frozen? (g,68+s)=false:=l.o.1.fz _;have C:aH (∀nq,dJ F (wr.drewN nq) g n a/\Kp F w (wr.drewN nq)):=λnq=>⟨(l.o.1.below (fL (Below.refl _ _) nq)).1,l.o.2.2.trans (l.o.1.below (fL (Below.refl _ _) nq)).2⟩
     have HQ:aH (∀nq,∃p,dJ (cN F (a.R[1 *64+s]'hi).A) ((wr.drewN nq).setCell (g,68+s) (.slice none 0 0)) g n p/\p.nw=nw/\iD p.R+(a.R[1 *64+s]'hi).xs.length<=n/\Kp F w ((wr.drewN nq).setCell (g,68+s) (.slice none 0 0))/\bH eI 1 ((wr.drewN nq).setCell (g,68+s) (.slice none 0 0)) 0 3 (a.R[1 *64+s]'hi).A (a.R[1 *64+s]'hi).c (a.R[1 *64+s]'hi).xs):=λnq=>by
      obtain⟨t1,t2,t3⟩:=(C.o nq).1.take hi;rw[show 4+(1 *64+s)=68+s by omega] at t1 t2;exact⟨_,t1,l.o.2.1,abX (agA t3) l.o.1.i.sum,(C.o nq).2.trans (t2.mono λb hb=> .inl hb),((C.o nq).1.row hi).kp t2 (λq hq=> .inr hq)⟩
     have Q:(a.R[1 *64+s]'hi).xs.length<=1000000:=by
      have h1:=yP hi;have K:=l.o.1.i.sum;have:=HN.o;omega
     generalize hr:a.R[1 *64+s]'hi=r at *;obtain⟨A,c,xs⟩:=r;simp only[r6] at c4 Q HQ;clear hr;go_upto_region 6 with(fail)
     go_quiet (fail)
     clear l C z M hlen hi;go_wp2_with fail
     go_loopw [60] (λv60 W=>∃k:Nat,v60= .int .i64 k/\k<=xs.length/\aH (∃p,dJ (cN F A) W g n p/\p.nw=nw/\iD p.R+(xs.length - k)<=n/\Kp F w W/\bH eI 1 W 0 3 A c xs)) (λv60 _=>xs.length - (aL v60).toNat)
     case atStart=>exact⟨0,rfl,ab0 _,HQ.o _⟩
     case round=>
      clear HQ c1 c4 f4 U hs s0 V;obtain⟨k,rfl,hk,H⟩:=hrel;by_cases B:k<xs.length
      .obtain⟨p,I,J,Z,E,u⟩:=H.o;clear H;obtain⟨q,rfl⟩:∃q,A=some ⟨q,0,none⟩:=by
        rcases u.shape with⟨_,K,_⟩|K
        .rw[K] at B;simp at B
        .exact K
       have e0:=bM gR u B (j:=0) (v:= .int .i64 xs[k]) rfl;rw[adT,acD] at e0;have k0:(0:Int)<=k:=aQ;have k1:(k:Int)<(xs.length:Int):=aQ;have c3:=I.c3;have t:=GS I.mp xs[k];have hd:=KO I.i xs[k];have HP:=aP (DR (m:=n) I (AJ p.f xs[k]) hd.2 (abQ _) aQ HN.o);have S:=dE u E J;have T:aH (iD p.R+1+(xs.length - (k+1))<=n):=by unfold aH;omega
       generalize AJ p.f xs[k]=d at *;generalize xs[k]=x at *;obtain⟨da,dh,dw⟩:=d;simp only[AM] at t HP;clear I Z E u hd;go_wp2_with fail
       refine aR HP ?_;rintro e w5 ⟨rfl,R,h5,N,X⟩;have G:aH (∃p,dJ (cN F (some ⟨q,0,none⟩)) w5 g n p/\p.nw=nw/\iD p.R+(xs.length - (k+1))<=n/\Kp F w w5/\bH eI 1 w5 0 3 (some ⟨q,0,none⟩) c xs):=⟨_,h5,S.o.2.2,by show iD R+_<=n;rw[N];exact T.o,S.o.2.1.trans (X.mono λb hb=> .inl hb),S.o.1.kp X (λq hq=> .inr hq)⟩
       clear h5 N X S T HP t c3 e0;go_wp2_with fail
       go_roundw
       case rel=>exact⟨k+1,by go_num,aQ,G.o⟩
       case measure=>simp[aL];omega
      .obtain rfl:k=xs.length:=aQ;have k1:¬(xs.length:Int)<(xs.length:Int):=aQ;have G:aH (∃a,dJ F wr g n a/\a.nw=nw/\Kp F w wr):=by
        obtain⟨p,I,J,_,E,_⟩:=H.o;exact⟨p,I.less (λb hb=> .inl hb),J,E⟩
       clear H;go_wp2_with fail
       go_roundw
       case rel=>exact⟨3,by go_num,aQ,aQ,G.o⟩
       case measure=>simp[aL]
    .have M:(bits .and .i64 nw 63 !=0)=true:=by simp[z]
     have c1:wr.cell? (g,1)=some (.int .i64 nw):=by rw[<-l.o.2.1];exact l.o.1.c1
     have G:aH (∀nq,∃a,dJ F (wr.drewN nq) g n a/\a.nw=nw/\Kp F w (wr.drewN nq)):=λnq=>⟨a,(l.o.1.below (fL (Below.refl _ _) nq)).1,l.o.2.1,l.o.2.2.trans (l.o.1.below (fL (Below.refl _ _) nq)).2⟩
     clear z l;go_upto_region 6 with(fail)
     go_quiet (fail)
     go_wp2_with fail
     go_roundw
     case rel=>exact⟨3,by go_num,aQ,aQ,G.o _⟩
     case measure=>simp[aL]
  .obtain rfl:i=3:=aQ;clear hi hi0;have c1:wr.cell? (g,1)=some (.int .i64 nw):=by rw[<-l.o.2.1];exact l.o.1.c1
   obtain⟨s,hs,U⟩:∃s:Nat,s<=63/\bits .and .i64 nw 63=(s:Int):=⟨_,(lL nw aQ aQ).1,(lL nw aQ aQ).2⟩
   have s0:¬(s:Int)<0:=aQ;have V:(s:Int)<64:=aQ;have hlen:a.R.length=256:=l.o.1.i.len;have hi:s<a.R.length:=aQ;have c4:wr.cell? (g,4+s)=some (r6 (a.R[s]'hi)):=l.o.1.cr hi;have hxn:(a.R[s]'hi).xs.length<=n:=abX (yP hi) l.o.1.i.sum;have HXN:=aP hxn;have Q:(a.R[s]'hi).xs.length<=1000000:=abX hxn HN.o;have HQ:aH (OL F w wr g n nw none 0 [] (a.R[s]'hi).A (a.R[s]'hi).c (a.R[s]'hi).xs a):=⟨bH.nil _ _ _,λd hd=>(by cases hd),l.o.1.less (λb hb=>by rcases hb with hb|hb;exact hb;cases hb),l.o.1.row hi,l.o.2.1,l.o.2.2⟩
   generalize a.R[s]'hi=r at *;obtain⟨A,c,xs⟩:=r;simp only[r6] at c4 Q HQ HXN;clear l hi hlen O hxn;go_wp2_with fail
   go_loopw [10,87] (λv10 v87 W=>∃(k m:Nat) (A2:Option aJ) (c2:Nat) (D:List Du),v87= .int .i64 k/\v10= .slice A2 m c2/\k<=xs.length/\m<=k/\aH (m=D.length/\∃p,OL F w W g n nw A2 c2 D A c xs p)) (λ_ v87 _=>xs.length - (aL v87).toNat)
   case atStart=>exact⟨0,0,none,0, [],rfl,rfl,ab0 _,abQ _,rfl,a,HQ.o⟩
   case round=>
    clear HQ c1 c4;obtain⟨k,m,A2,c2,D,rfl,rfl,hk,hm,H⟩:=hrel;by_cases B:k<xs.length
    .obtain⟨hmD,p,z⟩:=H.o;clear H;have u:=z.r;obtain⟨q,rfl⟩:∃q,A=some ⟨q,0,none⟩:=by
      rcases u.shape with⟨_,K,_⟩|K
      .rw[K] at B;simp at B
      .exact K
     have e0:=bM gR u B (j:=0) (v:= .int .i64 xs[k]) rfl;rw[adT,acD] at e0;have k0:(0:Int)<=k:=aQ;have k1:(k:Int)<(xs.length:Int):=aQ;have c3:=z.m.c3;have t:=GS z.m.mp xs[k];have HD:=aP (KO z.m.i xs[k]).1;have H:=bO hmD z;clear z hmD u;generalize AJ p.f xs[k]=d at *;generalize xs[k]=x at *;obtain⟨da,dh,dw⟩:=d;simp only[AM] at t;have HSZ:aH (w.heap.size<=wr.heap.size):=H.o.2.k.size;go_upto_region 22 with(at_builtin;refine bQ _ rfl _ _ rfl Uu rM (H.o.2.o.alloc _) (n:=m) H.o.1.symm rfl (m:=1) rfl (ys:= [⟨da,dh,dw⟩]) rfl (Sl.fH rM wr ⟨da,dh,dw⟩ _ rfl _ aT) dN aQ (abX HSZ.o aT) _ rfl (m+1) rfl ?_;intro A9 c9 w9 own9 hg9 at9)
     have HZ9:=aP (H.o.2.app HF.o _ HD.o own9 hg9 at9);obtain⟨w10,hrun,hm10,hg10⟩:=BX (P:=prog) underlying335 underlying3 HZ9.o.m.mp x 0;have G:=aP (HZ9.o.del hm10 hg10);have HL:aH (m+1=(D++ [(⟨da,dh,dw⟩:Du)]).length):=by unfold aH;rw[ab6,<-H.o.1];rfl
     have c3:=HZ9.o.m.c3;clear own9 hg9 at9 hm10 hg10 H HZ9 t e0;go_wp2_with fail
     go_roundw
     case rel=>exact⟨k+1,m+1,A9,c9,_,by go_num,rfl,aQ,aQ,HL.o,_,G.o⟩
     case measure=>simp[aL];omega
    .obtain rfl:k=xs.length:=aQ;have k1:¬(xs.length:Int)<(xs.length:Int):=aQ;obtain⟨hmD,p,z⟩:=H.o;clear H;have O:s<p.R.length:=by have:=z.m.i.len;omega
     have c4:wr.cell? (g,4+s)=some (r6 (p.R[s]'O)):=z.m.cr O;have f4:=z.m.fz (4+s);obtain⟨t1,t2,_⟩:=z.m.take O;have HM:aH (m<=n):=abX hm HXN.o;have hml:m<=1000000:=aQ;have G:aH (bH uS 3 (wr.setCell (g,4+s) (.slice none 0 0)) w.heap.size 274 A2 c2 D/\(∀d∈D,0<=d.wh/\d.wh<4)/\(∃y',dJ (cN F A2) (wr.setCell (g,4+s) (.slice none 0 0)) g n y'/\y'.nw=nw)/\Kp F w (wr.setCell (g,4+s) (.slice none 0 0))):=⟨z.o.kp t2 (λq hq=> .inl (.inr hq)),z.d,⟨_,t1.less (λb hb=> .inl hb),z.nw⟩,z.k.trans (t2.mono λb hb=> .inl (.inl hb))⟩
     generalize p.R[s]'O=r3 at *;obtain⟨A3,c3,xs3⟩:=r3;simp only[r6] at c4;have HMD:=aP hmD;clear z t1 t2 O hm hmD;go_upto_region 25 with(fail)
     generalize wr.setCell (g,4+s) (.slice none 0 0)=w5 at *;clear c4 f4;have hsh:=G.o.1.shape;rcases hsh with⟨rfl,rfl,rfl⟩|⟨q2,rfl⟩
     .obtain rfl:m=0:=HMD.o;have HR:aH (XO F g n nw w (.returned (.slice none 0 0)) w5):=⟨none,0, [],rfl,ab0 _,λd hd=>(by cases hd),bH.nil _ _ _,G.o.2.2.1,G.o.2.2.2⟩
      clear HMD G;go_wp2_with fail
      refine aS (WW _) ?_;rintro e w6 ⟨rfl,rfl⟩;go_wp2_with fail
      go_ret
      exact HR.o
     .have T:=WQ G.o.1 (by rw[<-HMD.o];omega);rw[<-HMD.o] at T;have T:=aP T;go_wp2_with fail
      refine aR T ?_;rintro e w6 ⟨rfl,L,hp,_,own6,hg6⟩;have HR:aH (XO F g n nw w (.returned (.slice q2 m c2)) w6):=by
       obtain⟨o5,d5,⟨y5,h5,n5⟩,X⟩:=G.o;have fl5:Ol F w5:=λb hb=>h5.fl b (.inl hb)
       obtain⟨h6,k6⟩:=dV.app (CK g n y5) (A:=some ⟨q2,0,none⟩) (A':=some ⟨q2,0,none⟩) h5 fl5 (λb hb e=>by have:=(o5.lt b e).1;have:=HF.o b hb;omega) hg6 (.inl rfl) (λq hq=>(own6.lt q hq).2);have hl:m=L.length:=by rw[HMD.o,hp.length_eq]
       exact⟨some ⟨q2,0,none⟩,c2,L,by rw[hl],by rw[<-hl];exact HM.o,λd hd=>d5 d (hp.mem_iff.1 hd),own6,⟨y5,h6,n5⟩,X.trans k6⟩
      clear own6 hg6 hp G T;go_wp2_with fail
      go_ret
      exact HR.o
end
variable{w5:aA}{A5:Option aJ}{D5:List Du}{y5:Wa}
section
def EX(g:Nat)(w:aA):Int:=aL ((w.cell? (g,1)).getD undef)
theorem dJ.EX{y:Wa}(h:dJ F w g n y):EX g w=y.nw:=by
 unfold Go.Proofs.YtacgiflhgdaeaaaGreat.EX;rw[h.c1];rfl
def VO(F:Nat->Prop)(g n:Nat)(w:aA)(e:aM)(w':aA):Prop:=∃(A:Option aJ) (c:Nat) (D:List Du) (E:Int),e= .returned (.tuple #[(A,D.length,c),E])/\D.length<=1048576000000/\(∀d∈D,0<=d.wh/\d.wh<4)/\bH uS 3 w' w.heap.size 274 A c D/\(∃y',dJ (cN F A) w' g n y')/\Kp F w w'
structure OQ(F:Nat->Prop)(w wr:aA)(g n:Nat)(A:Option aJ)(c:Nat)(D:List Du)(y:Wa):Prop where
 o:bH uS 3 wr w.heap.size 274 A c D
 d:∀d∈D,0<=d.wh/\d.wh<4
 m:dJ (cN F A) wr g n y
 k:Kp F w wr
 l:(D.length:Int)<=y.nw *1000000
theorem OQ.app{c:Nat}{D:List Du}{y:Wa}(h:OQ F w wr g n A c D y)(fl:Ol F w)(v:n<=1000000)(hl:D5.length<=n)(hd:∀d∈D5,0<=d.wh/\d.wh<4)(m:dJ (cN (cN F A) A5) w5 g n y5)(i:y5.nw=y.nw+1)(p:Kp (cN F A) wr w5)
 (a:bH uS 3 w9 w.heap.size 274 A9 c9 (D++D5)) (r:w5.grownBy w9 (aY A)) (ha:aY A9=aY A\/aY A9=some w5.heap.size):OQ F w w9 g n A9 c9 (D++D5) y5:=by
 have s:dJ (cN F A) w5 g n y5:=m.less (λb hb=> .inl hb);have j:Kp F w w5:=h.k.trans (p.mono λb hb=> .inl hb);obtain⟨t,u⟩:=dV.app (CK g n y5) s (fl.kp j) (λb hb e=>by have:=(h.o.lt b e).1;have:=fl b hb;omega) r ha (λq hq=>(a.lt q hq).2);refine⟨a,λx f=>?_,t,j.trans u,?_⟩
 .rcases ab9.1 f with f|f
  .exact h.d x f
  .exact hd x f
 .have:=h.l;rw[ab6,i];omega
theorem Eg{y:Wa}(h:dJ F w g n y)(L:n<=1000000)(tt:Int):aG prog 106 #[.pointer g,tt] w (VO F g n w):=by
 have c0:=h.c0;have c1:=h.c1;have hnw:=h.i.nw;have O:aH (VO F g n w (.returned (.tuple #[bG, .int .i64 1])) w):=⟨none,0, [],1,rfl,ab0 _,λd hd=>(by cases hd),bH.nil _ _ _,⟨y,h.less (λb hb=>by rcases hb with hb|hb;exact hb;cases hb)⟩,Kp.refl _ _⟩
 by_cases h1:tt<y.nw
 .generalize y.nw=nw at *;clear h L;go_enter func106,ntmps106
  go_wp2_with fail
  go_ret2
  exact O.o
 by_cases z:1048576<tt
 .generalize y.nw=nw at *;clear h L;go_enter func106,ntmps106
  go_wp2_with fail
  go_ret2
  exact O.o
 have Q:=aP L;have HF:=aP h.fl;have HQ:aH (OQ F w w g n none 0 [] y):=⟨bH.nil _ _ _,λd hd=>(by cases hd),h.less (λb hb=>by rcases hb with hb|hb;exact hb;cases hb),Kp.refl _ _,by simp only[ac6];omega⟩
 have R:0<=tt/\tt<=1048576:=aQ;clear O L h;have HY:aH (∃B,OQ F w w g n none 0 [] B):=⟨y,HQ.o⟩
 generalize y.nw=nw at *;clear HQ;go_enter func106,ntmps106
 go_wp2_with fail
 go_loopw [6] (λv6 wr=>∃(m c:Nat) (A:Option aJ) (D:List Du),v6= .slice A m c/\aH (m=D.length/\∃B,OQ F w wr g n A c D B)) (λ_ wr=>(tt - EX g wr).toNat)
 case atStart=>exact⟨0,0,none, [],rfl,rfl,HY.o⟩
 case round=>
  clear HY c0 c1 h1 z;obtain⟨m,c,A,D,rfl,a⟩:=hrel;obtain⟨s,B,p⟩:=a.o;clear a;have a:=bO s p;have c1:=p.m.c1;have c3:=p.m.c3;have E:=p.m.EX;have hb:=p.m.i.nw;have hl:=p.l;rw[<-s] at hl;obtain⟨ln,hlen,_⟩:=Ft (P:=prog) underlying335 p.m.mp 3;obtain⟨M,j⟩:∃v,v=B.nw:=⟨_,rfl⟩
  have G:=aP j;have S:aH (EX g wr=M):=E.trans j.symm;rw[<-j] at c1 hb hl;clear p E j s;have hml:(m:Int)<=1048576000000:=aQ;have t:aH (VO F g n w (.returned (.tuple #[(A,m,c),aU])) (wr.setCell (g,1) tt)):=by
   obtain⟨h1,z⟩:=a.o.2.m.PS R;refine⟨A,c,D,0,by rw[a.o.1],?_,a.o.2.d,a.o.2.o.kp z (λq hq=> .inr hq),⟨_,h1⟩,a.o.2.k.trans (z.mono λb hb=> .inl hb)⟩;rw[<-a.o.1];omega
  have f1:=a.o.2.m.fz 1;by_cases hlt:M<tt
  .by_cases hp:0<ln
   .have T:(0:Int)<(ln:Int):=aQ;have HT:aH (aG prog 144 #[.pointer g] wr λe w'=>∃(u:Option aJ) (c5 m5:Nat) (f:List Du),e= .returned (.slice u m5 c5)/\m5<=1000000/\aH (m5=f.length/\f.length<=n/\(∀d∈f,0<=d.wh/\d.wh<4)/\bH uS 3 w' wr.heap.size 274 u c5 f/\(∃N,dJ (cN (cN F A) u) w' g n N/\N.nw=B.nw+1)/\Kp (cN F A) wr w')):=(ZX a.o.2.m Q.o (by rw[<-G.o];omega)).mono (by
     rintro e w' ⟨u,c5,f,rfl,h1,z,h3,h4,U⟩;exact⟨u,c5,f.length,f,rfl,abX h1 Q.o,rfl,h1,z,h3,h4,U⟩)
    have V:aH (w.heap.size<=wr.heap.size):=a.o.2.k.size;clear t f1;go_upto_region 7 with(fail)
    clear c1 c3 hlen hp T;go_wp2_with fail
    refine aR HT ?_;rintro e w5 ⟨u,c5,m5,f,rfl,hm5,C⟩;have W:aH (bH uS 3 w5 w.heap.size 274 A c D):=a.o.2.o.kp C.o.2.2.2.2.2 (λq hq=> .inr hq);have X:aH (Sl uS 3 w5 u f):=C.o.2.2.2.1.sl rM;have Y:aH (w.heap.size<=w5.heap.size):=abX V.o C.o.2.2.2.2.2.size;clear HT;go_wp2_with(at_builtin;refine bQ _ rfl _ _ rfl Uu rM W.o (n:=m) a.o.1.symm rfl (m:=m5) rfl (ys:=f) C.o.1.symm X.o dN aQ Y.o _ rfl (m+m5) rfl ?_;intro Z c9 w9 r H I)
    have HL:aH (m+m5=(D++f).length):=by
     unfold aH;rw[ab6,<-a.o.1,<-C.o.1]
    have J:aH (∃x,OQ F w w9 g n Z c9 (D++f) x/\x.nw=M+1):=by
     obtain⟨_,hl5,hd5,_,⟨N,U,n5⟩,k5⟩:=C.o;exact⟨N,a.o.2.app HF.o Q.o hl5 hd5 U n5 k5 r H I,by rw[n5,G.o]⟩
    clear r H I;have HN9:aH (EX g w9=M+1):=by
     obtain⟨x,h9,e9⟩:=J.o;exact h9.m.EX.trans e9
    have K:aH (∃x,OQ F w w9 g n Z c9 (D++f) x):=by
     obtain⟨x,h9,_⟩:=J.o;exact⟨x,h9⟩
    go_roundw
    case rel=>exact⟨m+m5,c9,Z,D++f,rfl,HL.o,K.o⟩
    case measure=>
     rw[HN9.o,S.o];omega
   .have hp0:ln=0:=aQ;subst hp0;clear hp hb hl;go_wp2_with fail
    go_ret2
    exact t.o
  .clear hb hl;go_wp2_with fail
   go_ret2
   exact t.o
def SQ(nw:Int)(M:Nat):Wa:=⟨nw,0,M,λ_=>none,List.replicate 256 ⟨none,0, []⟩⟩
theorem Jr(n:Nat):iD (List.replicate n ⟨none,0, []⟩)=0:=by
 induction n with
 |zero=>rfl
 |succ n a=>
  rw[List.replicate_succ];unfold iD at a⊢;rw[List.map_cons,List.sum_cons,a];rfl
theorem dJ.new(hF:Ol F w){M:Nat}{nw:Int}(c:0<=nw/\nw<=1048576)(f:iJ AM w M (λ_=>none))(h:bF w g 339 (vV (SQ nw M)).toArray)(a:g≠M)(j:¬F M)(ng:¬F g):dJ F w g 0 (SQ nw M):=by
 refine⟨⟨λb=>if b=g then 1 else if b=M then 2 else 0,λb hb=>⟨hF b hb,?_⟩,λi p hp=>?_⟩,⟨c,⟨adO _,adO _⟩,(by unfold SQ;exact ad8),agA (Jr 256),λx d k=>by cases k⟩⟩
 .simp only;rw[abT (λe=>ng (by rw[<-e];exact hb)),abT (λe=>j (by rw[<-e];exact hb))]
 .unfold R4 at hp;match i,hp with
  |0,hp=>
   simp at hp;subst hp;exact⟨h,Fo.ol _ _ _,λhf=>hf.2 aT⟩
  |1,hp=>
   simp at hp;subst hp;refine⟨f,Fo.ol _ _ _,λhf=>hf.2 ?_⟩;show(if M=g then 1 else if M=M then 2 else 0)=2;rw[abT (aeF a),abS rfl]
  |i+2,hp=>
   rw[ab2 aT] at hp;simp only[SQ,List.map_replicate,acR,ac6,aeX] at hp;split at hp
   .injection hp with hp;subst hp;exact gQ.nil (Fo.ol _ _ _)
   .cases hp
theorem Ov(M:Nat):((zeroCells339.setIfInBounds 0 (.bool true)).setIfInBounds 1 (.int .i64 0)).setIfInBounds 3 (.map (some M))=(vV (SQ 0 M)).toArray:=aV
theorem Jg(w:aA):aG prog 140 #[aU] w λe w'=>∃g,e= .returned (.tuple #[.pointer (some ⟨g,0,none⟩),aU])/\w.heap.size<=g/\CN (λb=>b<w.heap.size) w' g 0/\aD w w w':=by
 have d:= @run_makeMap prog;go_enter func140,ntmps140
 go_wp2_with fail
 go_ret2
 rw[Ov];have a:=aX w (Obj.map #[] 0);have hb:=a.alloc a.size (aI (vV (SQ 0 w.heap.size)).toArray 339);have f:(w.alloc (Obj.map #[] 0)).heap.size=w.heap.size+1:=aT;refine⟨w.heap.size+1,rfl,adA _,⟨SQ 0 w.heap.size,dJ.new (λb c=>abR c hb.size) ⟨adO _,cH⟩ ((iJ.new w AM).keep (aX _ _)) (bF.fH _ _ _ f) aQ (adL _) aQ⟩,hb⟩
end
end
section
open Go.RowKit Go.Lib Go.Shelf dL Fr Up Nt
variable{F:Nat->Prop}{w:aA}{g q:Nat}{a:Ka}{k k1 k2 k':Kv}
section
section
variable{F:Nat->Prop}{w w':aA}{g:Nat}{a:Ka}{k:Kv}
theorem bS.whN(h:bS F w g a k):∃G,CN G w a.gw k.n/\(∀(n:Nat) (w':aA) (A:Option aJ),(∀q,Go.Proofs.YtacgiflhgdaeaaaGreat.aY A=some q->w.heap.size<=q)->CN (cN G A) w' a.gw n->Ol (cN G A) w'->Kp G w w'->bS (cN F A) w' g a {k with n:=n}/\Kp F w w'):=by
 obtain⟨G,d,back⟩:=h.o.DQ 8 _ rfl;exact⟨G,d,λn w' A c b fl k'=>⟨⟨(back (RQ a.gw n) w' _ c b fl k').1,h.al,h.bd,h.ln,h.pp⟩,(back (RQ a.gw n) w' _ c b fl k').2⟩⟩
theorem bS.boN(h:bS F w g a k):∃G,vR G w a.gb k.b k.v/\(∀(b:List Nt) (v:List Vc) (w':aA) (A:Option aJ),(∀q,Go.Proofs.YtacgiflhgdaeaaaGreat.aY A=some q->w.heap.size<=q)->vR (cN G A) w' a.gb b v->Ol (cN G A) w'->Kp G w w'->bS (cN F A) w' g a {k with b:=b,v:=v}/\Kp F w w'):=by
 obtain⟨G,e,back⟩:=h.o.DQ 6 _ rfl;exact⟨G,e,λb v w' A d c fl k'=>⟨⟨(back (UI a.gb b v) w' _ d c fl k').1,h.al,h.bd,h.ln,h.pp⟩,(back (UI a.gb b v) w' _ d c fl k').2⟩⟩
end
theorem El(h:bS F w g a k)(e:k.n<=1000000)(tt:Int):aG prog 106 #[.pointer a.gw,tt] w λr w'=>∃(A:Option aJ) (c n:Nat) (D:List Du) (E:Int),r= .returned (.tuple #[(A,n,c),E])/\n<=1048576000000/\aH (n=D.length/\(∀d∈D,0<=d.wh/\d.wh<4)/\bH uS 3 w' w.heap.size 274 A c D/\bS (cN F A) w' g a k/\Kp F w w'):=by
 obtain⟨G,⟨y,f⟩,back⟩:=h.whN;refine(Eg f e tt).mono ?_;rintro r w' ⟨A,c,D,E,rfl,hl,hd,ho,⟨i,b⟩,k2⟩;obtain⟨b1,b2⟩:=back k.n w' A (λq hq=>(ho.lt q hq).1) ⟨i,b⟩ b.fl k2;exact⟨A,c,D.length,D,E,rfl,hl,rfl,hd,ho,b1,b2⟩
theorem Bg(h:bS F w g a k)(hw:KW k)(now:Int):aG prog 107 #[.pointer a.gb,now] w λr w'=>∃(O:Option aJ) (d n:Nat) (T:List Nt),r= .returned (.slice O n d)/\n<=500/\aH (n=T.length/\T.Perm (lM 0 (k.b.filter λx=>decide (x.dI<=now)))/\bH jM 3 w' w.heap.size 96 O d T/\bS (cN F O) w' g a {k with b:=k.b.filter λx=>decide (now<x.dI),v:=T.foldl mT k.v}/\Kp F w w'):=by
 obtain⟨G,e,back⟩:=h.boN;refine(Av now e (by have:=hw.b;omega) hw.be).mono ?_;rintro r w' ⟨O,d,T,rfl,ho,hp,c,f⟩;have fl:Ol (cN G O) w':=by
  obtain⟨_,_,_,fl,_⟩:=c;exact fl
 obtain⟨b1,b2⟩:=back _ _ w' O (λq hq=>(ho.lt q hq).1) c fl f;refine⟨O,d,T.length,T,rfl,?_,rfl,hp,ho,b1,b2⟩;rw[hp.length_eq,BC];have:=aeR (λx:Nt=>decide (x.dI<=now)) k.b;have:=hw.b;omega
def zF(q:Nat)(w:aA):Nat:=(match w.cell? (q,2) with|some (.bool true)=>0|_=>1)+(match w.cell? (q,6) with|some (.bool true)=>0|_=>1)
theorem Nq{L:List Ln}(h:Ir F w g q L)(hl:L.length=2):zF q w=CT L:=by
 match L,hl,h with
 | [x,y],_,h=>
  have b:=(h.at_ (i:=0) aT).2.2.1;have h1:=(h.at_ (i:=1) aT).2.2.1;simp only[ae6,acT,ae7,ac5,ac0] at b h1;unfold zF CT;rw[b,h1];obtain⟨e,f,c,j⟩:=x;obtain⟨l,m,d,n⟩:=y;cases c <;> cases d <;> rfl
theorem bS.zF(h:bS F w g a k):zF a.iq w=CT a.ln:=by
 obtain⟨G,b,_⟩:=h.ir;exact Nq b h.ln
theorem Ga(h:bS F w g a k):aG prog 109 #[.pointer a.gi] w λr w'=>∃(i:Int) (b:Bool) (L:List Ln),r= .returned (.tuple #[i,b])/\aH (bS F w' g {a with ln:=L} k/\Kp F w w'/\(b=true->CT L<CT a.ln)):=by
 obtain⟨G,d,back⟩:=h.ir;refine(Iq d).mono ?_;rintro r w' ⟨L,hl,e,f,j⟩;obtain⟨b1,b2⟩:=back L w' hl e f;rcases j with⟨i,_,rfl,c⟩|rfl
 .exact⟨i,true,L,rfl,b1,b2,λ_=>c⟩
 .exact⟨0,false,L,rfl,b1,b2,λh=>by cases h⟩
theorem KW.tell(h:KW k)(e:Int):KW (dQ k e):=by
 unfold dQ;split
 .refine⟨h.t,h.b,h.cn,?_,h.be,h.n⟩;show gS (jX k.s e true);unfold jX;split
  .exact h.sd.FI _ _
  .exact h.sd
 .exact h
theorem KW.mQ(h:KW k)(l:List Int):KW (dX k l):=by
 induction l generalizing k with
 |nil=>exact h
 |cons e l b=>exact b (h.tell e)
theorem YD(k:Kv)(e:Int):(dQ k e).c=k.c/\(dQ k e).f=k.f/\(dQ k e).t=k.t/\(dQ k e).b=k.b/\(dQ k e).v=k.v/\(dQ k e).n=k.n:=by
 unfold dQ;split <;> exact⟨rfl,rfl,rfl,rfl,rfl,rfl⟩
theorem BV(l:List Int):∀k:Kv,(dX k l).c=k.c/\(dX k l).f=k.f/\(dX k l).t=k.t/\(dX k l).b=k.b/\(dX k l).v=k.v/\(dX k l).n=k.n:=by
 induction l with
 |nil=>intro k;exact⟨rfl,rfl,rfl,rfl,rfl,rfl⟩
 |cons e l d=>
  intro k;obtain⟨h,a2,a3,a4,a5,i⟩:=d (dQ k e);obtain⟨b1,b2,b3,j,m,o⟩:=YD k e;exact⟨h.trans b1,a2.trans b2,a3.trans b3,a4.trans j,a5.trans m,i.trans o⟩
theorem II(k:Kv)(l:List Int)(e:Int):dX k (l++ [e])=dQ (dX k l) e:=by
 unfold dX;rw[ad2];rfl
theorem KW.over(h:KW k)(p:Nt->Bool)(v:List Vc):KW {k with b:=k.b.filter p,v:=v}:=
 ⟨h.t,abX (aeR _ _) h.b,h.cn,h.sd,λx c=>h.be x (adB.1 c).1,h.n⟩
theorem jZ.snoc{x:Nt}{l:List Nt}(r:jZ l k k1)(t:nP x.dU x.fD k1 k2):jZ (l++ [x]) k (dQ k2 x.dU):=by
 induction r with
 |nil _=>exact .cons t (.nil _)
 |cons r1 _ b=>exact .cons r1 (b t)
theorem jZ.kw{l:List Nt}(r:jZ l k k')(h:KW k):KW k':=by
 induction r with
 |nil _=>exact h
 |cons r1 _ b=>exact b ((r1.kw h).tell _)
end
section
theorem S8{a:Ka}(h:bS F w g a k)(hw:KW k)(hn:k.n<=1000000):aG prog 76 #[.pointer g] w λr w'=>∃k',kJ k k'/\gK F g k' (.tuple #[]) w r w':=by
 have hnw:=hw.sd.nw;have ps:=h.ps;have pw:=h.pw;unfold pA at ps pw;obtain⟨G,hs,_⟩:=h.sd;have N:=wO hs;have HA:=El h hn k.s.nw;have HW:=aP hw;have HR:aH (∀(l1 l:List Int) (T:List Nt) (I:Kv),T.Perm (lM 0 (k.b.filter λx=>decide (x.dI<=k.s.nw)))->jZ T {dX k l1 with b:=k.b.filter λx=>decide (k.s.nw<x.dI),v:=T.foldl mT k.v} I->kJ k (dX I l)):=λl1 l T I h1 t=>⟨l1,l,T,I,h1,t,rfl⟩
 generalize k.s.nw=nw at *;have N:=aP N;have HA:=aP HA;have hwr:IntKind.u64.wrap nw=nw:=by rw[IntKind.wrap_u64];omega
 clear h hs hw;go_enter func76,ntmps76
 go_wp2_with fail
 refine aR N ?_;rintro r w1 ⟨rfl,rfl⟩;go_wp2_with fail
 refine aR HA ?_;rintro r w2 ⟨A,c,n,D,E,rfl,hn5,HD⟩;clear N HA ps pw;go_wp2_with fail
 go_loopw [29] (λa6 wr=>∃i:Nat,a6= .int .i64 i/\i<=n/\aH (∃l1,KM (cN F A) wr g (dX k l1)/\Kp (cN F A) w2 wr)) (λa6 _=>n - (aL a6).toNat)
 case atStart=>exact⟨0,rfl,ab0 _, [],⟨a,HD.o.2.2.2.1⟩,Kp.refl _ _⟩
 case round=>
  obtain⟨i,rfl,hi,HX⟩:=hrel;obtain⟨l1,⟨a1,h1⟩,hK⟩:=HX.o;by_cases J:i<n
  .have f:i<D.length:=by rw[<-HD.o.1];exact J
   have K:=HD.o.2.2.1.kp hK (λq hq=> .inr hq);obtain⟨q,rfl⟩:∃q,A=some ⟨q,0,none⟩:=by
    rcases K.shape with⟨_,t,_⟩|t
    .rw[t] at f;simp at f
    .exact t
   have e0:=bM rM K f (j:=0) (v:= .int .i64 D[i].at_) rfl;have e1:=bM rM K f (j:=1) (v:= .int .i64 D[i].hd) rfl;have e2:=bM rM K f (j:=2) (v:= .int .i64 D[i].wh) rfl;rw[acD] at e0;have hwh:=HD.o.2.1 D[i] (abY f);have i0:(0:Int)<=i:=aQ;have i1:(i:Int)<(n:Int):=aQ;generalize D[i]=d at *;obtain⟨S,dh,dw⟩:=d;simp only at e0 e1 e2 hwh;obtain⟨u,rfl⟩:=abW hwh.1;have u8:(u:Int)<8:=aQ;have P:=bF.new wr 274 #[S,dh,u];have H3:=aP (And.intro ((bS.cM g a1 (dX k l1)).box h1 h1.fl (aI #[S,dh,u] 274)) (hK.trans (h1.below (aX wr (aI #[S,dh,u] 274))).2));clear h1 hK K HX hwh;go_upto_region 6 with(fail)
   generalize wr.alloc (aI #[S,dh,u] 274)=w3 at *;generalize wr.heap.size=q3 at *;have x0:=P.cell 0 S rfl;have x2:=P.cell 2 u rfl;obtain⟨v0,z0⟩:=H3.o.1.qC (i:=u) aQ;have f0:=H3.o.1.fz (11+u);have hne:q3≠g:=λe=>by
    obtain⟨ow,U⟩:=H3.o.1.o;have V:=(U.get 0 (p:=PB g 64 (kL a1).toArray) rfl).nf;have:=U.1 q3 (.inr rfl);rw[e] at this;exact V ⟨this.1,by rw[this.2];decide⟩
   clear e0 e1 e2;go_region_held3 (λW=>W.cell? (q3,2)=some (.int .i64 u)) (first|with_reducible assumption|exact(dP hne).trans x2|exact x2|fail) (fail)
   have B:aH (∃a4,bS (Fb (cN F (some ⟨q,0,none⟩)) q3) (w3.setCell (g,11+u) (.int .i64 0)).drew g a4 (dX k l1)/\Kp (cN F (some ⟨q,0,none⟩)) w2 (w3.setCell (g,11+u) (.int .i64 0)).drew/\bF (w3.setCell (g,11+u) (.int .i64 0)).drew q3 274 #[S,dh,u]):=by
    obtain⟨⟨a4,U⟩,k4⟩:=H3.o.1.store (11+u) aQ 0;have hd:=U.below (Below.refl _ _).drew;exact⟨a4,hd.1,(H3.o.2.trans (k4.mono λb hb=> .inl hb)).drew,k4.aY P (.inr rfl)⟩
   generalize (w3.setCell (g,11+u) (.int .i64 0)).drew=w4 at *;obtain⟨a4,U⟩:=B.o;have B:=aP U;have xb4:=U.2.2;clear U P H3 z0 f0 x0 x2 hne;have x0:=xb4.cell 0 S rfl;have x2:=xb4.cell 2 u rfl;have X:=aP (uC B.o.1 (HW.o.mQ l1).p8 u 1 0 (IntKind.u64.wrap S) aQ);clear xb4;go_wp2_with fail
   refine aR X ?_;rintro r w5 ⟨v5,rfl,V,k5⟩;have HE:aH (∃l1,KM (cN F (some ⟨q,0,none⟩)) w5 g (dX k l1)/\Kp (cN F (some ⟨q,0,none⟩)) w2 w5):=⟨l1++ [(u:Int)],⟨a4,by rw[II];exact V.less (λb hb=> .inl hb)⟩,B.o.2.1.trans (k5.mono λb hb=> .inl hb)⟩
   clear V k5 X B x0 x2;go_wp2_with fail
   go_roundw
   case rel=>exact⟨i+1,by go_num,aQ,HE.o⟩
   case measure=>simp[aL];omega
  .obtain rfl:i=n:=aQ;have i1:¬(i:Int)<(i:Int):=aQ;have H5:aH (bS F wr g a1 (dX k l1)/\Kp F w wr):=⟨h1.less (λb hb=> .inl hb),HD.o.2.2.2.2.trans (hK.mono λb hb=> .inl hb)⟩
   clear h1 hK HX hi J;have pb:=H5.o.1.pb;unfold pA at pb;have HO:=aP (Bg H5.o.1 (HW.o.mQ l1) nw);clear HD;go_wp2_with fail
   refine aR HO ?_;rintro r w6 ⟨O,d,m,T,rfl,hm5,X⟩;clear HO pb;have y:aH (m=T.length/\T.Perm (lM 0 (k.b.filter λx=>decide (x.dI<=nw)))/\bH jM 3 w6 wr.heap.size 96 O d T/\bS (cN F O) w6 g a1 {dX k l1 with b:=k.b.filter λx=>decide (nw<x.dI),v:=T.foldl mT k.v}/\Kp F wr w6):=by
    have:=X.o;rw[(BV l1 k).2.2.2.1,(BV l1 k).2.2.2.2.1] at this;exact this
   clear X;have Q:aH (KW {dX k l1 with b:=k.b.filter λx=>decide (nw<x.dI),v:=T.foldl mT k.v}):=by
    have:=(HW.o.mQ l1).over (λx=>decide (nw<x.dI)) (T.foldl mT k.v);rw[(BV l1 k).2.2.2.1] at this;exact this
   obtain⟨Y,hkO⟩:∃Y,Y={dX k l1 with b:=k.b.filter λx=>decide (nw<x.dI),v:=T.foldl mT k.v}:=⟨_,rfl⟩
   have HR2:aH (∀(l:List Int) (I:Kv),jZ T Y I->kJ k (dX I l)):=λl I ho=>HR.o l1 l T I y.o.2.1 (by rw[<-hkO];exact ho)
   rw[<-hkO] at y Q;clear hkO HR;go_wp2_with fail
   go_loopw [55] (λv55 wz=>∃i:Nat,v55= .int .i64 i/\i<=m/\aH (∃z,jZ (T.take i) Y z/\KM (cN F O) wz g z/\Kp (cN F O) w6 wz)) (λv55 _=>m - (aL v55).toNat)
   case atStart=>exact⟨0,rfl,ab0 _,Y, .nil _,⟨a1,y.o.2.2.2.1⟩,Kp.refl _ _⟩
   case round=>
    obtain⟨j,rfl,hj,HX⟩:=hrel;obtain⟨z,H,⟨a2,t⟩,hK⟩:=HX.o;by_cases J:j<m
    .have f:j<T.length:=by rw[<-y.o.1];exact J
     have K:=y.o.2.2.1.kp hK (λq hq=> .inr hq);obtain⟨q,rfl⟩:∃q,O=some ⟨q,0,none⟩:=by
      rcases K.shape with⟨_,t,_⟩|t
      .rw[t] at f;simp at f
      .exact t
     have e0:=bM jN K f (j:=0) (v:= .int .i64 T[j].dU) rfl;have e1:=bM jN K f (j:=1) (v:= .int .i64 T[j].fD) rfl;have e2:=bM jN K f (j:=2) (v:= .int .i64 T[j].dI) rfl;rw[acD] at e0;have htk:aH (T.take (j+1)=T.take j++ [T[j]]):=by unfold aH;rw[ac3,abO f];rfl
     have j0:(0:Int)<=j:=aQ;have j1:(j:Int)<(m:Int):=aQ;have C:aH (KW z):=H.kw Q.o;have M:=aP H;generalize T[j]=x at *;obtain⟨R,Z,xt,xg⟩:=x;simp only at e0 e1 e2;have P:=bF.new wr 96 #[R,Z,xt];have H7:=aP (And.intro ((bS.cM g a2 z).box t t.fl (aI #[R,Z,xt] 96)) (hK.trans (t.below (aX wr (aI #[R,Z,xt] 96))).2));clear t hK K HX H;go_upto_region 12 with(fail)
     generalize wr.alloc (aI #[R,Z,xt] 96)=w7 at *;generalize wr.heap.size=q7 at *;have x0:=P.cell 0 R rfl;have x1:=P.cell 1 Z rfl;have HXB:=aP P;have HTK:=aP (Dm H7.o.1 C.o R Z);clear e0 e1 e2 P;go_wp2_with fail
     refine aR HTK ?_;rintro r w8 ⟨I,ht,rfl,⟨a8,h8⟩,k8⟩;have xb8:=k8.aY HXB.o (.inr rfl);have H8:=bO h8 (H7.o.2.trans (k8.mono λb hb=> .inl hb));have HKW2:aH (KW I):=ht.kw C.o;have HOV2:aH (jZ (T.take (j+1)) Y (dQ I R)):=by unfold aH;rw[htk.o];exact M.o.snoc ht
     clear h8 k8 ht HTK H7 HXB x0 x1 M htk;have x0:=xb8.cell 0 R rfl;have x1:=xb8.cell 1 Z rfl;have HTL:=aP (uC H8.o.1 HKW2.o.p8 R 6 Z 0 aQ);clear xb8;go_wp2_with fail
     refine aR HTL ?_;rintro r w9 ⟨v9,rfl,h9,k9⟩;have HE:aH (∃z,jZ (T.take (j+1)) Y z/\KM (cN F (some ⟨q,0,none⟩)) w9 g z/\Kp (cN F (some ⟨q,0,none⟩)) w6 w9):=⟨_,HOV2.o,⟨a8,h9.less (λb hb=> .inl hb)⟩,H8.o.2.trans (k9.mono λb hb=> .inl hb)⟩
     clear h9 k9 HTL H8 x0 x1;go_wp2_with fail
     go_roundw
     case rel=>exact⟨j+1,by go_num,aQ,HE.o⟩
     case measure=>simp[aL];omega
    .obtain rfl:j=m:=aQ;have j1:¬(j:Int)<(j:Int):=aQ;have M:aH (jZ T Y z):=by
      have:=H;rw[acC (by rw[<-y.o.1];exact abQ _)] at this;exact this
     have HQ:aH (∃l L,bS F wr g {a2 with ln:=L} (dX z l)/\Kp F w wr):=⟨[],a2.ln,t.less (λb hb=> .inl hb),(H5.o.2.trans y.o.2.2.2.2).trans (hK.mono λb hb=> .inl hb)⟩
     have C:aH (KW z):=H.kw Q.o;have HR3:aH (∀l,kJ k (dX z l)):=λl=>HR2.o l z M.o
     clear t hK H HX y hj J M HR2 Q H5;go_wp2_with fail
     go_loopw [] (λwz=>aH (∃l L,bS F wz g {a2 with ln:=L} (dX z l)/\Kp F w wz)) (λwz=>zF a2.iq wz)
     case atStart=>exact HQ.o
     case round=>
      clear HQ;obtain⟨l,L,t,hK⟩:=hrel.o;have pi:=t.pi;unfold pA at pi;simp only at pi;have HN:=Ga t;simp only at HN;have HN:=aP HN;have HU:=aP t.zF;have HK:=aP hK;clear t hK;go_wp2_with fail
      refine aR HN ?_;rintro r w4 ⟨i,b,L4,rfl,B⟩;clear HN pi;cases b with
      |false=>
       have HE:aH (∃k',kJ k k'/\gK F g k' (.tuple #[]) w (.returned (.tuple #[])) w4):=⟨_,HR3.o l,rfl,⟨_,B.o.1⟩,HK.o.trans B.o.2.1⟩
       clear B;go_wp2_with fail
       refine bodyPost_ret (v:= .tuple #[]) (by simp[results,results76,go_sem]) rfl ?_;exact HE.o
      |true=>
       have HB:=aP (C6 B.o.1 i);have X:=aP (λe=>uC B.o.1 (C.o.mQ l).p8 e 2 i nw aQ);generalize FW {a2 with ln:=L4} i=be at *;go_wp2_with fail
       refine aR HB ?_;rintro r w5 ⟨rfl,rfl⟩;go_wp2_with fail
       refine aS (X.o _) ?_;rintro r w5 ⟨v5,rfl,V,k5⟩;have HE:aH (∃l L,bS F w5 g {a2 with ln:=L} (dX z l)/\Kp F w w5):=⟨l++ [be],L4,by rw[II];exact V,(HK.o.trans B.o.2.1).trans k5⟩
       have HM:aH (zF a2.iq w5<zF a2.iq wr):=by
        unfold aH;rw[show zF a2.iq w5=CT L4 from V.zF,show zF a2.iq wr=CT L from HU.o];exact B.o.2.2 (by trivial)
       clear V k5 HB X B;go_wp2_with fail
       go_roundw
       case rel=>exact HE.o
       case measure=>exact HM.o
end
end
section
open Go.RowKit Go.Lib
theorem Nr:(prog.info? 267).map (λi=>(i.zero,i.size,i.bytes))=some (some (.agg #[false,false,false,aU]),4,16):=aV
def LF:Ln:=⟨false,false,false,0⟩
theorem Ep(w:aA):aG prog 138 #[.int .i64 2] w λe w'=>∃(g q:Nat) (L:List Ln),e= .returned (.tuple #[.pointer g,aU])/\L.length=2/\Ir (λb=>b<w.heap.size) w' g q L/\aD w w w':=by
 obtain⟨v,l,m,n,p⟩:=info_parts Nr;go_enter func138,ntmps138
 go_upto_region 4 with(at_make;refine wpList_make_full _ rfl _ _ 332 rfl w.heap.size 267 v _ 4 underlying332 l m n _ _ _ _ 2 rfl rfl aQ aQ (by rw[p];omega) dN (abQ _) ?_;intro c a h)
 have ho:bH K0 4 c w.heap.size 267 (some ⟨w.heap.size,0,none⟩) 2 [LF,LF]:=by
  have e:(madeCells (Value.agg #[false,false,false,aU]).cells (2 *4)).toList= [LF,LF].flatMap K0:=aV;rw[e] at a;exact a
 have hb:aD w w c:=⟨h.os,h.tape,h.output,h.size,λi hi=>h.block i hi aT⟩
 have hq:w.heap.size<c.heap.size:=(ho.lt _ rfl).2;have f:=aX c (aI #[.slice w.heap.size 2 2] 334);have s:=bF.new c 334 #[.slice w.heap.size 2 2];have r:=hb.trans (f.mono hb.size);have d:Ir (λb=>b<w.heap.size) (c.alloc (aI #[.slice w.heap.size 2 2] 334)) c w.heap.size [LF,LF]:=⟨s,(ho.keep f).from_ (ab0 _),aT,λb hb=>abR hb r.size,aQ,adL _,aQ⟩
 generalize c.alloc (aI #[.slice w.heap.size 2 2] 334)=w5 at *;generalize c.heap.size=g at *;generalize k:w.heap.size=q at *;obtain⟨t,x⟩:=d.set (i:=0) (j:=1) aT aQ {LF with ma:=true} (.bool true) rfl;obtain⟨u,y⟩:=t.set (i:=1) (j:=1) aT aQ {LF with ma:=true} (.bool true) rfl;have z:aH (∃L:List Ln,L.length=2/\Ir (λb=>b<q) ((w5.setCell (q,1) (.bool true)).setCell (q,5) (.bool true)) g q L/\aD q w ((w5.setCell (q,1) (.bool true)).setCell (q,5) (.bool true))):=⟨_,rfl,u,(r.setCell (abQ _) _).setCell (abQ _) _⟩
 have c0:=d.b.cell 0 _ rfl;obtain⟨_,A,_,_⟩:=d.at_ (i:=0) aT;obtain⟨_,b1,_,_⟩:=d.at_ (i:=1) aT;obtain⟨_,f1,_,_⟩:=d.fz (i:=0) aT;obtain⟨_,f5,_,_⟩:=d.fz (i:=1) aT;simp only[ae6,ae7,acT,ac5,ac0,LF] at A b1 f1 f5;have ne:=d.ne;clear t x u y d hb f r ho s h a;go_wp2_with fail
 refine wp_loop_rounds 3 ?_;rw[rounds_succ];go_wp2_with fail
 rw[rounds_succ];go_wp2_with fail
 rw[rounds_succ];go_wp2_with fail
 go_ret2
 obtain⟨L,hl,hi,hb⟩:=z.o;exact⟨g,q,L,rfl,hl,by rw[k];exact hi,by rw[k];exact hb⟩
end
section
open Go.RowKit Go.Lib Go.Shelf dL Fr Up Nt
variable{l l':List Pt}{F:Nat->Prop}{w w' w5:aA}{C:Cf}{g gf gi iq gs gw:Nat}{k:Kv}{L3:List Ln}
section
theorem Ob.add{p:Pt}(h:Ob l F w)(a:p.X (λb=>b<w.heap.size) w')(hb:aD w w w'):Ob (l++ [p]) F w':=by
 obtain⟨c,h⟩:=h;exact⟨_,(h.add p a hb).1⟩
theorem Ob.reorder(σ τ:Nat->Nat)(h:Ob l F w)(hs:∀i p,l'[i]?=some p->l[σ i]?=some p/\τ (σ i)=i):Ob l' F w:=by
 obtain⟨a,hF,d⟩:=h;refine⟨λb=>match a b with|0=>0|k+1=>τ k+1,λb hb=>⟨(hF b hb).1,by simp only;rw[(hF b hb).2]⟩,λi p hp=>?_⟩;obtain⟨h1,e⟩:=hs i p hp;refine p.cM _ (λ_=>True) _ w w (d (σ i) p h1) (Kp.refl _ _) (λ_ _ _=>trivial) (Fo.ol _ _ _) (λr f g hf=>?_);have j:a r=σ i+1:=acE λhc=>g ⟨f,hc⟩
 have c:=hf.2;simp only[j,e] at c;exact c rfl
def EL:Cf:=⟨List.replicate 128 EN,0⟩
def DX:List Vc:=List.replicate 8 ⟨List.replicate 16 0,0⟩
def pM:Nat->Cf
 |0=>EL
 |i+1=>if i=0 then(dC (pM i) 0 (i:Nat) 3 (i:Nat) 15 0).2 else(dC (dC (pM i) 0 (i:Nat) 3 (i:Nat) 15 0).2 (i:Nat) 0 3 0 2 0).2
def wN:Nat->Cf
 |0=>pM 4
 |i+1=>(dC (wN i) 0 (8+(i:Nat)) 2 (i:Nat) 15 0).2
def tU:Nat->Sd
 |0=>BF 4
 |i+1=>jX (tU i) (i:Nat) true
def oX(p:Nat×Nat):Kv:=⟨wN 2,vY 6, [], [],DX,tU 4,0,p⟩
theorem CD(h:0<=C.n)(e s kd ob rt pf:Int):0<=(dC C e s kd ob rt pf).2.n/\(dC C e s kd ob rt pf).2.n<=C.n+1:=by
 unfold dC;split
 .exact⟨h,by show C.n<=C.n+1;omega⟩
 .split
  .exact⟨h,by show C.n<=C.n+1;omega⟩
  .split
   .exact⟨h,by show C.n<=C.n+1;omega⟩
   .exact⟨by show 0<=C.n+1;omega,by show C.n+1<=C.n+1;omega⟩
theorem Q4:∀i,0<=(pM i).n/\(pM i).n<=2 *i
 |0=>⟨adO _,adO _⟩
 |i+1=>by
  have h:=Q4 i;have h1:=CD h.1 0 (i:Nat) 3 (i:Nat) 15 0;have a:=CD h1.1 (i:Nat) 0 3 0 2 0;unfold pM;split <;> omega
theorem Z4:∀i,0<=(wN i).n/\(wN i).n<=8+i
 |0=>by
  have h:=Q4 4;exact⟨h.1,by show(pM 4).n<=_;omega⟩
 |i+1=>by
  have h:=Z4 i;have h1:=CD h.1 0 (8+(i:Nat)) 2 (i:Nat) 15 0;unfold wN;omega
theorem U6:∀i,gS (tU i)/\(tU i).P.length=4/\(tU i).nw=0
 |0=>⟨gS.new aQ aQ,rfl,rfl⟩
 |i+1=>by
  obtain⟨h1,a,b⟩:=U6 i;unfold tU jX;split
  .exact⟨h1.FI _ _,by show(List.modify _ _ _).length=4;rw[adM];exact a,b⟩
  .exact⟨h1,a,b⟩
theorem FY{a:Ka}(h:bS F w g a k)(f:0<=k.c.n/\k.c.n<=1000000000000)(e s kd ob rt:Int):aG prog 141 #[.pointer a.gc,e,s, .agg #[kd,ob,rt]] w λr w'=>∃v:Int,r= .returned (.int .i64 v)/\bS F w' g a {k with c:=(dC k.c e s kd ob rt 0).2}/\Kp F w w':=by
 obtain⟨G,i,back⟩:=h.cp;refine(P4 i f e s kd ob rt).mono ?_;rintro r w' ⟨rfl,b,d⟩;exact⟨_,rfl,(back _ _ b d).1,(back _ _ b d).2⟩
theorem Jy(w:aA):jK (λb=>b<w.heap.size) (w.alloc (aI #[bG,aU,aU] 314)) w.heap.size []:=
 ⟨none,0,0,0,⟨bF.new w _ _,bH.nil _ _ _⟩,λb hb=>abR hb (aX w _).size,adL _,λq hq=>by cases hq⟩
theorem Am(w:aA):eO (λb=>b<w.heap.size) (w.alloc (aI (sC EL).toArray 318)) w EL:=
 ⟨bF.new w _ _,ad8,λb hb=>abR hb (aX w _).size,adL _⟩
theorem XK(w:aA):vR (λb=>b<w.heap.size) (w.alloc (aI (AV none 0 0 DX).toArray 179)) w.heap.size [] DX:=
 ⟨none,0,⟨bF.new w _ _,bH.nil _ _ _,ad8,λv a=>by rw[ac4 a];exact⟨ad8,cH⟩⟩,λb hb=>abR hb (aX w _).size,adL _,λq hq=>by cases hq⟩
def UQ:List vJ:=List.replicate 8 ⟨none,0, [],0⟩
theorem YQ(w:aA):vH (λb=>b<w.heap.size) (w.alloc (aI (UQ.flatMap wH).toArray 324)) w.heap.size:=by
 have a:∀(i:Nat) (hi:i<UQ.length),UQ[i]=⟨none,0, [],0⟩:=λi hi=>afD ..
 refine⟨UQ.map vQ,⟨UQ,⟨ad8,bF.new w _ _,λi hi=>?_,λi j hi d _=>?_⟩,rfl,λb hb=>⟨abR hb (aX w _).size,λe=>by omega,λr a=>?_⟩⟩,rfl,λr a=>?_⟩
 .rw[a i hi];exact bH.nil _ _ _
 .rw[a i hi];exact .inl rfl
 .rw[ac4 a];exact λe=>by cases e
 .obtain⟨x,c,rfl⟩:=aeC.1 a;rw[ac4 c];exact ab0 _
theorem Cj:zeroCells318=(sC EL).toArray:=aV
theorem W3:zeroCells179=(AV none 0 0 DX).toArray:=aV
theorem Bb(h:Ob ([UD gf (vY 6)]++ [Ai gi iq L3]++ [Dj gs (BF 4)]++ [RQ gw 0]) F w5)(hl:L3.length=2):
 bS F (((((w5.alloc (aI #[bG,aU,aU] 314)).alloc (aI zeroCells318 318)).alloc (aI #[bG,aU,bG,aU,bG,aU,bG,aU,bG,aU,bG,aU,bG,aU,bG,aU] 324)).alloc (aI zeroCells179 179)).alloc (aI #[.pointer gf, .pointer w5.heap.size, .pointer (some ⟨w5.heap.size+1,0,none⟩), .pointer gi, .pointer (some ⟨w5.heap.size+1+1,0,none⟩), .pointer (some ⟨w5.heap.size+1+1+1,0,none⟩), .pointer gs, .int .i64 6, .int .i64 2, .int .i64 4, .pointer gw,aU,aU,aU,aU,aU,aU,aU,aU,aU,aU,aU,aU,aU,aU,aU,aU] 64)) (w5.heap.size+1+1+1+1) ⟨gf,w5.heap.size,w5.heap.size+1,gi,w5.heap.size+1+1,w5.heap.size+1+1+1,gs,gw,List.replicate 8 0,List.replicate 8 0,iq,L3⟩ ⟨EL,vY 6, [], [],DX,BF 4,0,(w5.heap.size,gf)⟩:=by
 rw[Cj,W3];have q:=h.add (p:=Ly w5.heap.size []) (Jy w5) (aX w5 _);have j:(w5.alloc (aI #[bG,aU,aU] 314)).heap.size=w5.heap.size+1:=aT;generalize w5.alloc (aI #[bG,aU,aU] 314)=a at *;have k:=q.add (p:=UX a EL) (Am a) (aX a _);have l:(a.alloc (aI (sC EL).toArray 318)).heap.size=w5.heap.size+1+1:=by rw[<-j];simp
 rw[j] at k;generalize a.alloc (aI (sC EL).toArray 318)=c at *;have g:=k.add (p:=Lf c) (YQ c) (aX c _);rw[l] at g;have r:(aI (UQ.flatMap wH).toArray 324)=(aI #[bG,aU,bG,aU,bG,aU,bG,aU,bG,aU,bG,aU,bG,aU,bG,aU] 324):=rfl;rw[r] at g;have m:(c.alloc (aI #[bG,aU,bG,aU,bG,aU,bG,aU,bG,aU,bG,aU,bG,aU,bG,aU] 324)).heap.size=w5.heap.size+1+1+1:=by rw[<-l];simp
 generalize c.alloc (aI #[bG,aU,bG,aU,bG,aU,bG,aU,bG,aU,bG,aU,bG,aU,bG,aU] 324)=d at *;have o:=g.add (p:=UI d.heap.size [] DX) (XK d) (aX d _);rw[m] at o;have z9:(d.alloc (aI (AV none 0 0 DX).toArray 179)).heap.size=w5.heap.size+1+1+1+1:=by rw[<-m];simp
 generalize d.alloc (aI (AV none 0 0 DX).toArray 179)=f at *;have e:=o.add (p:=PB f.heap.size 64 (kL ⟨gf,w5.heap.size,w5.heap.size+1,gi,w5.heap.size+1+1,w5.heap.size+1+1+1,gs,gw,List.replicate 8 0,List.replicate 8 0,iq,L3⟩).toArray) ⟨bF.new f _ _,λb hb=>abR hb (aX f _).size,adL _⟩ (aX f _);rw[z9] at e;refine⟨Ob.reorder (λi=>match i with|0=>8|1=>0|2=>4|3=>5|4=>1|5=>6|6=>7|7=>2|_=>3) (λi=>match i with|8=>0|0=>1|4=>2|5=>3|1=>4|6=>5|7=>6|2=>7|_=>8) e (λi p hp=>?_),rfl,rfl,hl,rfl⟩;match i,hp with
 |0,hp=>exact⟨hp,rfl⟩
 |1,hp=>exact⟨hp,rfl⟩
 |2,hp=>exact⟨hp,rfl⟩
 |3,hp=>exact⟨hp,rfl⟩
 |4,hp=>exact⟨hp,rfl⟩
 |5,hp=>exact⟨hp,rfl⟩
 |6,hp=>exact⟨hp,rfl⟩
 |7,hp=>exact⟨hp,rfl⟩
 |8,hp=>exact⟨hp,rfl⟩
 |n+9,hp=>simp[Lp] at hp
def Bx(p:Nat×Nat)(i:Nat):Kv:=⟨pM i,vY 6, [], [],DX,tU i,0,p⟩
def U9(p:Nat×Nat)(i:Nat):Kv:=⟨wN i,vY 6, [], [],DX,tU 4,0,p⟩
theorem U5(h:0<=C.n/\C.n<=1000000)(i:Nat){p:Nat×Nat}:KW ⟨C,vY 6, [], [],DX,tU i,0,p⟩:=
 ⟨ab0 _,ab0 _,⟨h.1,by show C.n<=1000000000;omega⟩,(U6 i).1,λx a=>(by cases a),ab0 _⟩
theorem He(p:Nat×Nat)(i:Nat):Bx p (i+1)=⟨if i=0 then(dC (pM i) 0 (i:Nat) 3 (i:Nat) 15 0).2 else(dC (dC (pM i) 0 (i:Nat) 3 (i:Nat) 15 0).2 (i:Nat) 0 3 0 2 0).2,vY 6, [], [],DX,jX (tU i) (i:Nat) true,0,p⟩:=rfl
theorem Kc(w:aA):aG prog 98 #[.agg #[.int .i64 6, .int .i64 2, .int .i64 4]] w λe w'=>∃g p0,e= .returned (.tuple #[.pointer (some ⟨g,0,none⟩),aU])/\KM (λb=>b<w.heap.size) w' g (oX p0)/\aD w w w':=by
 have T:=aX w (aI #[.int .i64 6, .int .i64 2, .int .i64 4] 60);have xb:=bF.new w 60 #[.int .i64 6, .int .i64 2, .int .i64 4];have G:aH (Ob [] (λb=>b<(w.alloc (aI #[.int .i64 6, .int .i64 2, .int .i64 4] 60)).heap.size) (w.alloc (aI #[.int .i64 6, .int .i64 2, .int .i64 4] 60))):=Ob.none (λb hb=>hb) (λb hb=>hb);have H:aH (w.heap.size<(w.alloc (aI #[.int .i64 6, .int .i64 2, .int .i64 4] 60)).heap.size):=by unfold aH;simp
 have I:=aP T;clear T;go_enter func98,ntmps98
 go_upto_region 1 with(fail)
 generalize w.alloc (aI #[.int .i64 6, .int .i64 2, .int .i64 4] 60)=J at *;generalize hq:w.heap.size=q at *;obtain⟨n1,U⟩:∃n,n=J.heap.size:=⟨_,rfl⟩
 rw[<-U] at G H;clear U;have x0:=xb.cell 0 (.int .i64 6) rfl;have V:aH (aG prog 137 #[.int .i64 6] J (Ki 6 J)):=Ph 6 J aQ aQ;have W:=aP xb;clear xb;go_wp2_with fail
 refine aR V ?_;rintro e w2 ⟨rfl,X,d⟩;have Y:aH (Ob [UD J (vY 6)] (λb=>b<n1) w2):=G.o.add (p:=UD J (vY 6)) ⟨X,λb hb=>abR hb d.size,adL _⟩ d;have K:=aP (W.o.keep d);have L:aH (aD q w w2):=I.o.trans (d.mono (by have:=I.o.size;omega));clear X d G V x0 W I;generalize J.heap.size=gf at *;have M:=K.o.cell 1 (.int .i64 2) rfl;have Z:=aP (Ep w2);go_wp2_with fail
 refine aR Z ?_;rintro e w3 ⟨gi,iq,L3,rfl,a6,a7,u⟩;have a8:=aP (Y.o.add (p:=Ai gi iq L3) a7 u);have N:=aP (K.o.keep u);have O:aH (aD q w w3):=L.o.trans (u.mono (by have:=L.o.size;omega));have HL3:=aP a6;clear a7 u a6 Y Z M K L;have x2:=N.o.cell 2 (.int .i64 4) rfl;have HSd:=aP (SN w3);go_wp2_with fail
 refine aR HSd ?_;rintro e w4 ⟨gs,rfl,hs4,x⟩;have HO4:=aP (a8.o.add (p:=Dj gs (BF 4)) hs4 x);have HX4:=aP (N.o.keep x);have P:aH (aD q w w4):=O.o.trans (x.mono (by have:=O.o.size;omega));clear hs4 x a8 HSd x2 N O;have HWh:=aP (Jg w4);go_wp2_with fail
 refine aR HWh ?_;rintro e w5 ⟨gw,rfl,_,hw5,y⟩;have HO5:=aP (HO4.o.add (p:=RQ gw 0) hw5 y);have f:=aP (HX4.o.keep y);have z:aH (aD q w w5):=P.o.trans (y.mono (by have:=P.o.size;omega));clear hw5 y HO4 HWh HX4 P;have x0:=f.o.cell 0 (.int .i64 6) rfl;have M:=f.o.cell 1 (.int .i64 2) rfl;have x2:=f.o.cell 2 (.int .i64 4) rfl;have a:=(((aX w5 (aI #[bG,aU,aU] 314)).alloc (aX _ _).size (aI zeroCells318 318)).alloc ((aX _ _).alloc (aX _ _).size _).size (aI #[bG,aU,bG,aU,bG,aU,bG,aU,bG,aU,bG,aU,bG,aU,bG,aU] 324)).alloc (((aX _ _).alloc (aX _ _).size _).alloc ((aX _ _).alloc (aX _ _).size _).size _).size (aI zeroCells179 179);have y0:=bK a x0;have y1:=bK a M;have y2:=bK a x2;have HK:=aP (Bb HO5.o HL3.o);have HX9:=f.o.keep a;have h:=aX ((((w5.alloc (aI #[bG,aU,aU] 314)).alloc (aI zeroCells318 318)).alloc (aI #[bG,aU,bG,aU,bG,aU,bG,aU,bG,aU,bG,aU,bG,aU,bG,aU] 324)).alloc (aI zeroCells179 179)) (aI #[.pointer gf, .pointer w5.heap.size, .pointer (some ⟨w5.heap.size+1,0,none⟩), .pointer gi, .pointer (some ⟨w5.heap.size+1+1,0,none⟩), .pointer (some ⟨w5.heap.size+1+1+1,0,none⟩), .pointer gs, .int .i64 6, .int .i64 2, .int .i64 4, .pointer gw,aU,aU,aU,aU,aU,aU,aU,aU,aU,aU,aU,aU,aU,aU,aU,aU] 64);have c:=aP (HX9.keep h);have HB10:aH (aD q w (((((w5.alloc (aI #[bG,aU,aU] 314)).alloc (aI zeroCells318 318)).alloc (aI #[bG,aU,bG,aU,bG,aU,bG,aU,bG,aU,bG,aU,bG,aU,bG,aU] 324)).alloc (aI zeroCells179 179)).alloc (aI #[.pointer gf, .pointer w5.heap.size, .pointer (some ⟨w5.heap.size+1,0,none⟩), .pointer gi, .pointer (some ⟨w5.heap.size+1+1,0,none⟩), .pointer (some ⟨w5.heap.size+1+1+1,0,none⟩), .pointer gs, .int .i64 6, .int .i64 2, .int .i64 4, .pointer gw,aU,aU,aU,aU,aU,aU,aU,aU,aU,aU,aU,aU,aU,aU,aU,aU] 64))):=z.o.trans (((a.mono (by have:=z.o.size;omega))).trans (h.mono (by have:=z.o.size;have:=a.size;omega)));clear HX9 h a;go_upto_region 14 with(fail)
 generalize (((((w5.alloc (aI #[bG,aU,aU] 314)).alloc (aI zeroCells318 318)).alloc (aI #[bG,aU,bG,aU,bG,aU,bG,aU,bG,aU,bG,aU,bG,aU,bG,aU] 324)).alloc (aI zeroCells179 179)).alloc (aI #[.pointer gf, .pointer w5.heap.size, .pointer (some ⟨w5.heap.size+1,0,none⟩), .pointer gi, .pointer (some ⟨w5.heap.size+1+1,0,none⟩), .pointer (some ⟨w5.heap.size+1+1+1,0,none⟩), .pointer gs, .int .i64 6, .int .i64 2, .int .i64 4, .pointer gw,aU,aU,aU,aU,aU,aU,aU,aU,aU,aU,aU,aU,aU,aU,aU,aU] 64))=w10 at *;have M:=c.o.cell 1 (.int .i64 2) rfl;have x2:=c.o.cell 2 (.int .i64 4) rfl;clear y0 y1 y2 HO5 f z;have Q:aH (KM (λb=>b<n1) w10 (w5.heap.size+1+1+1+1) (Bx (w5.heap.size,gf) 0)/\Kp (λb=>b<n1) w10 w10):=⟨⟨_,HK.o⟩,Kp.refl _ _⟩
 clear HK;generalize (w5.heap.size,gf)=p0 at Q;generalize w5.heap.size+1+1+1+1=g at *;have HX:=c;clear c;go_wp2_with fail
 go_loopw [64] (λv64 wr=>∃i:Nat,v64= .int .i64 i/\i<=4/\aH (KM (λb=>b<n1) wr g (Bx p0 i)/\Kp (λb=>b<n1) w10 wr)) (λv64 _=>4 - (aL v64).toNat)
 case atStart=>exact⟨0,rfl,ab0 _,Q.o⟩
 case round=>
  clear Q M x2;obtain⟨i,rfl,hi,D⟩:=hrel;obtain⟨⟨a1,h1⟩,hK⟩:=D.o;clear D;by_cases hi4:i<4
  .have i4:(i:Int)<4:=aQ;have hen:=Q4 i;have A:aH (0<=(dC (pM i) 0 (i:Nat) 3 (i:Nat) 15 0).2.n/\(dC (pM i) 0 (i:Nat) 3 (i:Nat) 15 0).2.n<=100):=by
    have:=CD hen.1 0 (i:Nat) 3 (i:Nat) 15 0;unfold aH;omega
   have k:=aP (FY h1 (by show 0<=(pM i).n/\(pM i).n<=_;omega) 0 (i:Nat) 3 (i:Nat) 15);have pc:=h1.pc;unfold pA at pc;have l:=aP hK;clear h1 hK hen;go_wp2_with fail
   refine aR k ?_;rintro e R ⟨v1,rfl,t,k2⟩;have E:=bO t (l.o.trans k2);clear t k2 k l pc;have pc:=E.o.1.pc;have ps:=E.o.1.ps;unfold pA at pc ps;by_cases B:i=0
   .subst B;have m:=aP (DO E.o.1 (U5 ⟨A.o.1,by have:=A.o.2;omega⟩ 0) (0:Int) true);go_wp2_with fail
    refine aR m ?_;rintro e S ⟨rfl,r,k3⟩;have F:aH (KM (λb=>b<n1) S g (Bx p0 1)/\Kp (λb=>b<n1) w10 S):=⟨⟨a1,r⟩,E.o.2.trans k3⟩
    clear r k3 m E;go_wp2_with fail
    go_roundw
    case rel=>exact⟨1,by go_num,aQ,F.o⟩
    case measure=>simp[aL]
   .have hib:((i:Int) !=0)=true:=by simp[B]
    have HR2:=aP (FY E.o.1 (by have:=A.o;show 0<=(dC (pM i) 0 (i:Nat) 3 (i:Nat) 15 0).2.n/\(dC (pM i) 0 (i:Nat) 3 (i:Nat) 15 0).2.n<=_;omega) (i:Nat) 0 3 0 2);have HI0:=aP B;clear B;go_wp2_with fail
    refine aR HR2 ?_;rintro e S ⟨v2,rfl,r,k3⟩;have H3:=bO r (E.o.2.trans k3);clear r k3 HR2 E pc ps;have ps:=H3.o.1.ps;unfold pA at ps;have m:=aP (DO H3.o.1 (U5 (C:=(dC (dC (pM i) 0 (i:Nat) 3 (i:Nat) 15 0).2 (i:Nat) 0 3 0 2 0).2) (by have h5:=A.o;have:=CD h5.1 (i:Nat) 0 3 0 2 0;omega) i) (i:Nat) true);go_wp2_with fail
    refine aR m ?_;rintro e w13 ⟨rfl,h4,k4⟩;have F:aH (KM (λb=>b<n1) w13 g (Bx p0 (i+1))/\Kp (λb=>b<n1) w10 w13):=by
     unfold aH;rw[He,abT HI0.o];exact⟨⟨a1,h4⟩,H3.o.2.trans k4⟩
    clear h4 k4 m H3;go_wp2_with fail
    go_roundw
    case rel=>exact⟨i+1,by go_num,aQ,F.o⟩
    case measure=>simp[aL];omega
  .obtain rfl:i=4:=aQ;have HQ2:aH (KM (λb=>b<n1) wr g (U9 p0 0)/\Kp (λb=>b<n1) w10 wr):=⟨⟨a1,h1⟩,hK⟩
   clear h1 hK hi hi4;go_wp2_with fail
   go_loopw [91] (λv91 wz=>∃i:Nat,v91= .int .i64 i/\i<=8/\aH (KM (λb=>b<n1) wz g (U9 p0 0)/\Kp (λb=>b<n1) w10 wz)) (λv91 _=>8 - (aL v91).toNat)
   case atStart=>exact⟨0,rfl,ab0 _,HQ2.o⟩
   case round=>
    clear HQ2;obtain⟨i,rfl,hi,D⟩:=hrel;obtain⟨⟨a2,t⟩,hK⟩:=D.o;clear D;by_cases hi8:i<8
    .have i8:(i:Int)<8:=aQ;obtain⟨v,hc⟩:=t.bound (i:=i) hi8;have fz:=t.fz (19+i);have HS:aH (KM (λb=>b<n1) (wr.setCell ⟨g,19+i,none⟩ (.int .i64 (-1))) g (U9 p0 0)/\Kp (λb=>b<n1) w10 (wr.setCell ⟨g,19+i,none⟩ (.int .i64 (-1)))):=⟨(t.store (19+i) aQ (-1)).1,hK.trans (t.store (19+i) aQ (-1)).2⟩
     clear t hK;go_wp2_with fail
     go_roundw
     case rel=>exact⟨i+1,by go_num,aQ,HS.o⟩
     case measure=>simp[aL];omega
    .obtain rfl:i=8:=aQ;have M:wr.cell? (q,1)=some (.int .i64 2):=hK.cell (HX.o.cell 1 (.int .i64 2) rfl) H.o;have HQ3:aH (KM (λb=>b<n1) wr g (U9 p0 0)/\Kp (λb=>b<n1) w10 wr):=⟨⟨a2,t⟩,hK⟩
     clear t hK hi hi8;go_wp2_with fail
     go_loopw [102] (λs wz=>∃i:Nat,s= .int .i64 i/\i<=2/\aH (KM (λb=>b<n1) wz g (U9 p0 i)/\Kp (λb=>b<n1) w10 wz)) (λs _=>2 - (aL s).toNat)
     case atStart=>exact⟨0,rfl,ab0 _,HQ3.o⟩
     case round=>
      clear HQ3 M;obtain⟨i,rfl,hi,D⟩:=hrel;obtain⟨⟨a3,r⟩,hK⟩:=D.o;clear D;by_cases hi2:i<2
      .have i2:(i:Int)<2:=aQ;have hln:=Z4 i;have k:=aP (FY r (by show 0<=(wN i).n/\(wN i).n<=_;omega) 0 (8+(i:Nat)) 2 (i:Nat) 15);have pc:=r.pc;unfold pA at pc;have l:=aP hK;clear r hK hln;go_wp2_with fail
       refine aR k ?_;rintro e R ⟨v1,rfl,h4,k4⟩;have F:aH (KM (λb=>b<n1) R g (U9 p0 (i+1))/\Kp (λb=>b<n1) w10 R):=⟨⟨a3,h4⟩,l.o.trans k4⟩
       clear h4 k4 k l;go_wp2_with fail
       go_roundw
       case rel=>exact⟨_, .int .i64 ((i:Int)+1),_,_,_,_,_,_,_,_,_,_,_,_,⟨i+1,by go_num,aQ,F.o⟩,rfl⟩
       case measure=>simp[aL];omega
      .obtain rfl:i=2:=aQ;have F:aH (KM (λb=>b<w.heap.size) wr g (oX p0)/\aD w w wr):=by
        have hb:=HB10.o;have hq1:=H.o;rw[hq];exact⟨⟨a3,r.less (λb hb=>by omega)⟩,⟨hK.os.trans hb.os,hK.tape.trans hb.tape,hK.output.trans hb.output,abX hb.size hK.size,λj hj=>(hK.block j aQ).trans (hb.block j hj)⟩⟩
       clear r hK;go_wp2_with fail
       go_ret2
       exact⟨g,p0,rfl,F.o.1,F.o.2⟩
end
variable{i m:Nat}{G:Nat->Prop}{a:Ka}
section
def CM(g:Nat)(c:Int)(bs:List Bool):List aC:= [pA g, .int .i64 c]++bs.map Value.bool
def Bw(g:Nat)(a:Ka)(k:Kv):Pt:=⟨λF w=>bS F w g a k,bS.cM g a k⟩
def Si(m g:Nat)(c:Int)(bs:List Bool)(a:Ka)(k:Kv):List Pt:= [PB m 142 (CM g c bs).toArray,Bw g a k]
structure iR(F:Nat->Prop)(w:aA)(m g:Nat)(c:Int)(bs:List Bool)(a:Ka)(k:Kv):Prop where
 o:Ob (Si m g c bs a k) F w
 b8:bs.length=8
def gI(F:Nat->Prop)(w:aA)(m g:Nat)(c:Int)(k:Kv):Prop:=∃bs a,iR F w m g c bs a k
theorem iR.cM(m g:Nat)(c:Int)(bs:List Bool)(a:Ka)(k:Kv):dV (λF w=>iR F w m g c bs a k):=λF G H w w' h x b fl hH=>⟨Ob.cM _ F G H w w' h.o x b fl hH,h.b8⟩
theorem gI.cM(m g:Nat)(c:Int)(k:Kv):dV (λF w=>gI F w m g c k):=λF G H w w' ⟨bs,a,h⟩ x b fl hH=>⟨bs,a,iR.cM m g c bs a k F G H w w' h x b fl hH⟩
section
variable{F:Nat->Prop}{w w':aA}{m g:Nat}{c:Int}{bs:List Bool}{a:Ka}{k:Kv}
theorem iR.fl(h:iR F w m g c bs a k):Ol F w:=h.o.fl
theorem iR.below(h:iR F w m g c bs a k)(hb:aD w w w'):iR F w' m g c bs a k/\Kp F w w':=⟨⟨h.o.below hb,h.b8⟩,h.o.NZ hb⟩
theorem iR.bk(h:iR F w m g c bs a k):bF w m 142 (CM g c bs).toArray:=by
 obtain⟨d,h1⟩:=h.o;exact(h1.get 0 (p:=PB m 142 (CM g c bs).toArray) rfl).b
theorem iR.c0(h:iR F w m g c bs a k):w.cell? (m,0)=some (.pointer g):=h.bk.cell 0 _ rfl
theorem iR.c1(h:iR F w m g c bs a k):w.cell? (m,1)=some (.int .i64 c):=h.bk.cell 1 _ rfl
theorem iR.cb(h:iR F w m g c bs a k)(hi:i<8):∃b:Bool,w.cell? (m,2+i)=some (.bool b):=by
 have hl:=h.b8;refine⟨bs[i]'(by omega),h.bk.cell (2+i) _ ?_⟩;rw[ab4,CM,ab2 aT];simp[show 2+i - 2=i by omega,hl,hi]
theorem iR.fz(h:iR F w m g c bs a k)(i:Nat):w.frozen? (m,i)=false:=h.bk.frozen i
theorem iR.set(h:iR F w m g c bs a k)(hi:i<8)(b:Bool):iR F (w.setCell (m,2+i) (.bool b)) m g c (bs.set i b) a k/\Kp F w (w.setCell (m,2+i) (.bool b)):=by
 obtain⟨G,d,back⟩:=h.o.use 0 _ rfl;obtain⟨s1,s2⟩:=mV.set (cs':=(CM g c (bs.set i b)).toArray) d (2+i) (.bool b) (by
  rw[abP];congr 1
  unfold CM;rw[acA _ _ aT,adS];simp)
 obtain⟨b1,b2⟩:=back (PB m 142 (CM g c (bs.set i b)).toArray) _ s1 s2;exact⟨⟨b1,by simp[h.b8]⟩,b2⟩
theorem iR.kn(h:iR F w m g c bs a k):∃G,bS G w g a k/\(∀(a':Ka) (k':Kv) (w':aA),bS G w' g a' k'->Kp G w w'->iR F w' m g c bs a' k'/\Kp F w w'):=by
 obtain⟨G,e,back⟩:=h.o.use 1 _ rfl;exact⟨G,e,λa' k' w' b d=>⟨⟨(back (Bw g a' k') w' b d).1,h.b8⟩,(back (Bw g a' k') w' b d).2⟩⟩
theorem iR.ks(h:iR F w m g c bs a k):w.cell? (g,6)=some (.pointer a.gs)/\w.cell? (g,4)=some (.pointer a.gr)/\w.cell? (g,3)=some (.pointer a.gi)/\w.cell? (g,7)=some (.int .i64 6)/\w.cell? (g,8)=some (.int .i64 2)/\w.cell? (g,9)=some (.int .i64 4):=by
 obtain⟨G,b,_⟩:=h.kn;exact⟨b.ps,b.pr,b.pi,b.ME⟩
theorem iR.less(h:iR F w m g c bs a k)(d:∀b,G b->F b):iR G w m g c bs a k:=⟨Ob.cM _ F (λ_=>True) G w w h.o (Kp.refl _ _) (λ_ _ _=>trivial) (λb hb=>h.fl b (d b hb)) (λr _ e hf=>e (d r hf)),h.b8⟩
end
theorem SY(h:bS F w g a k)(hw:KW k)(i:Int):aG prog 115 #[.pointer a.gs,i] w λe w'=>(∃pt:Option Nat,e= .returned (.pointer (Ao pt))/\aH (aG prog 116 #[.pointer (Ao pt)] w λe w'=>∃(d:Int) (b:Bool),e= .returned (.tuple #[d,b])/\w=w'))/\w=w':=by
 obtain⟨G,hs,_⟩:=h.sd;refine(WB hs hw.p8 i).mono ?_;rintro e w' ⟨⟨pt,rfl,h1,j⟩,rfl⟩;refine⟨⟨pt,rfl,?_⟩,rfl⟩;cases f:tY k.s i with
 |none=>
  rw[h1 f];refine(OV w).mono ?_;rintro e w' ⟨rfl,rfl⟩;exact⟨0,false,rfl,rfl⟩
 |some v=>
  obtain⟨q,rfl,hq⟩:=j v f;have hl:v.ch.length<=4000000:=by
   unfold tY at f;split at f
   .cases hp:k.s.P[i.toNat]? with
    |none=>rw[hp] at f;cases f
    |some p=>
     rw[hp] at f;have:=(hw.sd.sv p (adI hp) v f).len;omega
   .cases f
  refine(NM hq hl).mono ?_;rintro e w' ⟨rfl,rfl⟩;cases v.ch with
  |nil=>exact⟨0,false,rfl,rfl⟩
  |cons x xs=>exact⟨x.de,true,rfl,rfl⟩
theorem Fe(h:bS F w g a k)(i:Int)(hi:0<=i/\i<8)(kd x b:Int)(hk:1<=kd/\kd<=8):aG prog 117 #[.pointer a.gr,i, .agg #[kd,x, .int .u64 b]] w λe w'=>∃r:Int,e= .returned (.int .i64 r)/\bS F w' g a k/\Kp F w w':=by
 obtain⟨G,j,back⟩:=h.rw;refine(OW j i hi kd x b hk).mono ?_;rintro e w' ⟨r,rfl,d,f⟩;exact⟨r,rfl,(back _ d f).1,(back _ d f).2⟩
theorem C8(W:aA):(Instr.field 60 (.agg #[.int .i64 6, .int .i64 2, .int .i64 4]) 2).run prog W= .ok (.int .i64 4) W:=aV
theorem NK(h:bS F w g a k):aG prog 87 #[.pointer g] w λe w'=>e= .returned (.agg #[.int .i64 6, .int .i64 2, .int .i64 4])/\aD w w w':=by
 obtain⟨c7,c8,c9⟩:=h.ME;have hb:=aX w (aI #[aU,aU,aU] 60);have d7:=bK hb c7;have d8:=bK hb c8;have d9:=bK hb c9;clear h hb;go_enter func87,ntmps87
 go_wp2_with fail
 exact bodyPost_ret (v:= .agg #[.int .i64 6, .int .i64 2, .int .i64 4]) (by simp[results,results87,go_sem]) rfl ⟨rfl,aX _ _⟩
theorem Fs{c:Int}(h:gI F w m g c k)(hw:KW k)(e:Int)(b:Bool):aG prog 78 #[.pointer m, .agg #[e,b]] w λr w'=>r= .returned (.tuple #[])/\gI F w' m g c k/\Kp F w w':=by
 obtain⟨bs,a,h⟩:=h;have D:=aX w (aI #[e,b] 69);have P:=bF.new w 69 #[e,b];have H1:=aP (And.intro ((iR.cM m g c bs a k).box h h.fl (aI #[e,b] 69)) (h.below D).2);have Y:=aP hw;clear h D hw;go_enter func78,ntmps78
 go_upto_region 1 with(fail)
 generalize w.alloc (aI #[e,b] 69)=w1 at *;generalize w.heap.size=q1 at *;have c0:=H1.o.1.c0;obtain⟨ps,_,_,c7,c8,c9⟩:=H1.o.1.ks;have Q:=aP P;clear P;obtain⟨G,hk,_⟩:=H1.o.1.kn;obtain⟨G2,hs,_⟩:=hk.sd;have R:=aP (wO hs);have E:=aP (NK hk);clear hk hs;go_wp2_with fail
 refine aR R ?_;rintro r B ⟨rfl,rfl⟩;go_wp2_with fail
 refine aR E ?_;rintro r B ⟨rfl,x⟩;have Z:=C8 B;generalize IntKind.u64.wrap k.s.nw=nw at *;have HQ:aH (∃bs a,iR (Fb F q1) B m g c bs a k/\Kp (Fb F q1) w1 B):=⟨bs,a,(H1.o.1.below x).1,(H1.o.1.below x).2⟩
 clear R E c0 ps c7 c8 c9 x;go_wp2_with fail
 go_loopw [24] (λv24 wr=>∃i:Nat,v24= .int .i64 i/\i<=4/\aH (∃bs a,iR (Fb F q1) wr m g c bs a k/\Kp (Fb F q1) w1 wr)) (λv24 _=>4 - (aL v24).toNat)
 case atStart=>exact⟨0,rfl,ab0 _,HQ.o⟩
 case round=>
  clear HQ;obtain⟨i,rfl,hi,S⟩:=hrel;obtain⟨H,a2,n,hK⟩:=S.o;clear S;by_cases a1:i<4
  .have i4:(i:Int)<4:=aQ;have i0:¬(i:Int)<0:=aQ;have i8:(i:Int)<8:=aQ;have c0:=n.c0;obtain⟨T,cb⟩:=n.cb (i:=i) aQ;have fb:=n.fz (2+i);obtain⟨ps,_⟩:=n.ks;have U:=hK.cell (Q.o.cell 0 e rfl) (.inr rfl);have V:=hK.cell (Q.o.cell 1 (.bool b) rfl) (.inr rfl);obtain⟨G,hk,_⟩:=n.kn;have W:=aP (SY hk Y.o (i:Nat));have u:=aP (λv:Bool=>n.set (i:=i) aQ v);have q:=aP hK;have y:q1≠m:=λe1=>by
    obtain⟨ow,X⟩:=n.o;have h5:=(X.get 0 (p:=PB m 142 (CM g c H).toArray) rfl).nf;have:=X.1 q1 (.inr rfl);rw[e1] at this;exact h5 ⟨this.1,by rw[this.2];decide⟩
   clear n hK hk;go_wp2_with fail
   refine aR W ?_;rintro r B ⟨⟨pt,rfl,HD⟩,rfl⟩;clear W;go_wp2_with fail
   refine aR HD ?_;rintro r B ⟨d,has,rfl,rfl⟩;have z:=aP (u.o has);have y0:(wr.setCell (m,2+i) (.bool has)).cell? (q1,0)=some (.int .i64 e):=(dP y).trans U;have y1:(wr.setCell (m,2+i) (.bool has)).cell? (q1,1)=some (.bool b):=(dP y).trans V;clear u HD;go_upto_region 9 with(fail)
   generalize wr.setCell (m,2+i) (.bool has)=w5 at *;clear U V c0 cb fb ps y;obtain⟨_,pr,_⟩:=z.o.1.ks;obtain⟨G5,I,j⟩:=z.o.1.kn;have M:=aP (λ(kd:Int) (N:1<=kd/\kd<=8)=>Fe I (i:Nat) aQ kd 0 nw N);have l:=aP j;have J:aH (aG prog 117 #[.pointer a2.gr, .int .i64 (i:Nat), .agg #[.int .i64 3,aU, .int .u64 nw]] w5 λe w'=>∃r:Int,e= .returned (.int .i64 r)/\aH (∃bs a,iR (Fb F q1) w' m g c bs a k/\Kp (Fb F q1) w1 w')):=(M.o 3 aQ).mono (by
    rintro r C ⟨v,rfl,K,L⟩;exact⟨v,rfl,_,_,(l.o _ _ _ K L).1,(q.o.trans z.o.2).trans (l.o _ _ _ K L).2⟩)
   have A:aH (aG prog 117 #[.pointer a2.gr, .int .i64 (i:Nat), .agg #[.int .i64 4,aU, .int .u64 nw]] w5 λe w'=>∃r:Int,e= .returned (.int .i64 r)/\aH (∃bs a,iR (Fb F q1) w' m g c bs a k/\Kp (Fb F q1) w1 w')):=(M.o 4 aQ).mono (by
    rintro r C ⟨v,rfl,K,L⟩;exact⟨v,rfl,_,_,(l.o _ _ _ K L).1,(q.o.trans z.o.2).trans (l.o _ _ _ K L).2⟩)
   have t:aH (∃bs a,iR (Fb F q1) w5 m g c bs a k/\Kp (Fb F q1) w1 w5):=⟨_,_,z.o.1,q.o.trans z.o.2⟩
   clear I j M l z q;cases has with
   |true=>
    cases T with
    |true=>
     cases b with
     |true=>
      go_wp2_with fail
      go_roundw
      case rel=>exact⟨i+1,by go_num,aQ,t.o⟩
      case measure=>simp[aL];omega
     |false=>
      go_wp2_with fail
      go_roundw
      case rel=>exact⟨i+1,by go_num,aQ,t.o⟩
      case measure=>simp[aL];omega
    |false=>
     cases b with
     |true=>
      go_wp2_with fail
      refine aR J ?_;rintro r C ⟨v,rfl,f⟩;go_wp2_with fail
      go_roundw
      case rel=>exact⟨i+1,by go_num,aQ,f.o⟩
      case measure=>simp[aL];omega
     |false=>
      go_wp2_with fail
      refine aR J ?_;rintro r C ⟨v,rfl,f⟩;go_wp2_with fail
      go_roundw
      case rel=>exact⟨i+1,by go_num,aQ,f.o⟩
      case measure=>simp[aL];omega
   |false=>
    cases T with
    |true=>
     cases b with
     |true=>
      go_wp2_with fail
      refine aR A ?_;rintro r C ⟨v,rfl,f⟩;go_wp2_with fail
      go_roundw
      case rel=>exact⟨i+1,by go_num,aQ,f.o⟩
      case measure=>simp[aL];omega
     |false=>
      go_wp2_with fail
      refine aR A ?_;rintro r C ⟨v,rfl,f⟩;go_wp2_with fail
      go_roundw
      case rel=>exact⟨i+1,by go_num,aQ,f.o⟩
      case measure=>simp[aL];omega
    |false=>
     cases b with
     |true=>
      by_cases he:e=(i:Int)
      .have O:(e==(i:Int))=true:=by simp[he]
       clear he;go_wp2_with fail
       refine aR A ?_;rintro r C ⟨v,rfl,f⟩;go_wp2_with fail
       go_roundw
       case rel=>exact⟨i+1,by go_num,aQ,f.o⟩
       case measure=>simp[aL];omega
      .have O:(e==(i:Int))=false:=by simp[he]
       clear he;go_wp2_with fail
       go_roundw
       case rel=>exact⟨i+1,by go_num,aQ,t.o⟩
       case measure=>simp[aL];omega
     |false=>
      go_wp2_with fail
      go_roundw
      case rel=>exact⟨i+1,by go_num,aQ,t.o⟩
      case measure=>simp[aL];omega
  .obtain rfl:i=4:=aQ;have f:aH (gI F wr m g c k/\Kp F w wr):=⟨⟨H,a2,n.less (λb hb=> .inl hb)⟩,H1.o.2.trans (hK.mono λb hb=> .inl hb)⟩
   clear n hK;go_wp2_with fail
   go_end0
   exact⟨rfl,f.o.1,f.o.2⟩
end
variable{C':Cf}{e rt:Int}{i0:Nat}
section
theorem iS{a b:Int}(ha:0<=a/\a<=15)(hb:0<=b/\b<=15):dM a b=((a.toNat &&& b.toNat:Nat):Int)/\bits .or .i64 a b=((a.toNat ||| b.toNat:Nat):Int):=by
 obtain⟨x,rfl⟩:=abW ha.1;obtain⟨y,rfl⟩:=abW hb.1;exact bits_nat .i64 4 cH (λn c h1=>by rw[IntKind.wrap_i64];omega) x y aQ aQ
theorem xG{a b c:Int}(ha:0<=a/\a<=15)(hb:0<=b/\b<=15)(hc:0<=c/\c<=15)(h1:dM a b=b)(d:dM b c=c):dM a c=c:=by
 rw[(iS ha hb).1] at h1;rw[(iS hb hc).1] at d;rw[(iS ha hc).1];have e:a.toNat &&& b.toNat=b.toNat:=aQ;have f:b.toNat &&& c.toNat=c.toNat:=aQ;have g:a.toNat &&& c.toNat=c.toNat:=by rw[<-f,<-Nat.and_assoc,e]
 omega
theorem RF{a b m:Int}(ha:0<=a/\a<=15)(hb:0<=b/\b<=15)(hm:0<=m/\m<=15)(h1:dM a b=b)(c:dM a m=0):dM b m=0:=by
 rw[(iS ha hb).1] at h1;rw[(iS ha hm).1] at c;rw[(iS hb hm).1];have d:a.toNat &&& b.toNat=b.toNat:=aQ;have e:a.toNat &&& m.toNat=0:=aQ;have f:b.toNat &&& m.toNat=0:=by rw[<-d,Nat.and_comm a.toNat,Nat.and_assoc,e,Nat.and_zero]
 omega
def Oc(C:Cf)(i:Nat):Prop:=i<128/\(bI C i).nu≠0
structure CI(C:Cf):Prop where
 len:C.S.length=128
 n0:0<=C.n
 nu:∀i,Oc C i->1<=(bI C i).nu/\(bI C i).nu<=C.n
 inj:∀i j,Oc C i->Oc C j->(bI C i).nu=(bI C j).nu->i=j
 rt:∀i,Oc C i->0<=(bI C i).rt/\(bI C i).rt<=15
 pf:∀i,Oc C i->0<=(bI C i).pf/\(bI C i).pf<=C.n
 ch:∀i j,Oc C i->Oc C j->(bI C i).pf=(bI C j).nu->(bI C i).kd=(bI C j).kd/\(bI C i).ob=(bI C j).ob/\dM (bI C j).rt (bI C i).rt=(bI C i).rt
structure nI(C' C:Cf):Prop where
 len:C'.S.length=C.S.length
 n:C'.n=C.n
 s:∀i,Oc C' i->Oc C i/\bI C' i=bI C i
theorem CI.sub(h:CI C)(s:nI C' C):CI C':=by
 refine⟨s.len.trans h.len,by rw[s.n];exact h.n0,λi hi=>?_,λi j hi a e=>?_,λi hi=>?_,λi hi=>?_,λi j hi a e=>?_⟩
 .obtain⟨o,e⟩:=s.s i hi;rw[e,s.n];exact h.nu i o
 .obtain⟨o,b⟩:=s.s i hi;obtain⟨o2,c⟩:=s.s j a;rw[b,c] at e;exact h.inj i j o o2 e
 .obtain⟨o,e⟩:=s.s i hi;rw[e];exact h.rt i o
 .obtain⟨o,e⟩:=s.s i hi;rw[e,s.n];exact h.pf i o
 .obtain⟨o,b⟩:=s.s i hi;obtain⟨o2,c⟩:=s.s j a;rw[b,c] at e⊢;exact h.ch i j o o2 e
theorem nI.refl(C:Cf):nI C C:=⟨rfl,rfl,λ_ h=>⟨h,rfl⟩⟩
theorem nI.trans{A B:Cf}(h:nI A B)(a:nI B C):nI A C:=⟨h.len.trans a.len,h.n.trans a.n,λi hi=>by obtain⟨o,e⟩:=h.s i hi;obtain⟨o2,b⟩:=a.s i o;exact⟨o2,e.trans b⟩⟩
theorem Qj(C:Cf)(p:cP)(i:Nat):bI (xV C p) i=if i=gE p then EN else bI C i:=by
 unfold bI xV;rw[ab1,ab1,acZ];by_cases h:i=gE p
 .rw[abS h,abS h.symm];split <;> rfl
 .rw[abT h,abT (aeF h)]
theorem UN(G:List cP):∀(C:Cf) (i:Nat),((∃p∈G,gE p=i)->bI (iC C G) i=EN)/\((¬∃p∈G,gE p=i)->bI (iC C G) i=bI C i):=by
 induction G with
 |nil=>intro C i;exact⟨λ⟨p,hp,_⟩=>(by cases hp),λ_=>rfl⟩
 |cons p G c=>
  intro C i;have e:iC C (p::G)=iC (xV C p) G:=rfl;rw[e];obtain⟨h1,d⟩:=c (xV C p) i;by_cases a:∃q∈G,gE q=i
  .exact⟨λ_=>h1 a,λb=>absurd (by obtain⟨q,hq,e⟩:=a;exact⟨q,by simp[hq],e⟩) b⟩
  .rw[d a,Qj];refine⟨λ⟨q,hq,hi⟩=>?_,λb=>?_⟩
   .rcases ad3.1 hq with hq|hq
    .subst hq;rw[abS hi.symm]
    .exact absurd ⟨q,hq,hi⟩ a
   .rw[abT (λe=>b ⟨p,aT,e.symm⟩)]
theorem Hy(G:List cP):∀C:Cf,(iC C G).S.length=C.S.length:=by
 induction G with
 |nil=>intro C;rfl
 |cons p G a=>intro C;exact(a (xV C p)).trans (by simp[xV])
theorem tZ{G:List cP}:Oc (iC C G) i↔Oc C i/\¬∃p∈G,gE p=i:=by
 obtain⟨h1,b⟩:=UN G C i;by_cases a:∃p∈G,gE p=i
 .refine⟨λh=>absurd (by rw[h1 a];rfl) h.2,λh=>absurd a h.2⟩
 .unfold Oc;rw[b a];exact⟨λh=>⟨h,a⟩,λh=>h.1⟩
theorem qK(C:Cf)(G:List cP):nI (iC C G) C:=⟨Hy G C,F1 C G,λi hi=>by
 obtain⟨h1,a⟩:=tZ.1 hi;exact⟨h1,(UN G C i).2 a⟩⟩
theorem pY{p:cP}(h:p∈lC C):Oc C (gE p)/\p.h=bI C (gE p)/\p.e=((gE p /16:Nat):Int)/\p.s=((gE p%16:Nat):Int):=by
 obtain⟨h1,f,c,g⟩:=MI h;obtain⟨_,a,b,ha,hb,i,d,hk⟩:=uY h1;refine⟨⟨f,by rw[<-c];exact g⟩,c,?_,?_⟩
 .rw[ha];omega
 .rw[hb];omega
theorem UM(h:Oc C i):(⟨((i /16:Nat):Int),((i%16:Nat):Int),bI C i⟩:cP)∈lC C:=by
 unfold lC EV;refine ad9.2 ⟨i,ac8.2 h.1,?_⟩;unfold OJ;rw[abT h.2]
theorem ZP(i:Nat)(x:Hd):gE ⟨((i /16:Nat):Int),((i%16:Nat):Int),x⟩=i:=by
 unfold gE;simp only[abZ];omega
theorem mP{s:Int}(h:eX C e s=some i):Oc C i/\e=((i /16:Nat):Int)/\s=((i%16:Nat):Int):=by
 unfold eX at h;cases hi:oN e s with
 |none=>rw[hi] at h;cases h
 |some k=>
  rw[hi] at h;simp only at h;split at h
  .cases h
  .injection h with h;subst h;rename_i d;obtain⟨h1,a,b,ha,hb,f,c,hk⟩:=uY hi;exact⟨⟨h1,d⟩,by rw[ha];omega,by rw[hb];omega⟩
theorem JB(h:Oc C i):eX C ((i /16:Nat):Int) ((i%16:Nat):Int)=some i:=by
 have h1:=h.1;have hid:oN ((i /16:Nat):Int) ((i%16:Nat):Int)=some i:=by
  unfold oN;rw[abS aQ];simp only[abZ];congr 1
  omega
 unfold eX;rw[hid];exact abT h.2
theorem NU{s:Int}{x:Hd}(h:mJ C e s=some x):∃i,Oc C i/\e=((i /16:Nat):Int)/\s=((i%16:Nat):Int)/\x=bI C i:=by
 unfold mJ at h;cases hf:eX C e s with
 |none=>rw[hf] at h;cases h
 |some i=>
  rw[hf] at h;injection h with h;obtain⟨h1,a,b⟩:=mP hf;exact⟨i,h1,a,b,h.symm⟩
theorem MA{s kd:Int}{x:Hd}(h:jH C e s kd rt=some x):∃i,Oc C i/\e=((i /16:Nat):Int)/\s=((i%16:Nat):Int)/\x=bI C i/\x.kd=kd/\dM x.rt rt=rt:=by
 unfold jH at h;cases a:mJ C e s with
 |none=>rw[a] at h;cases h
 |some y=>
  rw[a] at h;simp only at h;split at h
  .rename_i hc;injection h with h;subst h;obtain⟨i,h1,b,c,d⟩:=NU a;exact⟨i,h1,b,c,d,hc.1,hc.2⟩
  .cases h
theorem FT{p:cP}(h:p∈rW C e):∃i,Oc C i/\e=((i /16:Nat):Int)/\p.s=((i%16:Nat):Int)/\p.h=bI C i/\p.e=e:=by
 unfold rW yY at h;obtain⟨s,hs,hp⟩:=ad9.1 h;cases a:mJ C e (s:Nat) with
 |none=>rw[a] at hp;cases hp
 |some x=>
  rw[a] at hp;injection hp with hp;subst hp;obtain⟨i,h1,b,c,d⟩:=NU a;exact⟨i,h1,b,c,d,rfl⟩
theorem OK(h:Oc C i):(⟨((i /16:Nat):Int),((i%16:Nat):Int),bI C i⟩:cP)∈rW C ((i /16:Nat):Int):=by
 unfold rW yY;refine ad9.2 ⟨i%16,ac8.2 aQ,?_⟩;unfold mJ;rw[JB h];rfl
theorem DK{o s:Int}:s∈eV k e o↔∃i,Oc k.c i/\e=((i /16:Nat):Int)/\s=((i%16:Nat):Int)/\(bI k.c i).kd=1/\(bI k.c i).ob=o:=by
 unfold eV;rw[ad9];constructor
 .rintro⟨p,hp,hs⟩;obtain⟨i,h1,d,f,a,b⟩:=FT hp;unfold rQ at hs;split at hs
  .rename_i hc;injection hs with hs;rw[a] at hc;exact⟨i,h1,d,by rw[<-hs,f],hc.1,hc.2⟩
  .cases hs
 .rintro⟨i,h1,rfl,rfl,a,b⟩;refine⟨_,OK h1,?_⟩;unfold rQ;rw[abS ⟨a,b⟩]
theorem JU{o:Int}:kV k o=true↔∃i,Oc k.c i/\(bI k.c i).kd=1/\(bI k.c i).ob=o:=by
 unfold kV;rw[aeS];constructor
 .rintro⟨e,he,hl⟩;have hl:=adD hl;obtain⟨s,hs⟩:=List.exists_mem_of_length_pos hl;obtain⟨i,h1,_,_,a,b⟩:=DK.1 hs;exact⟨i,h1,a,b⟩
 .rintro⟨i,h1,a,b⟩;have:=h1.1;refine⟨i /16,ac8.2 aQ,acF ?_⟩;exact List.length_pos_of_mem (DK.2 ⟨i,h1,rfl,rfl,a,b⟩)
theorem GA(h:CI C)(k:Oc C i0){self:Bool}{L:List cP}(c:∀p∈L,p∈lC C):∀p∈(dB (bI C i0).nu self L).2,p∈lC C/\(bI C (gE p)).kd=(bI C i0).kd/\(bI C (gE p)).ob=(bI C i0).ob/\dM (bI C i0).rt (bI C (gE p)).rt=(bI C (gE p)).rt/\(gE p=i0\/1<=(bI C (gE p)).pf):=by
 have hid:dM (bI C i0).rt (bI C i0).rt=(bI C i0).rt:=by
  have:=h.rt i0 k;rw[(iS this this).1,Nat.and_self];omega
 suffices key:∀(L:List cP) (st:List Int×List cP),(∀p∈L,p∈lC C)->
  (∀x∈st.1,∃j,Oc C j/\x=(bI C j).nu/\(bI C j).kd=(bI C i0).kd/\(bI C j).ob=(bI C i0).ob/\dM (bI C i0).rt (bI C j).rt=(bI C j).rt)->
  (∀p∈st.2,p∈lC C/\(bI C (gE p)).kd=(bI C i0).kd/\(bI C (gE p)).ob=(bI C i0).ob/\dM (bI C i0).rt (bI C (gE p)).rt=(bI C (gE p)).rt/\(gE p=i0\/1<=(bI C (gE p)).pf))->
  ∀p∈(L.foldl (eZ (bI C i0).nu self) st).2,p∈lC C/\(bI C (gE p)).kd=(bI C i0).kd/\(bI C (gE p)).ob=(bI C i0).ob/\dM (bI C i0).rt (bI C (gE p)).rt=(bI C (gE p)).rt/\(gE p=i0\/1<=(bI C (gE p)).pf) by
  refine key L ([(bI C i0).nu], []) c (λx a=>?_) (λp hp=>by cases hp);rw[ab3.1 a];exact⟨i0,k,rfl,rfl,rfl,hid⟩
 intro L;induction L with
 |nil=>intro st _ _ d;exact d
 |cons y L r=>
  intro st c h1 d;rw[aeB];obtain⟨f,l,_,_⟩:=pY (c y aT);refine r _ (λp hp=>c p (by simp[hp])) ?_ ?_
  .intro x a;unfold eZ at a;split at a
   .split at a <;> exact h1 x a
   .split at a
    .rename_i b;rcases ab9.1 a with a|a
     .exact h1 x a
     .obtain⟨j,g,i,m,n,o⟩:=h1 _ b;rw[l] at i;obtain⟨c1,c2,c3⟩:=h.ch (gE y) j f g i;exact⟨gE y,f,by rw[ab3.1 a,l],c1.trans m,c2.trans n,xG (h.rt _ k) (h.rt _ g) (h.rt _ f) o c3⟩
    .exact h1 x a
  .intro p hp;unfold eZ at hp;split at hp
   .rename_i q;split at hp
    .rcases ab9.1 hp with hp|hp
     .exact d p hp
     .rw[ab3.1 hp];have e:gE y=i0:=h.inj _ _ f k (by rw[<-l];exact q);exact⟨c y aT,by rw[e],by rw[e],by rw[e];exact hid, .inl e⟩
    .exact d p hp
   .split at hp
    .rename_i b;rcases ab9.1 hp with hp|hp
     .exact d p hp
     .rw[ab3.1 hp];obtain⟨j,g,i,m,n,o⟩:=h1 _ b;rw[l] at i;obtain⟨c1,c2,c3⟩:=h.ch (gE y) j f g i;refine⟨c y aT,c1.trans m,c2.trans n,xG (h.rt _ k) (h.rt _ g) (h.rt _ f) o c3, .inr ?_⟩;rw[i];exact(h.nu _ g).1
    .exact d p hp
theorem mW(hl:C.S.length=128)(e s kd ob rt pf:Int):((dC C e s kd ob rt pf).2=C/\(dC C e s kd ob rt pf).1≠0)\/
 ∃i:Nat,(dC C e s kd ob rt pf).1=0/\i<128/\e=((i /16:Nat):Int)/\s=((i%16:Nat):Int)/\¬Oc C i/\(1<=kd/\kd<=4/\0<=ob/\ob<32/\0<=rt/\rt<=15)/\
  (dC C e s kd ob rt pf).2.S.length=128/\(dC C e s kd ob rt pf).2.n=C.n+1/\bI (dC C e s kd ob rt pf).2 i=⟨kd,ob,rt,C.n+1,pf⟩/\∀j,j≠i->bI (dC C e s kd ob rt pf).2 j=bI C j:=by
 unfold dC;by_cases f:iT kd ob rt=false
 .rw[abS f];exact .inl ⟨rfl,aT⟩
 rw[abT f];cases hi:oN e s with
 |none=>exact .inl ⟨rfl,aT⟩
 |some i=>
  simp only;by_cases d:(bI C i).nu≠0
  .rw[abS d];exact .inl ⟨rfl,aT⟩
  .rw[abT d];obtain⟨h1,a,b,ha,hb,h,g,hk⟩:=uY hi;have c:iT kd ob rt=true:=by cases l:iT kd ob rt <;> simp_all
   unfold iT at c;refine .inr ⟨i,rfl,h1,by rw[ha];omega,by rw[hb];omega,λho=>d ho.2,adD c,by simp[hl],rfl,?_,λj k=>?_⟩
   .unfold bI;rw[ab1,acZ,abS rfl,abS aQ];rfl
   .unfold bI;rw[ab1,ab1,acZ,abT (aeF k)]
theorem CI.put{C:Cf}(h:CI C)(e s kd ob rt pf:Int)(hp:pf=0\/∃j,Oc C j/\(bI C j).nu=pf/\kd=(bI C j).kd/\ob=(bI C j).ob/\dM (bI C j).rt rt=rt):CI (dC C e s kd ob rt pf).2:=by
 rcases mW h.len e s kd ob rt pf with⟨h1,_⟩|⟨i,_,hi,_,_,p,l,hl,k,a,hold⟩
 .rw[h1];exact h
 generalize (dC C e s kd ob rt pf).2=C' at *;have q:=h.n0;have r:0<=pf/\pf<=C.n:=by
  rcases hp with hp|⟨j,t,e,_⟩
  .omega
  .have:=h.nu j t;omega
 have ho:∀j,Oc C' j->j≠i->Oc C j/\bI C' j=bI C j:=λj b f=>⟨⟨b.1,by rw[<-hold j f];exact b.2⟩,hold j f⟩
 refine⟨hl,aQ,λj b=>?_,λj m b hm he=>?_,λj b=>?_,λj b=>?_,λj m b hm he=>?_⟩
 .by_cases e:j=i
  .subst e;rw[a,k];simp only;omega
  .obtain⟨o,e⟩:=ho j b e;rw[e,k];have:=h.nu j o;omega
 .by_cases e:j=i
  .by_cases c:m=i
   .rw[e,c]
   .obtain⟨o,d⟩:=ho m hm c;have:=h.nu m o;subst e;rw[a,d] at he;simp only at he;omega
  .obtain⟨o,g⟩:=ho j b e;by_cases c:m=i
   .have:=h.nu j o;subst c;rw[a,g] at he;simp only at he;omega
   .obtain⟨o2,d⟩:=ho m hm c;rw[d,g] at he;exact h.inj j m o o2 he
 .by_cases e:j=i
  .subst e;rw[a];exact⟨l.2.2.2.2.1,l.2.2.2.2.2⟩
  .obtain⟨o,e⟩:=ho j b e;rw[e];exact h.rt j o
 .by_cases e:j=i
  .subst e;rw[a,k];simp only;omega
  .obtain⟨o,e⟩:=ho j b e;rw[e,k];have:=h.pf j o;omega
 .by_cases e:m=i
  .subst e;rw[a] at he;simp only at he;by_cases c:j=m
   .subst c;rw[a] at he;simp only at he;omega
   .obtain⟨o,d⟩:=ho j b c;rw[d] at he;have:=h.pf j o;omega
  .obtain⟨o,g⟩:=ho m hm e;by_cases c:j=i
   .subst c;rw[a,g] at he⊢;simp only at he⊢;rcases hp with hp|⟨z,u,A,v,x,y⟩
    .have:=h.nu m o;omega
    .obtain rfl:z=m:=h.inj z m u o aQ;exact⟨v,x,y⟩
   .obtain⟨o2,d⟩:=ho j b c;rw[d,g] at he⊢;exact h.ch j m o2 o he
theorem xB{env from_ other to_ rights more:Int}:(gW C env from_ other to_ rights more=(23,C))\/∃i:Nat,Oc C i/\env=((i /16:Nat):Int)/\0<=rights/\dM (bI C i).rt rights=rights/\gW C env from_ other to_ rights more=dC C other to_ (bI C i).kd (bI C i).ob rights (bI C i).nu:=by
 cases hf:eX C env from_ with
 |none=>exact .inl (KY hf other to_ rights more)
 |some i=>
  by_cases hc:rights<0\/dM (bI C i).rt rights≠rights\/dM (bI C i).rt more≠more
  .exact .inl (QF hf other to_ hc)
  .obtain⟨h1,b,_⟩:=mP hf;have c:¬rights<0:=λe=>hc (.inl e)
   have a:dM (bI C i).rt rights=rights:=acE λe=>hc (.inr (.inl e))
   have d:dM (bI C i).rt more=more:=acE λe=>hc (.inr (.inr e))
   exact .inr ⟨i,h1,b,aQ,a,NO hf other to_ c a d⟩
end
variable{s':dK}{k':Kv}
section
theorem mS{s:dK}{o:Int}:dA s o=true↔∃i:Nat,o=i/\i<s.n/\s.T[i]?=some true:=by
 unfold dA zQ;rw[acM,aeE];constructor
 .rintro⟨⟨h1,c⟩,a⟩;refine⟨o.toNat,aQ,aQ,?_⟩;cases h:s.T[o.toNat]? with
  |none=>rw[h] at a;cases a
  |some b=>rw[h] at a;simp at a;rw[a]
 .rintro⟨i,rfl,c,a⟩;refine⟨aQ,?_⟩;rw[abZ,a];rfl
theorem pV{s:dK}{o x:Int}:dA (uP s o) x=true↔dA s x=true/\x≠o:=by
 unfold uP;by_cases h:dA s o=true
 .rw[abS h];obtain⟨i,rfl,f,g⟩:=mS.1 h;rw[mS,mS];simp only[abZ];constructor
  .rintro⟨j,rfl,d,a⟩;rw[acZ] at a;split at a
   .split at a
    .cases a
    .cases a
   .rename_i b;exact⟨⟨j,rfl,d,a⟩,λe=>b aQ⟩
  .rintro⟨⟨j,rfl,d,a⟩,b⟩;refine⟨j,rfl,d,?_⟩;rw[acZ,abT (λe=>b aQ)];exact a
 .rw[abT h];exact⟨λc=>⟨c,λe=>h (e ▸ c)⟩,λc=>c.1⟩
theorem C3(s:dK)(o:Int):(uP s o).n=s.n/\(uP s o).B=s.B/\(uP s o).T.length=s.T.length:=by
 unfold uP;split
 .exact⟨rfl,rfl,aT⟩
 .exact⟨rfl,rfl,rfl⟩
theorem sM{s:dK}(h:jF s=some i):i<s.n/\dA s (i:Int)=false:=by
 unfold jF at h;obtain⟨h1,b,_⟩:=acB.1 h;have c:i<s.n/\i<s.T.length:=by rw[ac9] at h1;omega
 refine⟨c.1,?_⟩;cases d:dA s (i:Int) with
 |false=>rfl
 |true=>
  obtain⟨j,e,_,a⟩:=mS.1 d;obtain rfl:j=i:=aQ;rw[List.getElem_take] at b;rw[abO c.2] at a;injection a with a;rw[a] at b;cases b
theorem Mt(a:List Int):∀(B:List Int) (m j:Nat),(j<m\/m+a.length<=j)->(JI B m a)[j]?=B[j]?:=by
 induction a with
 |nil=>intro B m j _;rfl
 |cons v a b=>
  intro B m j h;rw[acR] at h;show(JI (B.set m v) (m+1) a)[j]?=_;rw[b _ _ _ aQ,acZ,abT aQ]
theorem Ec(a:List Int):∀(B:List Int) (m:Nat),(JI B m a).length=B.length:=by
 induction a with
 |nil=>intro B m;rfl
 |cons v a b=>
  intro B m;show(JI (B.set m v) (m+1) a).length=_;rw[b,ab5]
theorem DC{s:dK}(d:s.T.length=32)(f:s.n<=32)(h:jF s=some i):(∀x,dA (fU s) x=true↔dA s x=true\/x=i)/\(∀j,j≠i->pJ (fU s) j=pJ s j)/\(fU s).n=s.n/\(fU s).T.length=s.T.length/\(fU s).B.length=s.B.length:=by
 obtain⟨h1,g⟩:=sM h;have e:fU s={s with T:=s.T.set i true,B:=QI s.B i}:=by unfold fU;rw[h]
 rw[e];refine⟨λx=>?_,λj b=>?_,rfl,aT,Ec _ _ _⟩
 .rw[mS,mS];simp only;constructor
  .rintro⟨j,rfl,c,a⟩;by_cases b:j=i
   .exact .inr (by rw[b])
   .rw[acZ,abT (λe=>b e.symm)] at a;exact .inl ⟨j,rfl,c,a⟩
  .rintro(⟨j,rfl,c,a⟩|rfl)
   .refine⟨j,rfl,c,?_⟩;rw[acZ];split
    .split
     .rfl
     .omega
    .exact a
   .refine⟨i,rfl,h1,?_⟩;rw[acZ,abS rfl,abS aQ]
 .unfold pJ;apply aeW;intro m;rw[acN,acN];split
  .rw[adF,adF];simp only[QI];rw[Mt _ _ _ _ (by simp only[acR,ac6];omega)]
  .rfl
theorem sO(s:dK)(o a v:Int):(iV s o a v).n=s.n/\(iV s o a v).T=s.T/\(iV s o a v).B.length=s.B.length/\∀j:Nat,(j:Int)≠o->pJ (iV s o a v) j=pJ s j:=by
 unfold iV;split
 .rename_i h;obtain⟨k,m,rfl,rfl,_,hm⟩:=NB h;refine⟨rfl,rfl,aT,λj b=>?_⟩;unfold pJ;apply aeW;intro p;rw[acN,acN];split
  .rw[adF,adF];simp only[abZ];rw[acZ,abT aQ]
  .rfl
 .exact⟨rfl,rfl,rfl,λ_ _=>rfl⟩
theorem BO{s:dK}(a:s'.n=s.n)(b:s'.T=s.T)(x:Int):dA s' x=dA s x:=by
 unfold dA zQ;rw[a,b]
theorem Y8{t:List En}{o:Int}{x:En}(h:x∈GM t e o):x∈t/\¬(x.frame=o/\x.env=e):=by
 unfold GM at h;rw[adB] at h;refine⟨h.1,λhc=>?_⟩;have:=h.2;rw[acF hc] at this;cases this
theorem NC(G:List cP):∀(t:List En) (x:En),x∈iI t G->x∈t/\∀p∈G,p.h.kd=1->¬(x.frame=p.h.ob/\x.env=p.e):=by
 induction G with
 |nil=>intro t x h;exact⟨h,λp hp=>by cases hp⟩
 |cons p G c=>
  intro t x h;have e:iI t (p::G)=iI (yK t p) G:=rfl;rw[e] at h;obtain⟨h1,b⟩:=c _ _ h;unfold yK at h1;split at h1
  .obtain⟨d,f⟩:=Y8 h1;refine⟨d,λq hq hk=>?_⟩;rcases ad3.1 hq with hq|hq
   .rw[hq];exact f
   .exact b q hq hk
  .rename_i a;refine⟨h1,λq hq hk=>?_⟩;rcases ad3.1 hq with hq|hq
   .rw[hq] at hk;exact absurd hk a
   .exact b q hq hk
theorem Mp{t:List En}{X x:En}(h:x∈x8 t X):x∈t\/x=X:=by
 unfold x8 at h;split at h
 .unfold ld at h;rcases ab9.1 h with h|h
  .unfold mE at h;split at h
   .exact .inl (aeG h)
   .split at h
    .exact .inl (aeG h)
    .exact .inl h
  .exact .inr (ab3.1 h)
 .exact .inl h
def Tl(C:Cf)(o:Int):Prop:=∃i,Oc C i/\(bI C i).kd=1/\(bI C i).ob=o/\(bI C i).rt=15/\(bI C i).pf=0
def OE(C:Cf)(o:Int):Prop:=∃i,Oc C i/\(bI C i).kd=1/\(bI C i).ob=o
structure KJ(k:Kv):Prop where
 ci:CI k.c
 fT:k.f.T.length=32
 fn:k.f.n=6
 pl:∀i,Oc k.c i->(bI k.c i).pf<(bI k.c i).nu/\((bI k.c i).pf≠0->∃j,Oc k.c j/\(bI k.c j).nu=(bI k.c i).pf)
 un:∀i j,Oc k.c i->Oc k.c j->(bI k.c i).kd=1->(bI k.c j).kd=1->(bI k.c i).ob=(bI k.c j).ob->(bI k.c i).pf=0->(bI k.c j).pf=0->i=j
 tk:∀i,Oc k.c i->(bI k.c i).kd=1->dA k.f (bI k.c i).ob=true
 ro:∀o,dA k.f o=true->OE k.c o->Tl k.c o
 tb:∀x∈k.t,∃i,Oc k.c i/\x.env=((i /16:Nat):Int)/\(bI k.c i).kd=1/\(bI k.c i).ob=x.frame/\(x.write=true->dM (bI k.c i).rt 2=2)
inductive Mv (A:Int->Int->Int->Prop) (k:Kv):Kv->Prop
 |fZ {o:Int} (h:(∃i,Oc k.c i/\A ((i /16:Nat):Int) 1 o/\(bI k.c i).kd=1/\(bI k.c i).ob=o/\dM (bI k.c i).rt 8=8)\/¬OE k.c o) {k':Kv} (r:kB k o k'):Mv A k k'
 |nJ {i:Nat} (ho:Oc k.c i) (ha:A ((i /16:Nat):Int) (bI k.c i).kd (bI k.c i).ob) (self:Bool) {L:List cP} (hL:xY k L):Mv A k (iA k (bI k.c i).nu self L)
 |alloc {i:Nat} (h:jF k.f=some i) {e s:Int} (h2:(dC k.c e s 1 i 15 0).1=0):Mv A k {k with f:=fU k.f,c:=(dC k.c e s 1 i 15 0).2}
 |pass {i:Nat} (ho:Oc k.c i) (ha:A ((i /16:Nat):Int) (bI k.c i).kd (bI k.c i).ob) {rights:Int} (h0:0<=rights) (h1:dM (bI k.c i).rt rights=rights) (e s:Int):Mv A k {k with c:=(dC k.c e s (bI k.c i).kd (bI k.c i).ob rights (bI k.c i).nu).2}
 |write {i:Nat} (ho:Oc k.c i) (ha:A ((i /16:Nat):Int) 1 (bI k.c i).ob) (hk:(bI k.c i).kd=1) (h2:dM (bI k.c i).rt 2=2) (a v:Int):Mv A k {k with f:=iV k.f (bI k.c i).ob a v}
 |load {i:Nat} (ho:Oc k.c i) (hk:(bI k.c i).kd=1) {x:En} (he:x.env=((i /16:Nat):Int)) (hf:(bI k.c i).ob=x.frame) (h2:x.write=true->dM (bI k.c i).rt 2=2):Mv A k {k with t:=x8 k.t x}
 |tl {t:List En} (h:∀x∈t,x∈k.t):Mv A k {k with t:=t}
 |xR (b:List Nt) (v:List Vc) (s:Sd) (n:Nat):Mv A k {k with b:=b,v:=v,s:=s,n:=n}
theorem KT(num:Int)(self:Bool)(st:List Int×List cP)(p:cP):(∀x∈st.1,x∈(eZ num self st p).1)/\(∀q∈st.2,q∈(eZ num self st p).2)/\∀q∈(eZ num self st p).2,q∈st.2\/q=p:=by
 unfold eZ;split
 .split
  .exact⟨λx a=>a,λq hq=>aeU _ hq,λq hq=>by rcases ab9.1 hq with h|h;exact .inl h;exact .inr (ab3.1 h)⟩
  .exact⟨λx a=>a,λq hq=>hq,λq hq=> .inl hq⟩
 .split
  .exact⟨λx a=>aeU _ a,λq hq=>aeU _ hq,λq hq=>by rcases ab9.1 hq with h|h;exact .inl h;exact .inr (ab3.1 h)⟩
  .exact⟨λx a=>a,λq hq=>hq,λq hq=> .inl hq⟩
theorem LU(num:Int)(self:Bool)(L:List cP):∀st:List Int×List cP,(∀x∈st.1,x∈(L.foldl (eZ num self) st).1)/\(∀q∈st.2,q∈(L.foldl (eZ num self) st).2)/\∀q∈(L.foldl (eZ num self) st).2,q∈st.2\/q∈L:=by
 induction L with
 |nil=>intro st;exact⟨λx a=>a,λq hq=>hq,λq hq=> .inl hq⟩
 |cons y L b=>
  intro st;obtain⟨c,a2,a3⟩:=KT num self st y;obtain⟨b1,b2,b3⟩:=b (eZ num self st y);rw[aeB];refine⟨λx a=>b1 x (c x a),λq hq=>b2 q (a2 q hq),λq hq=>?_⟩;rcases b3 q hq with h|h
  .rcases a3 q h with h|h
   .exact .inl h
   .exact .inr (by simp[h])
  .exact .inr (by simp[h])
theorem Ca(num:Int)(self:Bool)(L:List cP):∀st:List Int×List cP,(∀q∈st.2,q.h.nu∈st.1\/q.h.nu=num)->∀q∈(L.foldl (eZ num self) st).2,q.h.nu∈(L.foldl (eZ num self) st).1\/q.h.nu=num:=by
 induction L with
 |nil=>intro st h;exact h
 |cons y L b=>
  intro st h;rw[aeB];refine b _ (λq hq=>?_);unfold eZ at hq⊢;split at hq
  .rename_i a;rw[abS a];split at hq
   .rename_i hs;rw[abS hs];rcases ab9.1 hq with hq|hq
    .exact h q hq
    .rw[ab3.1 hq];exact .inr a
   .rename_i hs;rw[abT hs];exact h q hq
  .rename_i a;rw[abT a];split at hq
   .rename_i hs;rw[abS hs];rcases ab9.1 hq with hq|hq
    .rcases h q hq with h|h
     .exact .inl (aeU _ h)
     .exact .inr h
    .rw[ab3.1 hq];exact .inl (List.mem_append_right _ aT)
   .rename_i hs;rw[abT hs];exact h q hq
theorem TE{num:Int}{self:Bool}{L:List cP}(g:L.Pairwise λx y=>x.h.nu<=y.h.nu){q:cP}(hq:q∈L)(j:q.h.nu≠num)(h:q.h.pf=num\/∃p∈(dB num self L).2,p.h.nu=q.h.pf/\p.h.nu<q.h.nu):q∈(dB num self L).2:=by
 obtain⟨pre,post,rfl⟩:=List.append_of_mem hq;unfold dB at h⊢;rw[ad2,aeB] at h⊢;obtain⟨b1,b2,b3⟩:=LU num self post (eZ num self (pre.foldl (eZ num self) ([num], [])) q);refine b2 q ?_;have a:q.h.pf∈(pre.foldl (eZ num self) ([num], [])).1:=by
  obtain⟨i,a2,a3⟩:=LU num self pre ([num], []);rcases h with h|⟨p,hp,he,b⟩
  .rw[h];exact i num aT
  .rw[aeI] at g;have c:=ae2.1 g.2.1;have d:p∈(pre.foldl (eZ num self) ([num], [])).2:=by
    rcases b3 p hp with h1|h1
    .rcases(KT num self (pre.foldl (eZ num self) ([num], [])) q).2.2 p h1 with e|e
     .exact e
     .rw[e] at b;omega
    .have:=c.1 p h1;omega
   rcases Ca num self pre ([num], []) (λq hq=>by cases hq) p d with f|f
   .rw[<-he];exact f
   .rw[<-he,f];exact i num aT
 generalize pre.foldl (eZ num self) ([num], [])=st at *;unfold eZ;rw[abT j,abS a];exact List.mem_append_right _ aT
theorem I7{L:List cP}(a:L.Perm (lC C)){o:Int}(hi:Oc C i):(∃p∈L.filter (oF 1 o),gE p=i)↔((bI C i).kd=1/\(bI C i).ob=o):=by
 constructor
 .rintro⟨p,hp,rfl⟩;obtain⟨h1,b⟩:=adB.1 hp;obtain⟨_,c,_,_⟩:=pY (a.mem_iff.1 h1);have:=adD b;rw[c] at this;exact this
 .rintro hk;exact⟨_,adB.2 ⟨a.mem_iff.2 (UM hi),acF hk⟩,ZP i _⟩
theorem KJ.fZ{k k':Kv}{o:Int}(h:KJ k)(r:kB k o k'):KJ k'/\nI k'.c k.c/\(∀i,Oc k'.c i↔Oc k.c i/\¬((bI k.c i).kd=1/\(bI k.c i).ob=o))/\k'.f=uP k.f o:=by
 obtain⟨L,n,rfl⟩:=r;have hs:nI (GP k o L).c k.c:=qK k.c (L.filter (oF 1 o));have a:∀i,Oc (GP k o L).c i↔Oc k.c i/\¬((bI k.c i).kd=1/\(bI k.c i).ob=o):=λi=>by
  show Oc (iC k.c (L.filter (oF 1 o))) i↔_;rw[tZ];exact⟨λ⟨h1,d⟩=>⟨h1,λhk=>d ((I7 n h1).2 hk)⟩,λ⟨h1,d⟩=>⟨h1,λhk=>d ((I7 n h1).1 hk)⟩⟩
 have hf:(GP k o L).f=uP k.f o:=rfl;have F:(GP k o L).t=iI k.t (L.filter (oF 1 o)):=rfl;refine⟨?_,hs,a,hf⟩;generalize GP k o L=k' at *;obtain⟨f1,f2,f3⟩:=C3 k.f o;refine⟨h.ci.sub hs,by rw[hf,f3];exact h.fT,by rw[hf,f1];exact h.fn,λi hi=>?_,λi j hi u=>?_,λi hi hk=>?_,λx b G=>?_,λx b=>?_⟩
 .obtain⟨o1,q⟩:=hs.s i hi;rw[q];refine⟨(h.pl i o1).1,λhp=>?_⟩;obtain⟨j,v,y⟩:=(h.pl i o1).2 hp;obtain⟨c1,c2,_⟩:=h.ci.ch i j o1 v y.symm;have g:Oc k'.c j:=(a j).2 ⟨v,λhk=>((a i).1 hi).2 ⟨c1.trans hk.1,c2.trans hk.2⟩⟩;exact⟨j,g,by rw[(hs.s j g).2];exact y⟩
 .rw[(hs.s i hi).2,(hs.s j u).2];exact h.un i j (hs.s i hi).1 (hs.s j u).1
 .rw[(hs.s i hi).2] at hk⊢;rw[hf,pV];exact⟨h.tk i (hs.s i hi).1 hk,λe=>((a i).1 hi).2 ⟨hk,e⟩⟩
 .rw[hf,pV] at b;obtain⟨i,l,z,A⟩:=G;rw[(hs.s i l).2] at z A;obtain⟨r,or,r1,B,H,I⟩:=h.ro x b.1 ⟨i,(hs.s i l).1,z,A⟩;have or':Oc k'.c r:=(a r).2 ⟨or,λhc=>b.2 (B.symm.trans hc.2)⟩;exact⟨r,or',by rw[(hs.s r or').2];exact⟨r1,B,H,I⟩⟩
 .rw[F] at b;obtain⟨h1,d⟩:=NC _ _ _ b;obtain⟨i,l,q,C,D,J⟩:=h.tb x h1;have m:Oc k'.c i:=(a i).2 ⟨l,λhc=>by
   obtain⟨p,hp,hid⟩:=(I7 n l).2 hc;obtain⟨_,q2,E,_⟩:=pY (n.mem_iff.1 (adB.1 hp).1);rw[hid] at q2 E;exact d p hp (by rw[q2];exact C) ⟨by rw[q2];exact D.symm,by rw[E];exact q⟩⟩
  exact⟨i,m,by rw[(hs.s i m).2];exact⟨q,C,D,J⟩⟩
theorem KJ.nJ{k:Kv}(h:KJ k){i0:Nat}(U:Oc k.c i0)(self:Bool){L:List cP}(I:xY k L):KJ (iA k (bI k.c i0).nu self L):=by
 have u:∀p∈L,p∈lC k.c:=λp hp=>I.1.mem_iff.1 hp
 have b:=GA h.ci U (self:=self) u;have hs:nI (iA k (bI k.c i0).nu self L).c k.c:=qK k.c _;have v:∀i,Oc (iA k (bI k.c i0).nu self L).c i↔Oc k.c i/\¬∃p∈(dB (bI k.c i0).nu self L).2,gE p=i:=λi=>tZ
 have z:∀i j,Oc k.c i->Oc k.c j->(bI k.c i).pf=(bI k.c j).nu->i≠i0->(∃p∈(dB (bI k.c i0).nu self L).2,gE p=j)->∃p∈(dB (bI k.c i0).nu self L).2,gE p=i:=λi j g d he J ⟨p,hp,hid⟩=>by
  refine⟨_,TE I.2 (I.1.mem_iff.2 (UM g)) (λe=>J (h.ci.inj i i0 g U e)) (.inr ⟨p,hp,?_,?_⟩),ZP i _⟩
  .rw[(pY (b p hp).1).2.1,hid];exact he.symm
  .rw[(pY (b p hp).1).2.1,hid,<-he];exact(h.pl i g).1
 have K:∀p∈(dB (bI k.c i0).nu self L).2,(bI k.c i0).nu<=p.h.nu:=by
  suffices key:∀(L:List cP) (st:List Int×List cP),(∀p∈L,p∈lC k.c)->(∀x∈st.1,(bI k.c i0).nu<=x)->(∀p∈st.2,(bI k.c i0).nu<=p.h.nu)->∀p∈(L.foldl (eZ (bI k.c i0).nu self) st).2,(bI k.c i0).nu<=p.h.nu by
   exact key L ([(bI k.c i0).nu], []) u (λx a=>by rw[ab3.1 a];exact adO _) (λp hp=>by cases hp)
  intro L;induction L with
  |nil=>intro st _ _ l;exact l
  |cons y L M=>
   intro st u h1 l;obtain⟨oy,hy,_,_⟩:=pY (u y aT);have A:=(h.pl _ oy).1;rw[<-hy] at A;rw[aeB];refine M _ (λp hp=>u p (by simp[hp])) (λx a=>?_) (λp hp=>?_)
   .unfold eZ at a;split at a
    .split at a <;> exact h1 x a
    .split at a
     .rename_i o;rcases ab9.1 a with a|a
      .exact h1 x a
      .rw[ab3.1 a];have:=h1 _ o;omega
     .exact h1 x a
   .unfold eZ at hp;split at hp
    .rename_i N;split at hp
     .rcases ab9.1 hp with hp|hp
      .exact l p hp
      .rw[ab3.1 hp,N];exact adO _
     .exact l p hp
    .split at hp
     .rename_i o;rcases ab9.1 hp with hp|hp
      .exact l p hp
      .rw[ab3.1 hp];have:=h1 _ o;omega
     .exact l p hp
 have ht:(iA k (bI k.c i0).nu self L).t=iI k.t (dB (bI k.c i0).nu self L).2:=rfl;have hf:(iA k (bI k.c i0).nu self L).f=k.f:=rfl;generalize iA k (bI k.c i0).nu self L=k' at *;generalize (dB (bI k.c i0).nu self L).2=G at *;refine⟨h.ci.sub hs,by rw[hf];exact h.fT,by rw[hf];exact h.fn,λi hi=>?_,λi j hi B=>?_,λi hi hk=>?_,λx a hh=>?_,λx a=>?_⟩
 .obtain⟨o1,F⟩:=hs.s i hi;rw[F];refine⟨(h.pl i o1).1,λhp=>?_⟩;obtain⟨j,d,O⟩:=(h.pl i o1).2 hp;have C:Oc k'.c j:=(v j).2 ⟨d,λB=>by
   by_cases D:i=i0
   .subst D;obtain⟨p,hp,hid⟩:=B;have h1:=K p hp;rw[(pY (b p hp).1).2.1,hid,O] at h1;have:=(h.pl i o1).1;omega
   .exact((v i).1 hi).2 (z i j o1 d O.symm D B)⟩
  exact⟨j,C,by rw[(hs.s j C).2];exact O⟩
 .rw[(hs.s i hi).2,(hs.s j B).2];exact h.un i j (hs.s i hi).1 (hs.s j B).1
 .rw[(hs.s i hi).2] at hk⊢;rw[hf];exact h.tk i (hs.s i hi).1 hk
 .rw[hf] at a;obtain⟨i,g,P,Q⟩:=hh;obtain⟨q,e0⟩:=hs.s i g;rw[e0] at P Q;obtain⟨r,or,r1,V,r3,H⟩:=h.ro x a ⟨i,q,P,Q⟩;by_cases R:∃p∈G,gE p=r
  .exfalso
   have S:r=i0:=by
    obtain⟨p,hp,hid⟩:=R;rcases(b p hp).2.2.2.2 with e|e
    .rw[<-hid];exact e
    .rw[hid,H] at e;omega
   have all:∀(n:Nat) (j:Nat),Oc k.c j->(bI k.c j).kd=1->(bI k.c j).ob=x->(bI k.c j).nu<=n->∃p∈G,gE p=j:=by
    intro n;induction n with
    |zero=>intro j d _ _ hn;have:=(h.ci.nu j d).1;omega
    |succ n M=>
     intro j d W X hn;by_cases hp:(bI k.c j).pf=0
     .rw[h.un j r d or W r1 (X.trans V.symm) hp H];exact R
     .obtain⟨m,T,em⟩:=(h.pl j d).2 hp;obtain⟨c1,c2,_⟩:=h.ci.ch j m d T em.symm;have A:=(h.pl j d).1;refine z j m d T em.symm (λe=>?_) (M m T (c1.symm.trans W) (c2.symm.trans X) aQ);rw[e,<-S] at hp;exact hp H
   have:=h.ci.nu i q;exact((v i).1 g).2 (all (bI k.c i).nu.toNat i q P Q aQ)
  .have or':Oc k'.c r:=(v r).2 ⟨or,R⟩;exact⟨r,or',by rw[(hs.s r or').2];exact⟨r1,V,r3,H⟩⟩
 .rw[ht] at a;obtain⟨h1,l⟩:=NC _ _ _ a;obtain⟨i,g,F,Y,Z,e4⟩:=h.tb x h1;have E:Oc k'.c i:=(v i).2 ⟨g,λ⟨p,hp,hid⟩=>by
   obtain⟨_,q2,q3,_⟩:=pY (b p hp).1;rw[hid] at q2 q3;exact l p hp (by rw[q2];exact Y) ⟨by rw[q2];exact Z.symm,by rw[q3];exact F⟩⟩
  exact⟨i,E,by rw[(hs.s i E).2];exact⟨F,Y,Z,e4⟩⟩
theorem KJ.same(h:KJ k)(hc:k'.c=k.c)(hf:k'.f=k.f)(a:∀x∈k'.t,x∈k.t):KJ k':=by
 obtain⟨b,d,g,i,j,s',l⟩:=k';obtain rfl:b=k.c:=hc;obtain rfl:d=k.f:=hf;exact⟨h.ci,h.fT,h.fn,h.pl,h.un,h.tk,h.ro,λx e=>h.tb x (a x e)⟩
theorem KJ.alloc{k:Kv}(h:KJ k){i:Nat}(hi:jF k.f=some i){e s:Int}(H:(dC k.c e s 1 i 15 0).1=0):KJ {k with f:=fU k.f,c:=(dC k.c e s 1 i 15 0).2}:=by
 have y:=h.ci.put e s 1 i 15 0 (.inl rfl);obtain⟨t1,t2,t3,t4,t5⟩:=DC h.fT (by rw[h.fn];omega) hi;have A:=(sM hi).2;rcases mW h.ci.len e s 1 i 15 0 with⟨_,I⟩|⟨m,_,hm,_,_,B,_,_,M,a,hold⟩
 .exact absurd H I
 generalize (dC k.c e s 1 i 15 0).2=C' at *;have ho:∀j,Oc C' j->j≠m->Oc k.c j/\bI C' j=bI k.c j:=λj b d=>⟨⟨b.1,by rw[<-hold j d];exact b.2⟩,hold j d⟩
 have hb:∀j,Oc k.c j->Oc C' j/\bI C' j=bI k.c j:=λj b=>by
  have d:j≠m:=λe=>B (e ▸ b)
  exact⟨⟨b.1,by rw[hold j d];exact b.2⟩,hold j d⟩
 have J:=h.ci.n0;have K:Oc C' m:=⟨hm,by rw[a];simp only;omega⟩
 refine⟨y,t4.trans h.fT,t3.trans h.fn,λj b=>?_,λj l b hl=>?_,λj b hk=>?_,λx p F=>?_,λx p=>?_⟩
 .simp only at b⊢;by_cases e:j=m
  .subst e;rw[a];simp only;exact⟨aQ,λhc=>absurd rfl hc⟩
  .obtain⟨o1,g⟩:=ho j b e;rw[g];refine⟨(h.pl j o1).1,λhp=>?_⟩;obtain⟨z,t,L⟩:=(h.pl j o1).2 hp;exact⟨z,(hb z t).1,by rw[(hb z t).2];exact L⟩
 .simp only at b hl⊢;have vM:∀z,Oc k.c z->(bI k.c z).kd=1->(bI k.c z).ob≠i:=λz t hk e=>by
   have:=h.tk z t hk;rw[e,A] at this;cases this
  by_cases g:j=m
  .by_cases q:l=m
   .intro _ _ _ _ _;rw[g,q]
   .obtain⟨o2,C⟩:=ho l hl q;rw[g,a,C];intro _ o D _ _;exact absurd D.symm (vM l o2 o)
  .obtain⟨o1,G⟩:=ho j b g;by_cases q:l=m
   .rw[q,a,G];intro u _ D _ _;exact absurd D (vM j o1 u)
   .obtain⟨o2,C⟩:=ho l hl q;rw[C,G];exact h.un j l o1 o2
 .simp only at b hk⊢;by_cases e:j=m
  .rw[e,a,t1];exact .inr rfl
  .obtain⟨o1,g⟩:=ho j b e;rw[g] at hk⊢;rw[t1];exact .inl (h.tk j o1 hk)
 .simp only at p F⊢;rw[t1] at p;by_cases n:x=i
  .exact⟨m,K,by rw[a];exact⟨rfl,n.symm,rfl,rfl⟩⟩
  .obtain⟨j,v,u,o⟩:=F;have E:j≠m:=λe=>by rw[e,a] at o;exact n o.symm
   obtain⟨o1,g⟩:=ho j v E;rw[g] at u o;obtain⟨r,or,r1⟩:=h.ro x (p.resolve_right n) ⟨j,o1,u,o⟩;exact⟨r,(hb r or).1,by rw[(hb r or).2];exact r1⟩
 .obtain⟨j,v,g⟩:=h.tb x p;exact⟨j,(hb j v).1,by simp only;rw[(hb j v).2];exact g⟩
theorem KJ.pass{k:Kv}(h:KJ k){i:Nat}(g:Oc k.c i){rights:Int}(h1:dM (bI k.c i).rt rights=rights)(e s:Int):KJ {k with c:=(dC k.c e s (bI k.c i).kd (bI k.c i).ob rights (bI k.c i).nu).2}:=by
 have t:=h.ci.put e s (bI k.c i).kd (bI k.c i).ob rights (bI k.c i).nu (.inr ⟨i,g,rfl,rfl,rfl,h1⟩);rcases mW h.ci.len e s (bI k.c i).kd (bI k.c i).ob rights (bI k.c i).nu with⟨C,_⟩|⟨m,_,hm,_,_,u,_,_,J,a,hold⟩
 .rw[C];exact h
 generalize (dC k.c e s (bI k.c i).kd (bI k.c i).ob rights (bI k.c i).nu).2=C' at *;have ho:∀j,Oc C' j->j≠m->Oc k.c j/\bI C' j=bI k.c j:=λj b d=>⟨⟨b.1,by rw[<-hold j d];exact b.2⟩,hold j d⟩
 have hb:∀j,Oc k.c j->Oc C' j/\bI C' j=bI k.c j:=λj b=>by
  have d:j≠m:=λe=>u (e ▸ b)
  exact⟨⟨b.1,by rw[hold j d];exact b.2⟩,hold j d⟩
 have D:=h.ci.nu i g;refine⟨t,h.fT,h.fn,λj b=>?_,λj l b hl=>?_,λj b hk=>?_,λx n y=>?_,λx n=>?_⟩
 .simp only at b⊢;by_cases e:j=m
  .subst e;rw[a];simp only;exact⟨aQ,λ_=>⟨i,(hb i g).1,by rw[(hb i g).2]⟩⟩
  .obtain⟨o1,f⟩:=ho j b e;rw[f];refine⟨(h.pl j o1).1,λhp=>?_⟩;obtain⟨z,A,E⟩:=(h.pl j o1).2 hp;exact⟨z,(hb z A).1,by rw[(hb z A).2];exact E⟩
 .simp only at b hl⊢;by_cases f:j=m
  .rw[f,a];intro _ _ _ F _;simp only at F;omega
  .obtain⟨o1,G⟩:=ho j b f;by_cases B:l=m
   .rw[B,a];intro _ _ _ _ H;simp only at H;omega
   .obtain⟨o2,I⟩:=ho l hl B;rw[I,G];exact h.un j l o1 o2
 .simp only at b hk⊢;by_cases e:j=m
  .rw[e,a] at hk⊢;exact h.tk i g hk
  .obtain⟨o1,f⟩:=ho j b e;rw[f] at hk⊢;exact h.tk j o1 hk
 .simp only at n y⊢;obtain⟨j,o,p,q⟩:=y;have v:OE k.c x:=by
   by_cases e:j=m
   .rw[e,a] at p q;exact⟨i,g,p,q⟩
   .obtain⟨o1,f⟩:=ho j o e;rw[f] at p q;exact⟨j,o1,p,q⟩
  obtain⟨r,or,r1⟩:=h.ro x n v;exact⟨r,(hb r or).1,by rw[(hb r or).2];exact r1⟩
 .obtain⟨j,o,f⟩:=h.tb x n;exact⟨j,(hb j o).1,by simp only;rw[(hb j o).2];exact f⟩
theorem KJ.mv{A:Int->Int->Int->Prop}(h:KJ k)(m:Mv A k k'):KJ k':=by
 cases m with
 |fZ _ r=>exact(h.fZ r).1
 |nJ ho _ self o=>exact h.nJ ho self o
 |alloc hi g=>exact h.alloc hi g
 |pass ho _ _ h1 e s=>exact h.pass ho h1 e s
 | @write i ho _ hk g a v=>
  obtain⟨f1,f2,f3,_⟩:=sO k.f (bI k.c i).ob a v;have ft:∀x,dA (iV k.f (bI k.c i).ob a v) x=dA k.f x:=λx=>BO f1 f2 x
  exact⟨h.ci,by simp only;rw[f2];exact h.fT,by simp only;rw[f1];exact h.fn,h.pl,h.un,λj p hk=>by simp only;rw[ft];exact h.tk j p hk,λx d q=>h.ro x (by simp only at d;rw[ft] at d;exact d) q,h.tb⟩
 |load ho hk he hf g=>
  refine⟨h.ci,h.fT,h.fn,h.pl,h.un,h.tk,h.ro,λy l=>?_⟩;rcases Mp l with l|rfl
  .exact h.tb y l
  .exact⟨_,ho,he,hk,hf,g⟩
 |tl t=>exact h.same rfl rfl t
 |xR b v s n=>exact h.same rfl rfl (λx d=>d)
end
variable{R:List Int}{k1 k2:Kv}{op D N E:Int}
section
theorem Z1{r:Int}(h:0<=r/\r<=15)(a:dM r 10=0):dM r 8≠8/\dM r 2≠2:=by
 rw[(iS h aQ).1] at a;rw[(iS h aQ).1,(iS h aQ).1];obtain⟨x,rfl⟩:=abW h.1;have key:∀y:Fin 16,(y.val &&& 10=0)->(y.val &&& 8≠8/\y.val &&& 2≠2):=cH;have:=key ⟨x,aQ⟩ (by simp only[abZ] at a;show x &&& 10=0;exact_mod_cast a);simp only[abZ] at this⊢;exact⟨λe=>this.1 (by exact_mod_cast e),λe=>this.2 (by exact_mod_cast e)⟩
theorem Rj{r:Int}(h:0<=r/\r<=15)(a:dM r 3=3):dM r 2=2:=xG h aQ aQ a cH
def TL(C:Cf)(e o m:Int):Prop:=∀i,Oc C i->((i /16:Nat):Int)=e->(bI C i).kd=1->(bI C i).ob=o->dM (bI C i).rt m=0
theorem TL.sub{o m:Int}(h:TL C e o m)(s:nI C' C):TL C' e o m:=λi hi h1 a b=>by
 obtain⟨o1,c⟩:=s.s i hi;rw[c] at a b⊢;exact h i o1 h1 a b
structure PW(e o:Int)(R:List Int)(k:Kv):Prop where
 tk:dA k.f o=true
 DV:pJ k.f o.toNat=R
 no:TL k.c e o 10
 ro:Tl k.c o
theorem PW.mv{o:Int}(h:KJ k)(p:PW e o R k)(m:Mv (λw _ _=>w=e) k k'):PW e o R k':=by
 obtain⟨z,O,_,_⟩:=mS.1 p.tk;obtain⟨r,or,r1,g,x,y⟩:=p.ro;cases m with
 | @fZ H hc _ rr=>
  obtain⟨_,hs,J,hf⟩:=h.fZ rr;have l:o≠H:=λb=>by
   rcases hc with⟨i,A,ha,E,n,d⟩|hc
   .exact(Z1 (h.ci.rt i A) (p.no i A ha E (n.trans b.symm))).1 d
   .exact hc (b ▸ ⟨r,or,r1,g⟩)
  have or':Oc k'.c r:=(J r).2 ⟨or,λhk=>l (g.symm.trans hk.2)⟩;refine⟨by rw[hf,pV];exact⟨p.tk,l⟩,?_,p.no.sub hs,⟨r,or',by rw[(hs.s r or').2];exact⟨r1,g,x,y⟩⟩⟩;have K:=(C3 k.f H).2.1;unfold pJ;rw[hf,K];exact p.DV
 | @nJ i ho ha self L M=>
  have hs:nI (iA k (bI k.c i).nu self L).c k.c:=qK k.c _;have or':Oc (iA k (bI k.c i).nu self L).c r:=tZ.2 ⟨or,λ⟨q,hq,hid⟩=>by
   obtain⟨_,_,_,_,D⟩:=GA h.ci ho (self:=self) (λp hp=>M.1.mem_iff.1 hp) q hq;rw[hid] at D;rcases D with D|D
   .have:=p.no r or (by rw[D];exact ha) r1 g;rw[x] at this;exact absurd this cH
   .rw[y] at D;omega⟩
  exact⟨p.tk,p.DV,p.no.sub hs,⟨r,or',by rw[(hs.s r or').2];exact⟨r1,g,x,y⟩⟩⟩
 | @alloc i hi e' s h2=>
  obtain⟨t1,t2,_,_,_⟩:=DC h.fT (by rw[h.fn];omega) hi;have F:=(sM hi).2;have l:o≠i:=λb=>by rw[<-b,p.tk] at F;cases F
  rcases mW h.ci.len e' s 1 i 15 0 with⟨_,G⟩|⟨m,_,hm,_,_,B,_,_,N,t,hold⟩
  .exact absurd h2 G
  have u:r≠m:=λb=>B (b ▸ or)
  refine⟨(t1 o).2 (.inl p.tk),(t2 _ aQ).trans p.DV,λj C E n d=>?_,⟨r,⟨or.1,by simp only;rw[hold r u];exact or.2⟩,by simp only;rw[hold r u];exact⟨r1,g,x,y⟩⟩⟩;simp only at C n d⊢;by_cases b:j=m
  .rw[b,t] at d;exact absurd d.symm l
  .rw[hold j b] at n d⊢;exact p.no j ⟨C.1,by rw[<-hold j b];exact C.2⟩ E n d
 | @pass i A ha rights h0 h1 e' s=>
  rcases mW h.ci.len e' s (bI k.c i).kd (bI k.c i).ob rights (bI k.c i).nu with⟨G,_⟩|⟨m,_,hm,_,_,B,I,_,N,t,hold⟩
  .rw[G];exact p
  have u:r≠m:=λb=>B (b ▸ or)
  refine⟨p.tk,p.DV,λj C E n d=>?_,⟨r,⟨or.1,by simp only;rw[hold r u];exact or.2⟩,by simp only;rw[hold r u];exact⟨r1,g,x,y⟩⟩⟩;simp only at C n d⊢;by_cases b:j=m
  .rw[b,t] at n d⊢;exact RF (h.ci.rt i A) ⟨I.2.2.2.2.1,I.2.2.2.2.2⟩ aQ h1 (p.no i A ha n d)
  .rw[hold j b] at n d⊢;exact p.no j ⟨C.1,by rw[<-hold j b];exact C.2⟩ E n d
 | @write i A ha hk h2 a v=>
  obtain⟨f1,f2,_,f4⟩:=sO k.f (bI k.c i).ob a v;have l:o≠(bI k.c i).ob:=λb=>(Z1 (h.ci.rt i A) (p.no i A ha hk b.symm)).2 h2
  exact⟨by simp only;rw[BO f1 f2];exact p.tk,(f4 _ aQ).trans p.DV,p.no,⟨r,or,r1,g,x,y⟩⟩
 |load _ _ _ _ _=>exact⟨p.tk,p.DV,p.no,⟨r,or,r1,g,x,y⟩⟩
 |tl _=>exact⟨p.tk,p.DV,p.no,⟨r,or,r1,g,x,y⟩⟩
 |xR _ _ _ _=>exact⟨p.tk,p.DV,p.no,⟨r,or,r1,g,x,y⟩⟩
inductive sX (A:Int->Int->Int->Prop):Kv->Kv->Prop
 |nil (k:Kv):sX A k k
 |cons {k k1 k2:Kv} (m:Mv A k k1) (r:sX A k1 k2):sX A k k2
theorem sX.one{A:Int->Int->Int->Prop}(m:Mv A k k'):sX A k k':= .cons m (.nil _)
theorem sX.trans{A:Int->Int->Int->Prop}(h:sX A k k1)(a:sX A k1 k2):sX A k k2:=by
 induction h with
 |nil _=>exact a
 |cons m _ b=>exact .cons m (b a)
theorem KJ.BR{A:Int->Int->Int->Prop}(h:KJ k)(m:sX A k k'):KJ k':=by
 induction m with
 |nil _=>exact h
 |cons m _ a=>exact a (h.mv m)
theorem PW.BR{o:Int}(h:KJ k)(p:PW e o R k)(m:sX (λw _ _=>w=e) k k'):PW e o R k':=by
 induction m with
 |nil _=>exact p
 |cons m _ a=>exact a (h.mv m) (p.mv h m)
def HD(k:Kv):Prop:=∀o,dA k.f o=true->OE k.c o
theorem RY{o:Int}(h:kV k o=false):¬OE k.c o:=λa=>by
 rw[JU.2 a] at h;cases h
theorem HD.fZ{k k':Kv}{o:Int}(h:KJ k)(d:HD k)(r:kB k o k'):HD k':=by
 obtain⟨_,hs,f,hf⟩:=h.fZ r;intro x b;rw[hf,pV] at b;obtain⟨i,g,j,e⟩:=d x b.1;have a:Oc k'.c i:=(f i).2 ⟨g,λhk=>b.2 (e.symm.trans hk.2)⟩;exact⟨i,a,by rw[(hs.s i a).2];exact⟨j,e⟩⟩
theorem YR{num:Int}{L:List cP}:∀p∈(dB num false L).2,p.h.nu≠num:=by
 suffices key:∀(L:List cP) (st:List Int×List cP),(∀p∈st.2,p.h.nu≠num)->∀p∈(L.foldl (eZ num false) st).2,p.h.nu≠num from key L ([num], []) (λp hp=>by cases hp)
 intro L;induction L with
 |nil=>intro st h;exact h
 |cons y L a=>
  intro st h;rw[aeB];refine a _ (λp hp=>?_);unfold eZ at hp;split at hp
  .simp only[acJ,acI] at hp;exact h p hp
  .rename_i b;split at hp
   .rcases ab9.1 hp with hp|hp
    .exact h p hp
    .rw[ab3.1 hp];exact b
   .exact h p hp
theorem gD.BR{A:Int->Int->Int->Prop}{l:List cP}(r:gD l k k'):sX A k k':=by
 induction r with
 |nil _=>exact .nil _
 |skip _ _ a=>exact a
 |fZ h r1 _ a=>exact .cons (.fZ (.inr (RY h.2.1)) r1) a
theorem gD.hd{l:List cP}(r:gD l k k'):KJ k->(∀x,dA k.f x=true->OE k.c x\/∃p∈l,p.h.kd=1/\p.h.ob=x)->HD k':=by
 induction r with
 |nil _=>exact λ_ h x a=>(h x a).resolve_right (λ⟨p,hp,_⟩=>by cases hp)
 | @skip p l k k' hs _ ih=>
  intro d h;refine ih d (λx a=>?_);rcases h x a with h1|⟨q,hq,q1,q2⟩
  .exact .inl h1
  .rcases ad3.1 hq with e|hq
   .subst e;refine .inl ?_;by_cases j:kV k x=true
    .exact JU.1 j
    .exact absurd ⟨q1,by rw[q2];simpa using j,by rw[q2];exact a⟩ hs
   .exact .inr ⟨q,hq,q1,q2⟩
 | @fZ p l k m k' hs r1 _ ih=>
  intro d h;obtain⟨g,o,t,hf⟩:=d.fZ r1;refine ih g (λx a=>?_);rw[hf,pV] at a;rcases h x a.1 with⟨i,u,m,n⟩|⟨q,hq,q1,q2⟩
  .have b:=(t i).2 ⟨u,λhk=>a.2 (n.symm.trans hk.2)⟩;exact .inl ⟨i,b,by rw[(o.s i b).2];exact⟨m,n⟩⟩
  .rcases ad3.1 hq with e|hq
   .subst e;exact absurd q2.symm a.2
   .exact .inr ⟨q,hq,q1,q2⟩
theorem P3(h:KJ k){s:Int}(he:0<=e/\e<8)(hs:0<=s/\s<16)(a:(mJ k.c e s).isSome=false)(hi:jF k.f=some i):(dC k.c e s 1 i 15 0).1=0:=by
 have b:=(sM hi).1;rw[h.fn] at b;have hid:oN e s=some (e.toNat *16+s.toNat):=by unfold oN;rw[abS aQ]
 have d:iT 1 i 15=true:=by unfold iT;exact acF aQ
 unfold dC;rw[d,hid];simp only[ae1,acI];rw[abT ?_];intro g;unfold mJ eX at a;rw[hid] at a;simp only at a;rw[abT g] at a;cases a
def JR(e:Int):Int->Int->Int->Prop:=λw _ _=>w=e
theorem lG.BR{A B C:Int}(h:KJ k)(he:0<=e/\e<8)(F:0<=A)(r:lG k e op A B C D N E k'):sX (JR e) k k':=by
 have b:∀other to_ rights more from_,sX (JR e) k {k with c:=(gW k.c e from_ other to_ rights more).2}:=λother to_ rights more from_=>by
  rcases xB (C:=k.c) (env:=e) (from_:=from_) (other:=other) (to_:=to_) (rights:=rights) (more:=more) with a|⟨i,d,a,n,t,g⟩
  .rw[a];exact .nil _
  .rw[g];exact .one (.pass d a.symm n t _ _)
 cases r with
 |alloc _=>
  unfold lI;split
  .exact .nil _
  .rename_i hs;split
   .exact .nil _
   .rename_i u;split
    .rename_i hf;have:fU k.f=k.f:=by unfold fU;rw[hf]
     rw[this];exact .nil _
    .rename_i i hf;have q:=P3 h he (s:=A) aQ (by simpa using u) hf;split
     .rename_i v;exact absurd q v
     .exact .one (.alloc hf q)
 |free _ r=>
  unfold rO at r;split at r
  .rw[r.2];exact .nil _
  .rename_i x l;obtain⟨i,d,a,n,rfl,g,m⟩:=MA l;exact .one (.fZ (.inl ⟨i,d,a.symm,g,rfl,m⟩) r.2)
 |read _=>exact .nil _
 |write _=>
  unfold oJ;split
  .exact .nil _
  .rename_i x l;obtain⟨i,d,a,n,rfl,g,m⟩:=MA l;split
   .exact .nil _
   .exact .one (.write d a.symm g m _ _)
 |load _=>
  unfold mR;split
  .exact .nil _
  .split
   .exact .nil _
   .rename_i x l;obtain⟨i,d,a,n,rfl,g,m⟩:=MA l;refine .one (.load d g a rfl (λhw=>?_));have hw:=adD hw;rw[abS hw] at m;exact Rj (h.ci.rt i d) m
 |zI _=>exact .one (.tl (λx l=>(adB.1 l).1))
 |hand _ r=>
  unfold gU at r;split at r
  .injection r with _ r;rw[r];exact b _ _ _ _ _
  .split at r
   .split at r
    .injection r with _ r;rw[r];exact b _ _ _ _ _
    .rw[r.2];exact .nil _
   .split at r
    .unfold p5 at r;split at r
     .rw[r.2];exact .nil _
     .rename_i i hi;obtain⟨_,L,p,rfl⟩:=r;unfold sD at hi;split at hi
      .cases hi
      .rename_i j y;split at hi
       .cases hi
       .injection hi with hi;subst hi;obtain⟨o1,a,_⟩:=mP y;exact .one (.nJ o1 a.symm false p)
    .unfold wV at r;split at r
     .rw[r.2];exact .nil _
     .rename_i i hi;obtain⟨_,L,p,z⟩:=r;obtain⟨o1,a,_⟩:=mP hi;exact .cons (.nJ o1 a.symm true p) z.BR
 |line _=>exact .nil _
 |qC _ _=>exact .one (.xR _ _ _ _)
 |time _ r=>
  unfold mU at r;split at r
  .rw[r.2];exact .one (.xR _ _ _ _)
  .split at r
   .rw[r.2];exact .one (.xR _ _ _ _)
   .rcases r with rfl|rfl
    .exact .nil _
    .exact .one (.xR _ _ _ _)
 |send _ r=>
  rcases r with rfl|⟨o,rfl⟩
  .exact .nil _
  .unfold dQ;split
   .exact .one (.xR _ _ _ _)
   .exact .nil _
 |next _ _=>exact .nil _
 |null _=>exact .nil _
theorem HD.same(h:HD k)(hc:k'.c=k.c)(hf:k'.f=k.f):HD k':=λx a=>by rw[hc];rw[hf] at a;exact h x a
theorem HD.pass{k:Kv}(h:KJ k)(d:HD k)(env from_ other to_ rights more:Int):HD {k with c:=(gW k.c env from_ other to_ rights more).2}:=by
 intro x o;obtain⟨i,a,e,f⟩:=d x o;rcases xB (C:=k.c) (env:=env) (from_:=from_) (other:=other) (to_:=to_) (rights:=rights) (more:=more) with g|⟨j,r,_,_,_,p⟩
 .rw[g];exact⟨i,a,e,f⟩
 .simp only;rw[p];rcases mW h.ci.len other to_ (bI k.c j).kd (bI k.c j).ob rights (bI k.c j).nu with⟨q,_⟩|⟨m,_,hm,_,_,l,_,_,s,n,hold⟩
  .rw[q];exact⟨i,a,e,f⟩
  .have b:i≠m:=λg=>l (g ▸ a)
   exact⟨i,⟨a.1,by rw[hold i b];exact a.2⟩,by rw[hold i b];exact⟨e,f⟩⟩
theorem lG.hd{A B C:Int}(h:KJ k)(d:HD k)(he:0<=e/\e<8)(R:0<=A)(r:lG k e op A B C D N E k'):HD k':=by
 cases r with
 |alloc _=>
  unfold lI;split
  .exact d
  .rename_i hs;split
   .exact d
   .rename_i O;split
    .rename_i hf;have:fU k.f=k.f:=by unfold fU;rw[hf]
     rw[this];exact d
    .rename_i i hf;have t:=P3 h he (s:=A) aQ (by simpa using O) hf;split
     .rename_i K;exact absurd t K
     .intro x a;obtain⟨t1,_⟩:=DC h.fT (by rw[h.fn];omega) hf;simp only at a⊢;rw[t1] at a;rcases mW h.ci.len e A 1 i 15 0 with⟨_,G⟩|⟨m,_,hm,_,_,I,_,_,K,g,hold⟩
      .exact absurd t G
      rcases a with a|a
      .obtain⟨j,u,l,n⟩:=d x a;have v:j≠m:=λJ=>I (J ▸ u)
       exact⟨j,⟨u.1,by rw[hold j v];exact u.2⟩,by rw[hold j v];exact⟨l,n⟩⟩
      .have:=h.ci.n0;exact⟨m,⟨hm,by rw[g];simp only;omega⟩,by rw[g];exact⟨rfl,a.symm⟩⟩
 |free _ r=>
  unfold rO at r;split at r
  .rw[r.2];exact d
  .exact d.fZ h r.2
 |read _=>exact d
 |write _=>
  unfold oJ;split
  .exact d
  .split
   .exact d
   .intro x a;simp only at a;obtain⟨f1,f2,_,_⟩:=sO k.f (by assumption:Hd).ob B (C%256);rw[BO f1 f2] at a;exact d x a
 |load _=>
  unfold mR;split
  .exact d
  .split
   .exact d
   .exact d.same rfl rfl
 |zI _=>exact d.same rfl rfl
 |hand _ r=>
  unfold gU at r;split at r
  .injection r with _ r;rw[r];exact d.pass h _ _ _ _ _ _
  .split at r
   .split at r
    .injection r with _ r;rw[r];exact d.pass h _ _ _ _ _ _
    .rw[r.2];exact d
   .split at r
    .unfold p5 at r;split at r
     .rw[r.2];exact d
     .rename_i i hi;obtain⟨_,L,y,rfl⟩:=r;unfold sD at hi;split at hi
      .cases hi
      .rename_i j H;split at hi
       .cases hi
       .injection hi with hi;subst hi;obtain⟨o1,J,_⟩:=mP H;have hs:nI (iA k (bI k.c j).nu false L).c k.c:=qK k.c _;intro x a;obtain⟨i,P,l,n⟩:=d x a;by_cases hi:∃p∈(dB (bI k.c j).nu false L).2,gE p=i
        .obtain⟨p,hp,hid⟩:=hi;obtain⟨h1,t,G,_,_⟩:=GA h.ci o1 (self:=false) (λp hp=>y.1.mem_iff.1 hp) p hp;rw[hid] at t G;have b:Oc (iA k (bI k.c j).nu false L).c j:=tZ.2 ⟨o1,λ⟨q,hq,z⟩=>by
          have M:=YR q hq;rw[(pY (y.1.mem_iff.1 ((xH _ _ _).2 q hq))).2.1,z] at M;exact M rfl⟩
         exact⟨j,b,by rw[(hs.s j b).2];exact⟨t.symm.trans l,G.symm.trans n⟩⟩
        .have F:Oc (iA k (bI k.c j).nu false L).c i:=tZ.2 ⟨P,hi⟩;exact⟨i,F,by rw[(hs.s i F).2];exact⟨l,n⟩⟩
    .unfold wV at r;split at r
     .rw[r.2];exact d
     .rename_i i hi;obtain⟨_,L,y,Q⟩:=r;obtain⟨o1,J,_⟩:=mP hi;have hs:nI (iA k (bI k.c i).nu true L).c k.c:=qK k.c _;refine Q.hd (h.nJ o1 true y) (λx a=>?_);obtain⟨j,u,l,n⟩:=d x a;by_cases H:∃p∈(dB (bI k.c i).nu true L).2,gE p=j
      .obtain⟨p,hp,hid⟩:=H;have:=(pY (y.1.mem_iff.1 ((xH _ _ _).2 p hp))).2.1;rw[hid] at this;exact .inr ⟨p,hp,by rw[this];exact⟨l,n⟩⟩
      .have b:Oc (iA k (bI k.c i).nu true L).c j:=tZ.2 ⟨u,H⟩;exact .inl ⟨j,b,by rw[(hs.s j b).2];exact⟨l,n⟩⟩
 |line _=>exact d
 |qC _ _=>exact d.same rfl rfl
 |time _ r=>
  unfold mU at r;split at r
  .rw[r.2];exact d.same rfl rfl
  .split at r
   .rw[r.2];exact d.same rfl rfl
   .rcases r with rfl|rfl
    .exact d
    .exact d.same rfl rfl
 |send _ r=>
  rcases r with rfl|⟨o,rfl⟩
  .exact d
  .unfold dQ;split
   .exact d.same rfl rfl
   .exact d
 |next _ _=>exact d
 |null _=>exact d
def R9(e o:Int):Int->Int->Int->Prop:=λw d x=>w=e/\d=1/\x=o
theorem Y1{s:Int}(hs:nI C' C)(h:eX C' e s=some i):eX C e s=some i/\bI C' i=bI C i:=by
 obtain⟨o1,a,b⟩:=mP h;obtain⟨o2,c⟩:=hs.s i o1;exact⟨by rw[a,b];exact JB o2,c⟩
theorem iZ.BR{o:Int}{l:List Int}(r:iZ e l k k'):KJ k->(∀s i,eX k.c e s=some i->s∈l->(bI k.c i).kd=1/\(bI k.c i).ob=o)->sX (R9 e o) k k'/\nI k'.c k.c/\k'.f=k.f/\∀x,x≠o->OE k.c x->OE k'.c x:=by
 induction r with
 |nil _=>exact λ_ _=>⟨.nil _,nI.refl _,rfl,λ_ _ h=>h⟩
 | @no s l k k' hn _ ih=>exact λb h=>ih b (λs' i h1 g=>h s' i h1 (by simp[g]))
 | @drop s l k k' i hf L m _ ih=>
  intro b h;obtain⟨o1,u,_⟩:=mP hf;obtain⟨v,n⟩:=h s i hf aT;have hs:nI (iA k (bI k.c i).nu true L).c k.c:=qK k.c _;obtain⟨y,a2,a3,a4⟩:=ih (b.nJ o1 true m) (λs' j h1 g=>by
   obtain⟨d,z⟩:=Y1 hs h1;rw[z];exact h s' j d (by simp[g]))
  refine⟨.cons (.nJ o1 ⟨u.symm,v,n⟩ true m) y,a2.trans hs,a3,λx q ⟨j,A,B,t⟩=>a4 x q ?_⟩;have a:Oc (iA k (bI k.c i).nu true L).c j:=tZ.2 ⟨A,λ⟨p,hp,hid⟩=>by
   obtain⟨_,_,d,_,_⟩:=GA b.ci o1 (self:=true) (λp hp=>m.1.mem_iff.1 hp) p hp;rw[hid,t,n] at d;exact q d⟩
  exact⟨j,a,by rw[(hs.s j a).2];exact⟨B,t⟩⟩
theorem KR{o s:Int}(h1:eX k.c e s=some i)(a:s∈eV k e o):(bI k.c i).kd=1/\(bI k.c i).ob=o:=by
 obtain⟨j,b,d,f,g,h⟩:=DK.1 a;rw[d,f,JB b] at h1;injection h1 with h1;subst h1;exact⟨g,h⟩
theorem nP.BR{o:Int}(h:KJ k)(r:nP e o k k'):sX (R9 e o) k k'/\(HD k->HD k'):=by
 cases r with
 |no _ m=>rw[m];exact⟨.nil _,λd=>d⟩
 |keep _ r a=>
  obtain⟨f,a2,a3,a4⟩:=r.BR (o:=o) h (λs i h1 a=>KR h1 a);refine⟨f,λd x b=>?_⟩;by_cases g:x=o
  .rw[g];exact JU.1 a
  .rw[a3] at b;exact a4 x g (d x b)
 |fZ _ r a j=>
  obtain⟨f,a2,a3,a4⟩:=r.BR (o:=o) h (λs i h1 a=>KR h1 a);have h1:=h.BR f;refine⟨f.trans (.one (.fZ (.inr (RY a)) j)),λd x b=>?_⟩;obtain⟨_,hs,n,hf⟩:=h1.fZ j;rw[hf,pV,a3] at b;obtain⟨i,p,q,l⟩:=a4 x b.2 (d x b.1);have c:=(n i).2 ⟨p,λhk=>b.2 (l.symm.trans hk.2)⟩;exact⟨i,c,by rw[(hs.s i c).2];exact⟨q,l⟩⟩
end
variable{n:Nat}{s:Sd}
section
theorem Z3:∀(n:Nat) (L:List Nat),L.Nodup->(∀x∈L,x<n)->L.length<=n
 |0,L,_,h=>by
  cases L with
  |nil=>exact abQ _
  |cons x L=>exact absurd (h x aT) (adY _)
 |n+1,L,hd,h=>by
  have h1:=Z3 n (L.erase n) (hd.erase n) (λx a=>by
   have b:=h x (List.mem_of_mem_erase a);have c:x≠n:=λe=>by
    rw[e] at a;exact(List.Nodup.not_mem_erase hd) a
   omega)
  have b:L.length<=(L.erase n).length+1:=by
   rw[List.length_erase];split <;> omega
  omega
theorem KI.kw(h:KI k n)(g:n<=1000000):KW k:=by
 refine⟨by have:=h.tl;omega,?_,⟨h.cn.1,by have:=h.cn.2;omega⟩,h.sd,λx a=>⟨(h.bb x a).1.1,by have:=(h.bb x a).1.2;omega⟩,by have:=h.an;omega⟩;have h1:=Z3 24 (k.b.map λx=>x.dU.toNat *6+x.fD.toNat) ?_ (λy c=>?_)
 .rw[acU] at h1;omega
 .rw[List.Nodup,List.pairwise_map];refine h.bu.imp_of_mem ?_;intro x y a c d he;obtain⟨⟨e,f⟩,x3,x4⟩:=h.bb x a;obtain⟨⟨i,j⟩,y3,y4⟩:=h.bb y c;exact d ⟨aQ,aQ⟩
 .obtain⟨x,a,rfl⟩:=aeC.1 c;obtain⟨⟨e,f⟩,x3,x4⟩:=h.bb x a;omega
theorem Od{t:List En}(h:qH t)(X:En):qH (x8 t X):=by
 unfold x8;split
 .unfold ld;have hk:qH (mE t X)/\∀e∈mE t X,¬(e.env=X.env/\e.cZ=X.cZ):=by
   unfold mE;cases hf:fi t X.env X.cZ with
   |some i=>
    obtain⟨hi,⟨a,b⟩,_⟩:=pT hf;have:=JA h hi;rw[a,b] at this;exact⟨BB h i,this⟩
   |none=>
    have:=M7 hf;simp only;split
    .exact⟨BB h 0,λe he=>this e (aeG he)⟩
    .exact⟨h,this⟩
  exact JG hk.1 hk.2
 .exact h
theorem Om{t:List En}(h:t.length<=16)(X:En):(x8 t X).length<=16:=by
 unfold x8;split
 .unfold ld mE;rw[ab6,afF];cases hf:fi t X.env X.cZ with
  |some i=>
   obtain⟨hi,_,_⟩:=pT hf;simp only;rw[adN,abS hi];omega
  |none=>
   simp only;split
   .rw[adN,abS aQ];omega
   .omega
 .exact h
theorem N6(G:List cP):∀t:List En,(iI t G).Sublist t:=by
 induction G with
 |nil=>intro t;exact adK _
 |cons p G a=>
  intro t;refine List.Sublist.trans (a (yK t p)) ?_;unfold yK;split
  .exact List.filter_sublist
  .exact adK _
theorem IF(L:List Nt)(o:Int):∀n,(qZ L o n).Sublist L
 |0=>adK _
 |n+1=>by
  refine List.Sublist.trans (l₂:=qZ L o n) ?_ (IF L o n);show(qN (qZ L o n) (n:Nat) o).Sublist (qZ L o n);generalize qZ L o n=M;unfold qN;split
  .exact af0 _ _
  .exact adK _
structure Sm(k k':Kv):Prop where
 s:k'.s=k.s
 n:k'.n=k.n
 c:k'.c.n=k.c.n
 t:k'.t.Sublist k.t
 b:k'.b.Sublist k.b
 f:k'.f.n=k.f.n
 v:k'.v=k.v
theorem Sm.refl(k:Kv):Sm k k:=⟨rfl,rfl,rfl,adK _,adK _,rfl,rfl⟩
theorem Sm.trans(h:Sm k k1)(a:Sm k1 k2):Sm k k2:=⟨a.s.trans h.s,a.n.trans h.n,a.c.trans h.c,a.t.trans h.t,a.b.trans h.b,a.f.trans h.f,a.v.trans h.v⟩
theorem kB.sm{o:Int}(r:kB k o k'):Sm k k':=by
 obtain⟨L,_,rfl⟩:=r;exact⟨rfl,rfl,F1 _ _,N6 _ _,IF _ _ _,(C3 k.f o).1,rfl⟩
theorem MX(k:Kv)(num:Int)(self:Bool)(L:List cP):Sm k (iA k num self L):=⟨rfl,rfl,F1 _ _,N6 _ _,adK _,rfl,rfl⟩
theorem gD.sm{l:List cP}(r:gD l k k'):Sm k k':=by
 induction r with
 |nil _=>exact Sm.refl _
 |skip _ _ a=>exact a
 |fZ _ r1 _ a=>exact r1.sm.trans a
theorem iZ.sm{l:List Int}(r:iZ e l k k'):Sm k k':=by
 induction r with
 |nil _=>exact Sm.refl _
 |no _ _ a=>exact a
 |drop _ L _ _ a=>exact(MX _ _ _ L).trans a
theorem nP.sm{o:Int}(r:nP e o k k'):Sm k k':=by
 cases r with
 |no _ h=>rw[h];exact Sm.refl _
 |keep _ r _=>exact r.sm
 |fZ _ r _ a=>exact r.sm.trans a.sm
theorem KI.sm(h:KI k n)(s:Sm k k'):KI k' n:=
 ⟨by rw[s.s];exact h.sd,by rw[s.s];exact h.p4,by rw[s.c];exact h.cn,abX s.t.length_le h.tl,h.tu.sublist s.t,λx a=>h.bb x (s.b.subset a),h.bu.sublist s.b,by rw[s.f];exact h.f6,by rw[s.n];exact h.an⟩
theorem KI.DZ(h:KI k n)(hs:gS s)(hp:s.P.length=4):KI {k with s:=s} n:=⟨hs,hp,h.cn,h.tl,h.tu,h.bb,h.bu,h.f6,h.an⟩
theorem wG(h:gS s)(hp:s.P.length=4)(e:Int)(b:Bool):gS (jX s e b)/\(jX s e b).P.length=4:=by
 unfold jX;split
 .exact⟨h.FI _ _,by show(List.modify _ _ _).length=4;rw[adM];exact hp⟩
 .exact⟨h,hp⟩
theorem KI.tell(h:KI k n)(e:Int):KI (dQ k e) n:=by
 unfold dQ;split
 .obtain⟨h1,a⟩:=wG h.sd h.p4 e true;exact h.DZ h1 a
 .exact h
theorem KI.mQ(l:List Int):∀{k:Kv},KI k n->KI (dX k l) n:=by
 induction l with
 |nil=>intro k h;exact h
 |cons e l a=>intro k h;exact a (h.tell e)
theorem F8(h:gS s)(hp:s.P.length=4)(e bu pe:Int):gS (qQ s e bu pe)/\(qQ s e bu pe).P.length=4:=by
 unfold qQ;split
 .rename_i hi;have hi:=adD hi;refine⟨h.res aQ bu pe,?_⟩;unfold FA;split
  .show(List.modify _ _ _).length=4;rw[adM];exact hp
  .exact hp
 .exact⟨h,hp⟩
theorem U2(h:gS s)(hp:s.P.length=4)(e:Int):gS (sH s e)/\(sH s e).P.length=4:=by
 unfold sH;cases a:tY s e with
 |none=>exact⟨h,hp⟩
 |some v=>
  simp only;unfold tY at a;split at a
  .cases hq:s.P[e.toNat]? with
   |none=>rw[hq] at a;cases a
   |some p=>
    rw[hq] at a;refine⟨h.rel hq a,?_⟩;show(List.modify _ _ _).length=4;rw[adM];exact hp
  .cases a
theorem KI.put{k:Kv}{n:Nat}(h:KI k n)(e s kd ob rt pf:Int):KI {k with c:=(dC k.c e s kd ob rt pf).2} (n+1):=by
 have h1:=CD h.cn.1 e s kd ob rt pf;have a:=h.cn;exact⟨h.sd,h.p4,⟨h1.1,by have:=h1.2;show(dC k.c e s kd ob rt pf).2.n<=((n+1:Nat):Int);omega⟩,h.tl,h.tu,h.bb,h.bu,h.f6,Nat.le_succ_of_le h.an⟩
theorem KI.pass{k:Kv}{n:Nat}(h:KI k n)(env from_ other to_ rights more:Int):KI {k with c:=(gW k.c env from_ other to_ rights more).2} (n+1):=by
 rcases xB (C:=k.c) (env:=env) (from_:=from_) (other:=other) (to_:=to_) (rights:=rights) (more:=more) with a|⟨i,_,_,_,_,b⟩
 .rw[a];exact h.mono (adA _)
 .rw[b];exact h.put _ _ _ _ _ _
theorem lG.ki{A B C:Int}(h:KI k n)(r:lG k e op A B C D N E k'):KI k' (n+1):=by
 have hs:=h.mono (adA n);cases r with
 |alloc _=>
  unfold lI;split
  .exact hs
  .split
   .exact hs
   .split
    .rename_i hf;have:fU k.f=k.f:=by unfold fU;rw[hf]
     rw[this];exact hs
    .rename_i i hf;have hp:=h.put e A 1 i 15 0;have b:(fU k.f).n=6:=by
      unfold fU;rw[hf];exact h.f6
     split <;> exact⟨hp.sd,hp.p4,hp.cn,hp.tl,hp.tu,hp.bb,hp.bu,b,hp.an⟩
 |free _ r=>
  unfold rO at r;split at r
  .rw[r.2];exact hs
  .exact hs.sm r.2.sm
 |read _=>exact hs
 |write _=>
  unfold oJ;split
  .exact hs
  .rename_i x _;split
   .exact hs
   .have:=(sO k.f x.ob B (C%256)).1;exact⟨hs.sd,hs.p4,hs.cn,hs.tl,hs.tu,hs.bb,hs.bu,this.trans h.f6,hs.an⟩
 |load _=>
  unfold mR;split
  .exact hs
  .split
   .exact hs
   .exact⟨hs.sd,hs.p4,hs.cn,Om h.tl _,Od h.tu _,hs.bb,hs.bu,hs.f6,hs.an⟩
 |zI _=>exact hs.sm ⟨rfl,rfl,rfl,List.filter_sublist,adK _,rfl,rfl⟩
 |hand _ r=>
  unfold gU at r;split at r
  .injection r with _ r;rw[r];exact h.pass _ _ _ _ _ _
  .split at r
   .split at r
    .injection r with _ r;rw[r];exact h.pass _ _ _ _ _ _
    .rw[r.2];exact hs
   .split at r
    .unfold p5 at r;split at r
     .rw[r.2];exact hs
     .obtain⟨_,L,_,rfl⟩:=r;exact hs.sm (MX _ _ _ L)
    .unfold wV at r;split at r
     .rw[r.2];exact hs
     .obtain⟨_,L,_,c⟩:=r;exact hs.sm ((MX _ _ _ L).trans c.sm)
 |line _=>exact hs
 |qC _ hm=>exact⟨hs.sd,hs.p4,hs.cn,hs.tl,hs.tu,hs.bb,hs.bu,hs.f6,by have:=h.an;have:=hm.2;show(_:Nat)<=n+1;simp only;omega⟩
 |time _ r=>
  unfold mU at r;split at r
  .rw[r.2];obtain⟨h1,a⟩:=F8 h.sd h.p4 e C D;exact hs.DZ h1 a
  .split at r
   .rw[r.2];obtain⟨h1,a⟩:=U2 h.sd h.p4 e;exact hs.DZ h1 a
   .rcases r with rfl|rfl
    .exact hs
    .obtain⟨h1,a⟩:=wG h.sd h.p4 e false;exact hs.DZ h1 a
 |send _ r=>
  rcases r with rfl|⟨o,rfl⟩
  .exact hs
  .exact hs.tell o
 |next _ _=>exact hs
 |null _=>exact hs
theorem jZ.ki{l:List Nt}(r:jZ l k k'):KI k n->KI k' n:=by
 induction r with
 |nil _=>exact λh=>h
 |cons r1 _ a=>exact λh=>a ((h.sm r1.sm).tell _)
theorem kJ.ki(h:KI k n)(r:kJ k k'):KI k' n:=by
 obtain⟨l1,a,T,e,_,ho,rfl⟩:=r;have h1:=h.mQ l1;have c:KI {dX k l1 with b:=k.b.filter λx=>decide (k.s.nw<x.dI),v:=T.foldl mT k.v} n:=
  ⟨h1.sd,h1.p4,h1.cn,h1.tl,h1.tu,λx d=>h.bb x (adB.1 d).1,h.bu.filter _,h1.f6,h1.an⟩
 exact(ho.ki c).mQ a
theorem Dz(h:KI k n)(e o gr:Int):KI (iB k e o gr).2 n:=by
 unfold iB;split
 .exact h
 .rename_i hc;split
  .exact h
  .split
   .exact h
   .rename_i hw;refine KI.tell ?_ e;have hw:(gV k.b e o k.s.nw gr).1=0:=acE hw;have he:(0<=e/\e<4)/\0<=o/\o<6:=by
     simp only[Bool.not_eq_true',not_or,oI,decide_eq_false_iff_not,Decidable.not_not] at hc;omega
    unfold gV at hw;split at hw
    .rename_i f;split at hw
     .cases hw
     .rename_i hp;have c:(gV k.b e o k.s.nw gr).2=k.b++ [⟨e,o,k.s.nw+gr,0⟩]:=by
       unfold gV;rw[abS f,abT hp]
      refine⟨h.sd,h.p4,h.cn,h.tl,h.tu,λx a=>?_,?_,h.f6,h.an⟩
      .replace a:x∈(gV k.b e o k.s.nw gr).2:=a;rw[c] at a;rcases ab9.1 a with a|a
       .exact h.bb x a
       .rw[ab3.1 a];exact he
      .show List.Pairwise _ (gV k.b e o k.s.nw gr).2;rw[c,aeI];refine⟨h.bu,aeJ _ _,λx a y g=>?_⟩;rw[ab3.1 g];intro d;have hf:OU k.b e o=none:=by
        unfold rC at hp;cases hq:OU k.b e o with
        |none=>rfl
        |some i=>rw[hq] at hp;simp only at hp;omega
       have:=ac1.1 hf x a;unfold tJ at this;simp[d.1,d.2] at this
    .cases hw
end
end
end Go.Proofs.YtacgiflhgdaeaaaGreat
