/- Texts laid as one. -/
import Derived.Laws.BitsLemmas
import Derived.Shelf.Abstract
import Derived.Test.YtacgiflhgdaeaaaGreatZ2
import Derived.Test.YtacgiflhgdaeaaaGreatZ3
import Derived.Test.YtacgiflhgdaeaaaGreatZ4
import Derived.Test.YtacgiflhgdaeaaaGreatZ8
import Derived.Test.YtacgiflhgdaeaaaGreatZ17
import Derived.Test.YtacgiflhgdaeaaaGreatZ21
import Derived.Test.YtacgiflhgdaeaaaGreatZ22
set_option linter.unusedVariables false
set_option linter.unusedSimpArgs false
set_option maxRecDepth 100000
set_option maxHeartbeats 20000000
namespace Go.Proofs.YtacgiflhgdaeaaaGreat
open Go.Proofs.Tryz
open Go renaming World->aA,Value->aC,Addr->aJ,Calls->aG
open Go.RowKit renaming Below->aD,Hid->aH
open Go.Obj renaming cells->aI
section
open Go.RowKit Go.Lib Go.Shelf
variable{F:Nat->Prop}{w:aA}{g n:Nat}
section
theorem Il{y:Wa}(h:dJ F w g n y):aG prog 218 #[.pointer g] w λe w'=>e= .returned (.int .i64 y.nw)/\w=w':=by
 have c0:=h.c0;have c1:=h.c1;clear h;go_enter func218,ntmps218
 go_wp2_with fail
 go_ret
 exact⟨rfl,rfl⟩
theorem YS(n:Int)(a:0<=n)(h₁:n<2 ^ 63):IntKind.i64.wrap n=n:=by rw[IntKind.wrap_i64];omega
theorem Ut(x:Int)(a:0<=x)(h1:x<9223372036854775808):bits .and .i64 x 63=x%64:=by
 simpa using bits_mask .i64 63 cD YS 6 cD x a (by simpa using h1)
theorem lD(x:Int)(a:0<=x)(h1:x<9223372036854775808):(x%64).toNat<=63/\bits .and .i64 x 63=(((x%64).toNat:Nat):Int):=by
 rw[Ut x a h1];omega
theorem LO{y:Wa}(h:dJ F w g n y)(at_:Int)(a:0<=at_/\at_<=2097152):aG prog 229 #[.pointer g,at_] w λe w'=>(∃l s:Nat,l<=3/\s<=63/\e= .returned (.tuple #[l,s]))/\aD w w w':=by
 have c1:=h.c1;generalize y.nw=nw at *;clear h;go_enter func229,ntmps229
 go_wp2_with fail
 refine wp_loop_rounds 4 ?_;rw[rounds_succ];go_upto_region 1 with(fail)
 go_quiet (fail)
 go_wp2_with fail
 rotate_left
 .go_quiet (fail)
  go_wp2_with fail
  go_ret2
  exact⟨⟨0,(at_%64).toNat,aQ,(lD at_ aQ aQ).1,by first|rfl|simp[(lD at_ aQ aQ).2]⟩,by repeat first|exact Below.refl _ _|refine gJ ?_ _⟩
 rw[rounds_succ];go_upto_region 1 with(fail)
 go_quiet (fail)
 go_wp2_with fail
 rotate_left
 .go_quiet (fail)
  go_wp2_with fail
  go_ret2
  exact⟨⟨1,((at_ /64)%64).toNat,aQ,(lD (at_ /64) aQ aQ).1,by first|rfl|simp[(lD (at_ /64) aQ aQ).2]⟩,by repeat first|exact Below.refl _ _|refine gJ ?_ _⟩
 rw[rounds_succ];go_upto_region 1 with(fail)
 go_quiet (fail)
 go_wp2_with fail
 rotate_left
 .go_quiet (fail)
  go_wp2_with fail
  go_ret2
  exact⟨⟨2,((at_ /4096)%64).toNat,aQ,(lD (at_ /4096) aQ aQ).1,by first|rfl|simp[(lD (at_ /4096) aQ aQ).2]⟩,by repeat first|exact Below.refl _ _|refine gJ ?_ _⟩
 rw[rounds_succ];go_upto_region 1 with(fail)
 go_quiet (fail)
 go_wp2_with fail
 go_quiet (fail)
 go_wp2_with fail
 go_ret2
 exact⟨⟨3,((at_ /262144)%64).toNat,aQ,(lD (at_ /262144) aQ aQ).1,by first|rfl|simp[(lD (at_ /262144) aQ aQ).2]⟩,by repeat first|exact Below.refl _ _|refine gJ ?_ _⟩
end
variable{w':aA}{i m:Nat}{A:Option aJ}
section
theorem dJ.rowAt{y:Wa}(h:dJ F w g n y)(hi:i<y.R.length){c:Nat}{xs:List Int}(ho:bB eI 1 w' 0 3 A c xs)(f:w.grownBy w' (aZ y.R[i].A))(j:aZ A=aZ y.R[i].A\/aZ A=some w.heap.size):
 w'.cell? (g,4+i)=some (sF y.R[i])/\w'.frozen? (g,4+i)=false:=by
 obtain⟨G,k,back⟩:=Ob.use h.o (2+i) _ (GD hi);have a:fT eI 1 3 y.R[i].A y.R[i].c y.R[i].xs G w:=k;obtain⟨t1,t2⟩:=a.eV ho f j;obtain⟨b1,b2⟩:=back (Q0 ⟨A,c,xs⟩) w' t1 t2;rw[M2] at b1;obtain⟨l,d,_⟩:=Ob.use b1 0 _ rfl;have e:mI g 339 (vO y).toArray l w':=d;refine⟨e.b.cell (4+i) _ ?_,e.b.frozen _⟩;rw[aaY,vO,aaS aT];simp[hi]
theorem DJ{y:Wa}(h:dJ F w g n y)(d:Du)(hd:0<=d.at_/\d.at_<=2097152)(hm:n<=m)(hs:gQ y.R+1<=m)(x:m<=1000000):
 aG prog 187 #[.pointer g, .agg #[d.at_,d.hd,d.wh]] w λe w'=>e= .returned (.tuple #[])/\∃R,dJ F w' g m {y with R:=R}/\gQ R=gQ y.R+1/\Kp F w w':=by
 obtain⟨z,j,H⟩:=d;have u:=aX w (aI #[z,j,H] 274);have I:=bC.new w 274 #[z,j,H];have H1:=aP (h.below u);have Q:=aP (LO (h.below u).1 z hd);have E:=cZ hm hs x;clear h hm hs x u;go_enter func187,ntmps187
 go_upto_region 1 with(fail)
 generalize w.alloc (aI #[z,j,H] 274)=w1 at *;generalize w.heap.size=q1 at *;have V:=I.cell 0 z rfl;go_wp2_with fail
 refine aR Q ?_;rintro e b ⟨⟨l,s,hl,hs,rfl⟩,v⟩;have k:=H1.o.1.below v;have hlen:y.R.length=256:=k.1.i.len;have hi:l *64+s<y.R.length:=aQ;have X:=aP (I.keep v);have l0:¬(l:Int)<0:=aQ;have l4:(l:Int)<4:=aQ;have s0:¬(s:Int)<0:=aQ;have Y:(s:Int)<64:=aQ;have G:aH (∀W,aD b b W->W.cell? (g,4+l *64+s)=some (sF (y.R[l *64+s]'hi))/\W.frozen? (g,4+l *64+s)=false/\bB eI 1 W 0 3 (y.R[l *64+s]'hi).A (y.R[l *64+s]'hi).c (y.R[l *64+s]'hi).xs):=λW t=>⟨by rw[show 4+l *64+s=4+(l *64+s) by omega];exact(k.1.below t).1.cr hi,(k.1.below t).1.fz _,(k.1.below t).1.row hi⟩
 have B:=aX b.drew (aI #[j] 3);have f:aH (aD b b (b.drew.alloc (aI #[j] 3))):=dQ (Below.refl _ _).drew (aaH _) B;have c0:=(G.o _ (Below.refl _ _)).1;have J:=(G.o _ f.o).1;have K:=(G.o _ (aX b (aI #[j] 3))).1;have y1:=X.o.cell 1 j rfl;have L:(y.R[l *64+s]'hi).xs.length<=1000000:=by
  have:=yM hi;have:=E.o.2.1;have:=E.o.2.2;omega
 have C:aH (∀(W w':aA) (A:Option aJ) (c:Nat) (xs:List Int),aD b b W->bB eI 1 w' 0 3 A c xs->W.grownBy w' (aZ (y.R[l *64+s]'hi).A)->(aZ A=aZ (y.R[l *64+s]'hi).A\/aZ A=some W.heap.size)->w'.cell? (g,4+l *64+s)=some (sF (y.R[l *64+s]'hi))/\w'.frozen? (g,4+l *64+s)=false):=λW w' A c xs t ho M N=>by
  rw[show 4+l *64+s=4+(l *64+s) by omega];exact(k.1.below t).1.rowAt hi ho M N
 have O:aH (∀(W w':aA) (A:Option aJ) (c:Nat) (xs:List Int),aD b b W->bB eI 1 w' 0 3 A c xs->W.grownBy w' (aZ (y.R[l *64+s]'hi).A)->(aZ A=aZ (y.R[l *64+s]'hi).A\/aZ A=some W.heap.size)->xs.length=(y.R[l *64+s]'hi).xs.length+1->∃R,dJ F (w'.setCell (g,4+l *64+s) (.slice A xs.length c)) g m {y with R:=R}/\gQ R=gQ y.R+1/\Kp F w (w'.setCell (g,4+l *64+s) (.slice A xs.length c))):=λW w' A c xs t ho M N hx=>by
  rw[show 4+l *64+s=4+(l *64+s) by omega];have P:=CD hi ⟨A,c,xs⟩;simp only at P;obtain⟨r1,Z⟩:=(k.1.below t).1.setRow hi ho M N E.o.1 (by have:=E.o.2.1;omega);exact⟨_,r1,aQ,(H1.o.2.trans k.2).trans ((k.1.below t).2.trans Z)⟩
 generalize S:y.R[l *64+s]'hi=r at *;have Hr:=aP S;obtain⟨A,c,xs⟩:=r;simp only[sF] at c0 J K L;clear S k B V I v hlen Q H1;go_upto_region 2 with(fail)
 go_wp2_with fail
 go_region_law (refine lO _ rfl (.tmp 23) (.tmp 26) rfl Lf fX (base:=0) (xs:=xs) (G.o _ f.o).2.2 (n:=xs.length) rfl rfl (m:=1) rfl (ys:= [j]) rfl (Sl.gK fX b.drew j _ rfl _ rfl) dT aQ aQ _ rfl (xs.length+1) rfl ?_;intro A5 c5 T a p q;(have b5:T.cell? (g,4+l *64+s)=some (.slice A xs.length c):=(C.o _ _ _ _ _ f.o a p q).1);(have f5:T.frozen? (g,4+l *64+s)=false:=(C.o _ _ _ _ _ f.o a p q).2))
 all_goals
  have U:=aP (O.o _ _ _ _ _ f.o a p q aT);have D:(xs++ [j]).length=xs.length+1:=aT;rw[D] at U;clear a p q b5 f5 D;first|go_end0|(go_wp2_with fail;go_end0)
  exact⟨rfl,U.o⟩
end
section
theorem dJ.mono{y:Wa}(h:dJ F w g n y)(hm:n<=m):dJ F w g m y:=
 ⟨h.o,⟨h.i.nw,⟨h.i.hs.1,by have:=h.i.hs.2;omega⟩,h.i.len,by have:=h.i.sum;omega,h.i.ok⟩⟩
theorem BN(g n:Nat)(y:Wa):dV (λF w=>dJ F w g n y):=λF G H w w' h k a fl hH=>⟨Ob.bX _ F G H w w' h.o k a fl hH,h.i⟩
def Ty(F:Nat->Prop)(g n:Nat)(w:aA)(e:Ending)(w':aA):Prop:=∃H E:Int,e= .returned (.tuple #[H,E])/\B7 F w' g (n+1)/\Kp F w w'
theorem Ff{y:Wa}(h:dJ F w g n y)(H:n+1<=1000000)(at_ c:Int)(f:0<=c/\c<4):aG prog 217 #[.pointer g,at_,c] w (Ty F g n w):=by
 have c0:=h.c0;have c1:=h.c1;have c2:=h.c2;have f2:=h.fz 2;have Z:=h.i.nw;have N:=h.i.hs;have z:aH (B7 F w g (n+1)/\Kp F w w):=⟨⟨y,h.mono aQ⟩,Kp.refl _ _⟩
 by_cases h1:at_<=y.nw
 .generalize y.nw=nw at *;clear h f H;go_enter func217,ntmps217
  go_wp2_with fail
  go_ret2
  exact⟨0,1,rfl,z.o.1,z.o.2⟩
 by_cases h2:2097152<at_
 .generalize y.nw=nw at *;clear h f H;go_enter func217,ntmps217
  go_wp2_with fail
  go_ret2
  exact⟨0,1,rfl,z.o.1,z.o.2⟩
 have Q:=aP (show(0<=c/\c<4)/\0<=at_/\at_<=2097152 by omega);have H1:=aP (h.Wb (m:=n+1) (v:=y.hs+1) aQ aQ);have HN:=aP H;clear z;obtain⟨a,s⟩:∃v,v=y.hs+1:=⟨_,rfl⟩
 have hv:0<=a/\a<=1000000:=aQ;rw[<-s] at H1;have r:=h.i.sum;have A:aH (gQ y.R<=n):=r;clear h r f;go_enter func217,ntmps217
 go_upto_region 6 with(fail)
 rw[<-s];clear s c2 f2 N H c0 c1;generalize w.setCell (g,2) a=I at *;have c2:=H1.o.1.c2;simp only at c2;go_upto_region 7 with(fail)
 have B:=aX I (aI #[at_,a,c] 274);have C:=bC.new I 274 #[at_,a,c];have J:=aP (And.intro ((BN g (n+1) {y with hs:=a}).box H1.o.1 H1.o.1.fl (aI #[at_,a,c] 274)) (H1.o.2.trans (H1.o.1.below B).2));clear B H1 c2;generalize I.alloc (aI #[at_,a,c] 274)=w2 at *;generalize I.heap.size=q2 at *;have d0:=C.cell 0 at_ rfl;have d1:=C.cell 1 a rfl;have d2:=C.cell 2 c rfl;have c3:=J.o.1.c3;simp only at c3;have j:=bF c3;have k:=bF d0;have l:=bF d1;have p:=bF d2;refine bS (bV _) (λ_=>bV) [] (λ_ _ _=>True) [7] [] 54 (cM _) (λ_ _ _ h S=>bZ h S) (λ_ d hd _ v w w' _ h S=>by cases hd) aV aV bK ?_;repeat refine fQ ?_
 refine eL ?_;intro γ w5 t hT;clear j k l p;simp only[dG,Act.put,aaI,aaP,aaN];refine eT ?_;obtain⟨O,T⟩:=J.o.1.below t;have U:=aP (C.keep t);have V:=aP O.mp;have K:=bH O (J.o.2.trans T.unbox);clear O T t hT J C d0 d1 d2 c3;refine G7 zP w5 rfl (.tmp 45) (.tmp 47) (.tmp 48) 335 3 274 rfl underlying335 underlying3 y.M a ⟨at_,a,c⟩ rfl rfl rfl V.o ?_;intro w6 D E;have L:=aP (K.o.1.YM D E (λx d u=>by
  unfold fZ at u;split at u
  .injection u with u;subst u;exact Q.o
  .exact K.o.1.i.ok x d u))
 have q:=aP (L.o.2.aZ U.o (.inr rfl));have G:=aP (K.o.2.trans L.o.2.unbox);have W:=aP (DJ (m:=n+1) L.o.1 ⟨at_,a,c⟩ Q.o.2 (aaH _) (by have:=A.o;show gQ y.R+1<=n+1;omega) HN.o);have d0:=q.o.cell 0 at_ rfl;have d1:=q.o.cell 1 a rfl;have d2:=q.o.cell 2 c rfl;clear D E V K U;refine cP ?_;try refine dB ?_
 go_wp2_with fail
 refine aR W ?_;rintro e w7 ⟨rfl,R,X,_,P⟩;have d17:=P.cell d1 (.inr rfl);have Y:=bH X (G.o.trans P.unbox);clear X P W L q G d0 d1 d2;go_wp2_with fail
 go_ret2
 exact⟨a,0,rfl,⟨_,Y.o.1.less (λb hb=> .inl hb)⟩,Y.o.2⟩
end
section
namespace DI
theorem Hy:(prog.info? 3).map (λi=>(i.zero,i.size,i.bytes))=some (some (.int .i64 0),1,8):=aV
theorem kM:∀w,(zeroValue 3).run prog w= .ok (.int .i64 0) w:=λw=>by kernel_rfl
theorem fJ{c:Nat}(h:n=m):Ending.returned (.slice A n c)= .returned (.slice A m c):=by rw[h]
theorem lP(g c i k base:Nat)(L:List Int)(w:aA)(own:bB eI 1 w base 3 g c L)(s:L.length=i+1+k)(S:L.length<=4000000):
 aG prog 250 #[.slice g L.length c,i, .int .i64 ((i:Int)+1)] w λe w'=>e= .returned (.slice g (L.eraseIdx i).length c)/\bB eI 1 w' base 3 g c (L.eraseIdx i)/\w.grownBy w' (some g):=by
 obtain⟨i0,n,G,p,H⟩:=info_parts Hy;have v:(L.eraseIdx i).length=i+k:=by rw[acO,aaK aQ];omega
 obtain⟨_,_,_,x,y,_,_⟩:=eK own;simp only[maxLen] at y;obtain⟨news,b⟩:∃news,news=(L.drop (i+1)).flatMap eI:=⟨_,rfl⟩
 have s1:aH (news.length=k):=by unfold aH;rw[b,fH fX.len,abY];omega
 have s2:aH (∀u∈news,u.oneCell'=true):=λu hu=>rL fX _ u (by rw[<-b];exact hu)
 have C:aH (∀t,t<news.length->(w.drew.cell? ⟨g,0+i+t,none⟩).isSome=true/\w.drew.frozen? ⟨g,0+i+t,none⟩=false):=λt D=>by
  rw[s1.o] at D;exact cH own _ aQ
 have I:aH (∀t u,news[t]?=some u->w.drew.cell? ((⟨g,i+1,none⟩:aJ).add t)=some u):=λt u hu=>by
  have D:t<k:=by rw[<-s1.o];exact(aaX.1 hu).1
  have hF:=oT fX.len L (i+1);rw[b,hF,acL] at hu;rw[Addr.add_lit];obtain⟨cur,_,J,_,_,_,K⟩:=eK own;show w.cell? _=_;rw[cell_of_row w g _ cur _ (0,0) J,<-hu,<-K,abU,aaK aQ,abG,acI]
 obtain⟨m,h⟩:∃m,m=w.drew.setCells g (0+i) news:=⟨_,rfl⟩
 have E:=aP h;have q:=tX (w:=w.drew) fX.len own.drew i k s [.int .i64 0] rfl;simp only[acI] at q;rw[<-b,show w.drew.setCells g i news=m by rw[h,abQ]] at q;have a:=aP q;have d:∀j,j<c->(m.cell? ⟨g,j,none⟩).isSome=true/\m.frozen? ⟨g,j,none⟩=false:=λj F=>by
  rw[h];have:=cH own j aQ;exact⟨Go.World.isSome_setCells g _ _ _ _ this.1,by rw[World.frozen?_setCells];exact this.2⟩
 have l:∀ty r z,r=1->(Builtin.clear_ #[35] ty #[.slice (some ⟨g,i+k,none⟩) r z]).run prog m= .ok (.tuple #[]) (m.setCells g (i+k) [.int .i64 0]):=λty r z A=>
  kZ m _ 3 ty _ underlying35 kM [.int .i64 0] aV cD g (i+k) r z A (λj F=>d _ (by simp at F;omega))
 clear h q d b;rw[s];rw[s] at x;have M:i<=c:=aQ;have N:i+1<=c:=aQ;have O:(0:Int)<=i+1:=aQ;have P:(i:Int)+1<=(i:Int)+1+(k:Int):=aQ;by_cases hce:c=i+1
 .obtain rfl:k=0:=aQ;obtain rfl:news= []:=abO (by rw[s1.o]);have B:aH (∀t u,([]:List aC)[t]?=some u->w.drew.cell? ((⟨g,0,none⟩:aJ).add t)=some u):=λt u hu=>by simp at hu
  subst hce;have f:=λty=>l ty (i+1 - i) (i+1 - i) aQ
  simp only[aa3] at f v⊢;have Q:(i:Int)<=(i:Int)+1:=aQ;have R:i+1 - i=1:=aQ;rw[R] at f;clear l;go_enter func250,ntmps250
  go_wp2_with fail
  go_region_law (refine step_append_room rfl (.tmp 22) (.tmp 25) 35 rfl 3 i0 1 underlying35 n p g 0 i (i+1) (by simp[Act.eval,Act.put]) ⟨g,0,none⟩ 0 0 [] (by simp[Act.eval,Act.put]) (by rw[acI];exact s1.o) B.o s2.o aQ (by rw[acI];exact C.o) ?_;(try simp only[acI]);rw[<-E.o])
  go_wp2
  go_ret
  exact⟨fJ aQ,a.o.1,⟨a.o.2.os,a.o.2.tape,a.o.2.output,a.o.2.size,a.o.2.block⟩⟩
 .have f:=λty=>l ty (i+1+k - (i+k)) (c - (i+k)) aQ
  clear l;go_enter func250,ntmps250
  go_wp2_with fail
  go_region_law (refine step_append_room rfl (.tmp 22) (.tmp 25) 35 rfl 3 i0 1 underlying35 n p g 0 i c (by simp[Act.eval,Act.put]) ⟨g,i+1,none⟩ k (c - (i+1)) news (by simp[Act.eval,Act.put]) (by rw[acI];exact s1.o) I.o s2.o aQ (by rw[acI];exact C.o) ?_;(try simp only[acI]);rw[<-E.o])
  go_wp2
  go_ret
  exact⟨fJ aQ,a.o.1,⟨a.o.2.os,a.o.2.tape,a.o.2.output,a.o.2.size,a.o.2.block⟩⟩
end DI
end
section
theorem Np(L:List Int)(v:Int):uZ L v= -1\/∃k:Nat,k<L.length/\uZ L v=k:=by
 unfold uZ;cases h:L.findIdx? (λx=>decide (x=v)) with
 |none=>exact .inl rfl
 |some i=>exact .inr ⟨i,(aa5.1 h).1,rfl⟩
def SE(F:Nat->Prop)(g n:Nat)(w:aA)(e:Ending)(w':aA):Prop:=∃b,e= .returned (.bool b)/\B7 F w' g n/\Kp F w w'
theorem SU{y:Wa}(h:dJ F w g n y)(hn:n<=1000000)(x:Int):aG prog 216 #[.pointer g,x] w (SE F g n w):=by
 have c0:=h.c0;have c3:=h.c3;have a:=wQ underlying335 underlying3 (z:= .agg #[aU,aU,aU]) (P:=prog) (w:=w) aV h.mp x true;have HN:=aP hn;clear hn;cases I:y.f x with
 |none=>
  rw[I] at a;simp only[acU,Option.getD_none,acF,acY] at a;have D:aH (SE F g n w (.returned (.bool false)) (w.alloc (aI #[aU,aU,aU] 274))):=⟨false,rfl,⟨y,(h.below (aX w _)).1⟩,(h.below (aX w _)).2⟩
  clear h I;go_enter func216,ntmps216
  go_wp2_with fail
  go_ret
  exact D.o
 |some d=>
  have J:=h.i.ok x d I;rw[I] at a;obtain⟨E,dh,dw⟩:=d;simp only[abL,afK,acE,acY,zP] at a;have HD:=aP J.2;have L:=aX w (aI #[E,dh,dw] 274);have xb:=bC.new w 274 #[E,dh,dw];have H1:=aP (And.intro ((BN g n y).box h h.fl (aI #[E,dh,dw] 274)) (h.below L).2);clear h I J L;go_enter func216,ntmps216
  go_upto_region 6 with(fail)
  clear c0 c3 a;generalize w.alloc (aI #[E,dh,dw] 274)=w1 at *;generalize w.heap.size=q1 at *;have c3:=H1.o.1.c3;obtain⟨w2,M,N,O⟩:=AU (P:=prog) underlying335 underlying3 H1.o.1.mp x 0;have Q:=aP (H1.o.1.YM N O (λz d u=>by
   unfold fZ at u;split at u
   .cases u
   .exact H1.o.1.i.ok z d u))
  have S:=aP (Q.o.2.aZ xb (.inr rfl));have B:=aP (H1.o.2.trans Q.o.2.unbox);clear N O;have d0:=S.o.cell 0 E rfl;have HP:=aP (LO Q.o.1 E HD.o);go_wp2_with fail
  refine aR HP ?_;rintro e T ⟨⟨l,s,hl,hs,rfl⟩,hb3⟩;have j:=Q.o.1.below hb3;have hlen:y.R.length=256:=j.1.i.len;have hi:l *64+s<y.R.length:=aQ;have c4:T.cell? (g,4+l *64+s)=some (sF (y.R[l *64+s]'hi)):=by
   rw[show 4+l *64+s=4+(l *64+s) by omega];exact j.1.cr hi
  have U:aH (bB eI 1 T 0 3 (y.R[l *64+s]'hi).A (y.R[l *64+s]'hi).c (y.R[l *64+s]'hi).xs):=j.1.row hi;have hlX:(y.R[l *64+s]'hi).xs.length<=1000000:=by
   have h1:=yM hi;have h2:gQ y.R<=n:=j.1.i.sum;have:=HN.o;omega
  have G:=aP (KS (c:=(y.R[l *64+s]'hi).c) (U.o.sl fX) (by show(y.R[l *64+s]'hi).xs.length<=_;omega) x);have H3:=bH j.1 (B.o.trans (j.2).unbox);have l0:¬(l:Int)<0:=aQ;have l4:(l:Int)<4:=aQ;have s0:¬(s:Int)<0:=aQ;have s64:(s:Int)<64:=aQ;have V:aH (∀(W w':aA) (A:Option aJ) (c:Nat) (xs:List Int),aD T T W->bB eI 1 w' 0 3 A c xs->W.grownBy w' (aZ (y.R[l *64+s]'hi).A)->aZ A=aZ (y.R[l *64+s]'hi).A->xs.length<=(y.R[l *64+s]'hi).xs.length->
   (w'.cell? (g,4+l *64+s)=some (sF (y.R[l *64+s]'hi))/\w'.frozen? (g,4+l *64+s)=false)/\B7 F (w'.setCell (g,4+l *64+s) (.slice A xs.length c)) g n/\Kp F w (w'.setCell (g,4+l *64+s) (.slice A xs.length c))):=λW w' A c xs hW ho hg ha H=>by
   rw[show 4+l *64+s=4+(l *64+s) by omega];have hsm:=CD hi ⟨A,c,xs⟩;simp only at hsm;have hsum:gQ y.R<=n:=j.1.i.sum;obtain⟨X,hW2⟩:=j.1.below hW;obtain⟨r1,r2⟩:=X.setRow hi ho hg (.inl ha) (aaH n) (by show gQ (y.R.set (l *64+s) ⟨A,c,xs⟩)<=n;omega);exact⟨X.rowAt hi ho hg (.inl ha),⟨_,r1.less (λb hb=> .inl hb)⟩,(B.o.trans (j.2).unbox).trans ((hW2.trans r2).unbox)⟩
  generalize hr:y.R[l *64+s]'hi=r at *;have Hr:=aP hr;obtain⟨A,c,xs⟩:=r;simp only[sF] at c4 hlX G U;clear hr j hb3 hlen HP Q S B H1 c3 M d0;rcases Np xs x with H|⟨k,hk,H⟩
  .rw[H] at G;clear H;go_wp2_with fail
   refine aR G ?_;rintro e w4 ⟨rfl,rfl⟩;have D:aH (SE F g n w (.returned (.bool true)) T):=⟨true,rfl,⟨_,H3.o.1.less (λb hb=> .inl hb)⟩,H3.o.2⟩
   go_wp2_with fail
   go_ret
   exact D.o
  .rw[H] at G;clear H;obtain⟨q,rfl⟩:∃q,A=some ⟨q,0,none⟩:=by
    rcases U.o.shape with⟨_,h2,_⟩|h2
    .rw[h2] at hk;simp at hk
    .exact h2
   have HK:=aP hk;have k0:(0:Int)<=k:=aQ;go_wp2_with fail
   refine aR G ?_;rintro e w4 ⟨rfl,rfl⟩;clear G;go_upto_region 10 with(fail)
   have p:=bF c4;refine bS (bV _) (λ_=>bV) [] (λ_ _ _=>True) [14,19] [] 73 (cM _) (λ_ _ _ h u=>bZ h u) (λ_ d hd _ v w w' _ h u=>by cases hd) aV aV bK ?_;repeat refine fQ ?_
   refine eL ?_;intro γ w5 C hT;clear p;simp only[dG,Act.put,aaI,aaP,aaN];refine eT ?_;have Y:=aP (DI.lP q c k (xs.length - (k+1)) 0 xs w5 (U.o.keep C) (by have:=HK.o;omega) aQ);have HL:aH ((xs.eraseIdx k).length<=xs.length):=adO _ _;have HB5:=aP C;clear C hT c4 U H3;refine wpList_plain rfl (λK hK=>?_);go_wp2_with fail
   refine aR Y ?_;rintro e w6 ⟨rfl,t,Z⟩;have HR:=aP (V.o w5 w6 _ _ _ HB5.o t Z rfl HL.o);have c6:=HR.o.1.1;have f6:=HR.o.1.2;simp only[sF] at c6;have D:=aP HR.o.2;clear t Z Y V HR HL;generalize (xs.eraseIdx k).length=m at *;refine hK _ _ ?_;clear hK K;refine wpList_plain rfl (λK hK=>?_);go_simp
   refine hK _ _ ?_;clear hK K;refine cP ?_;try refine dB ?_
   go_wp2_with fail
   go_ret
   exact⟨true,rfl,D.o.1,D.o.2⟩
end
end
section
open Go.RowKit Go.Lib Go.Shelf dH Fr Up Nt
variable{F:Nat->Prop}{w:aA}{g:Nat}
section
theorem IT{a:Ka}{k:Kv}(h:bJ F w g a k)(f:k.n<=1000000)(x:Int):aG prog 216 #[.pointer a.gw,x] w λe w'=>∃b,e= .returned (.bool b)/\bJ F w' g a k/\Kp F w w':=by
 obtain⟨G,⟨y,i⟩,back⟩:=h.wh;refine(SU i f x).mono ?_;rintro e w' ⟨b,rfl,c,d⟩;exact⟨b,rfl,(back k.n _ c d).1,(back k.n _ c d).2⟩
theorem N6{a:Ka}{k:Kv}(h:bJ F w g a k):∃v:Int,(0<=v/\v<=1048576)/\∀W,aD w w W->aG prog 218 #[.pointer a.gw] W λe w'=>e= .returned (.int .i64 v)/\W=w':=by
 obtain⟨G,⟨y,b⟩,_⟩:=h.wh;exact⟨y.nw,b.i.nw,λW c=>Il (b.below c).1⟩
theorem RD{a:Ka}{k:Kv}(h:bJ F w g a k)(i:k.n+1<=1000000)(at_ b:Int)(c:0<=b/\b<4):aG prog 217 #[.pointer a.gw,at_,b] w λe w'=>∃H E:Int,e= .returned (.tuple #[H,E])/\bJ F w' g a {k with n:=k.n+1}/\Kp F w w':=by
 obtain⟨G,⟨y,j⟩,back⟩:=h.wh;refine(Ff j i at_ b c).mono ?_;rintro e w' ⟨H,E,rfl,d,f⟩;exact⟨H,E,rfl,(back (k.n+1) _ d f).1,(back (k.n+1) _ d f).2⟩
end
section
def GJ(F:Nat->Prop)(g:Nat)(k:Kv)(w:aA)(r:Ending)(w':aA):Prop:=∃(E:Int) (m:Nat),(k.n<=m/\m<=k.n+1)/\gD F g {k with n:=m} (.int .i64 E) w r w'
theorem S5{a:Ka}{k:Kv}(h:bJ F w g a k)(e:Nat)(he:e<4)(c:w.cell? (g,11+e)=some (.int .i64 0)):aG prog 171 #[.pointer g,e,aU] w (GJ F g k w):=by
 have b:aH (GJ F g k w (.returned (.int .i64 0)) w):=⟨0,k.n,⟨aaH _,ab2 _⟩,rfl,⟨a,h⟩,Kp.refl _ _⟩
 have d:(e:Int)<8:=aQ;clear h;go_enter func171,ntmps171
 go_wp2_with fail
 go_ret
 exact b.o
theorem WO{a:Ka}{k:Kv}(h:bJ F w g a k)(C:k.n+1<=1000000)(e:Nat)(he:e<4)(v:Int)(D:v≠0)(y:w.cell? (g,11+e)=some (.int .i64 0)):aG prog 171 #[.pointer g,e,v] w (GJ F g k w):=by
 have L:¬(e:Int)<0:=aQ;have M:(e:Int)<8:=aQ;have I:(v==0)=false:=by simp[D]
 have pw:=h.pw;have ps:=h.ps;unfold pA at pw ps;obtain⟨u,_,c⟩:=N6 h;have j:=aP c;obtain⟨G,hs,_⟩:=h.sd;have l:aH (∀W,aD w w W->aG prog 21 #[.pointer a.gs] W λe w'=>e= .returned (.int .i64 k.s.nw)/\W=w'):=λW J=>wK (h.below J).1.sd.choose_spec.1
 have m:aH (∀x,aG prog 217 #[.pointer a.gw, .int .i64 x,e] w.drew λr w'=>∃H E:Int,r= .returned (.tuple #[H,E])/\bJ F w' g a {k with n:=k.n+1}/\Kp F w.drew w'):=λx=>RD (h.below (Below.refl w w).drew).1 C x e aQ
 have K:aH (Kp F w w.drew):=(h.below (Below.refl w w).drew).2;clear h hs c;go_enter func171,ntmps171
 go_upto_region 6 with(fail)
 go_region_held3 (λW=>W.cell? (g,10)=some (.pointer a.gw)/\W.cell? (g,6)=some (.pointer a.gs)) (first|exact⟨pw,ps⟩|exact⟨‹_›,‹_›⟩) ((first|(go_at_call 21;(refine aS (l.o _ (Below.refl _ _).drew) ?_);rintro r z ⟨rfl,rfl⟩)|(go_at_call 218;(refine aS (j.o _ (Below.refl _ _).drew) ?_);rintro r z ⟨rfl,rfl⟩)|(go_at_call 217;(refine aS (m.o _) ?_);rintro r z ⟨H,E,rfl,d,A⟩;(have p:=d.pw);(have q:=d.ps);(unfold pA at p q);(have b:=bH d (K.o.trans A));clear d A)))
 all_goals
  by_cases f:E=0
  .have t:(E !=0)=false:=by simp[f]
   have B:=aP (b.o.1.store (11+e) aQ H);have fz:=b.o.1.fz (11+e);obtain⟨v0,hc⟩:=b.o.1.vM (i:=e) aQ;clear f y;go_wp2_with fail
   go_ret
   exact⟨0,k.n+1,⟨aQ,aQ⟩,rfl,B.o.1,b.o.2.trans B.o.2⟩
  .have t:(E !=0)=true:=by simp[f]
   clear f y;go_wp2_with fail
   go_ret
   exact⟨E,k.n+1,⟨aQ,aQ⟩,rfl,⟨a,b.o.1⟩,b.o.2⟩
end
section
theorem QV{a:Ka}{k:Kv}(h:bJ F w g a k)(q:k.n+1<=1000000)(e:Nat)(he:e<4)(x:Int)(s:x≠0)(j:w.cell? (g,11+e)=some (.int .i64 x)):aG prog 171 #[.pointer g,e,aU] w (GJ F g k w):=by
 have C:¬(e:Int)<0:=aQ;have D:(e:Int)<8:=aQ;have A:(x !=0)=true:=by simp[s]
 have pw:=h.pw;unfold pA at pw;have t:=aP h;have B:=aP q;clear h q s;go_enter func171,ntmps171
 go_upto_region 2 with(fail)
 have c:=bF pw;have f:=bF j;refine bS (bV _) (λ_=>bV) [] (λ_ _ _=>True) [10] [] 65 (cM _) (λ_ _ _ h j=>bZ h j) (λ_ d hd _ v w w' _ h j=>by cases hd) aV aV bK ?_;repeat refine fQ ?_
 refine eL ?_;intro γ w5 hb5 hT;clear c f;simp only[dG,Act.put,aaI,aaP,aaN];refine eT ?_;have m:=t.o.below hb5;have HD:=aP (IT m.1 (by have:=B.o;omega) x);have u:=aP m.2;clear m hb5 hT t pw j;refine wpList_plain rfl (λK hK=>?_);go_wp2_with fail
 refine aR HD ?_;rintro r E ⟨b,rfl,l,y⟩;have f6:=l.fz (11+e);obtain⟨v6,c6⟩:=l.vM (i:=e) aQ;have z:=aP (l.store (11+e) aQ 0);have p:=aP (u.o.trans y);clear l y HD u;refine hK _ _ ?_;clear hK K;refine cP ?_;try refine dB ?_
 go_wp2_with fail
 go_ret
 exact⟨0,k.n,⟨aaH _,ab2 _⟩,rfl,z.o.1,p.o.trans z.o.2⟩
end
section
theorem Q3{a:Ka}{k:Kv}(h:bJ F w g a k)(R:k.n+1<=1000000)(e:Nat)(he:e<4)(x:Int)(S:x≠0)(v:Int)(Z:v≠0)(t:w.cell? (g,11+e)=some (.int .i64 x)):aG prog 171 #[.pointer g,e,v] w (GJ F g k w):=by
 have e0:¬(e:Int)<0:=aQ;have e8:(e:Int)<8:=aQ;have a1:(x !=0)=true:=by simp[S]
 have a6:(v==0)=false:=by simp[Z]
 have pw:=h.pw;unfold pA at pw;have T:=aP h;have U:=aP R;clear h R S;go_enter func171,ntmps171
 go_upto_region 2 with(fail)
 have j:=bF pw;have l:=bF t;refine bS (bV _) (λ_=>bV) [] (λ_ _ _=>True) [10] [] 65 (cM _) (λ_ _ _ h t=>bZ h t) (λ_ d hd _ v w w' _ h t=>by cases hd) aV aV bK ?_;repeat refine fQ ?_
 refine eL ?_;intro γ w5 hb5 hT;clear j l;simp only[dG,Act.put,aaI,aaP,aaN];refine eT ?_;have J:=T.o.below hb5;have HD:=aP (IT J.1 (by have:=U.o;omega) x);have B:=aP J.2;clear J hb5 hT T pw t;refine wpList_plain rfl (λK hK=>?_);go_wp2_with fail
 refine aR HD ?_;rintro r w6 ⟨b,rfl,C,V⟩;have f6:=C.fz (11+e);obtain⟨v6,c6⟩:=C.vM (i:=e) aQ;have m:=aP (C.store (11+e) aQ 0);have c:=aP (B.o.trans V);clear C V HD B;refine hK _ _ ?_;clear hK K;refine cP ?_;try refine dB ?_
 have y:=aP (c.o.trans m.o.2);have z:=aP m.o.1;clear m;go_upto_region 6 with(fail)
 clear c6 f6 c;generalize w6.setCell (g,11+e) (.int .i64 0)=f at *;obtain⟨p,h⟩:=z.o;have c:=y;have pw:=h.pw;have ps:=h.ps;unfold pA at pw ps;clear z y;obtain⟨u,_,A⟩:=N6 h;have L:=aP A;obtain⟨G,hs,_⟩:=h.sd;have M:aH (∀W,aD f f W->aG prog 21 #[.pointer p.gs] W λe w'=>e= .returned (.int .i64 k.s.nw)/\W=w'):=λW hW=>wK (h.below hW).1.sd.choose_spec.1
 have N:aH (∀x,aG prog 217 #[.pointer p.gw, .int .i64 x,e] f.drew λr w'=>∃H E:Int,r= .returned (.tuple #[H,E])/\bJ F w' g p {k with n:=k.n+1}/\Kp F f.drew w'):=λx=>RD (h.below (Below.refl f f).drew).1 U.o x e aQ
 have B:aH (Kp F f f.drew):=(h.below (Below.refl f f).drew).2;clear h hs A;go_region_held3 (λW=>W.cell? (g,10)=some (.pointer p.gw)/\W.cell? (g,6)=some (.pointer p.gs)) (first|exact⟨pw,ps⟩|exact⟨‹_›,‹_›⟩) ((first|(go_at_call 21;(refine aS (M.o _ (Below.refl _ _).drew) ?_);rintro r X ⟨rfl,rfl⟩)|(go_at_call 218;(refine aS (L.o _ (Below.refl _ _).drew) ?_);rintro r X ⟨rfl,rfl⟩)|(go_at_call 217;(refine aS (N.o _) ?_);rintro r X ⟨H,E,rfl,D,Y⟩;(have O:=D.pw);(have P:=D.ps);(unfold pA at O P);(have q:=bH D (B.o.trans Y));clear D Y)))
 all_goals
  by_cases I:E=0
  .have Q:(E !=0)=false:=by simp[I]
   have m:=aP (q.o.1.store (11+e) aQ H);have fz:=q.o.1.fz (11+e);obtain⟨v0,hc⟩:=q.o.1.vM (i:=e) aQ;clear I;go_wp2_with fail
   go_ret
   exact⟨0,k.n+1,⟨aQ,aQ⟩,rfl,m.o.1,c.o.trans (q.o.2.trans m.o.2)⟩
  .have Q:(E !=0)=true:=by simp[I]
   clear I;go_wp2_with fail
   go_ret
   exact⟨E,k.n+1,⟨aQ,aQ⟩,rfl,⟨p,q.o.1⟩,c.o.trans q.o.2⟩
end
section
theorem WL{a:Ka}{k:Kv}(h:bJ F w g a k)(d:k.n+1<=1000000)(e:Nat)(he:e<4)(v:Int):aG prog 171 #[.pointer g,e,v] w (GJ F g k w):=by
 obtain⟨x,c⟩:=h.vM (i:=e) aQ;by_cases f:x=0
 .subst f;by_cases b:v=0
  .subst b;exact S5 h e he c
  .exact WO h d e he v b c
 .by_cases b:v=0
  .subst b;exact QV h d e he x f c
  .exact Q3 h d e he x f v b c
end
section
theorem S6{a:Ka}{k:Kv}(h:bJ F w g a k)(e:Int)(he:0<=e/\e<8):aG prog 219 #[.pointer a.gr,e] w λx w'=>∃(y:Up) (r:Int),x= .returned (.tuple #[.agg #[y.kind,y.a, .int .u64 y.b],r])/\bJ F w' g a k/\Kp F w w':=by
 obtain⟨G,f,back⟩:=h.rw;refine(WZ f e he).mono ?_;rintro x w' ⟨y,r,rfl,c,d⟩;exact⟨y,r,rfl,(back _ c d).1,(back _ c d).2⟩
theorem Y4{a:Ka}{k:Kv}(h:bJ F w g a k)(e:Int)(he:0<=e/\e<8):aG prog 173 #[.pointer g,e] w λr w'=>∃N E:Int,(0<=N/\N<18446744073709551616)/\r= .returned (.tuple #[.int .u64 N,E])/\bJ F w' g a k/\Kp F w w':=by
 have pr:=h.pr;unfold pA at pr;have q:=aP (S6 h e he);clear h he;go_enter func173,ntmps173
 go_wp2_with fail
 refine aR q ?_;rintro r i ⟨y,E,rfl,m,p⟩;obtain⟨c,d,f⟩:=y;have b:=aX i (aI #[c,d, .int .u64 f] 248);have yb:=bC.new i 248 #[c,d, .int .u64 f];have j:aH (bJ F (i.alloc (aI #[c,d, .int .u64 f] 248)) g a k/\Kp F w (i.alloc (aI #[c,d, .int .u64 f] 248))):=⟨(m.below b).1,p.trans (m.below b).2⟩
 clear m p b;have s:=yb.cell 0 c rfl;have t:=yb.cell 1 d rfl;have u:=yb.cell 2 (.int .u64 f) rfl;by_cases l:E=0
 .have n:(E !=0)=false:=by simp[l]
  clear l;go_wp2_with fail
  go_ret2
  refine⟨_,_,?_,rfl,j.o.1,j.o.2⟩;unfold bits;rw[IntKind.wrap_u64];omega
 .have n:(E !=0)=true:=by simp[l]
  clear l;go_wp2_with fail
  go_ret2
  exact⟨0,E,aQ,rfl,j.o.1,j.o.2⟩
end
end
section
open Go.RowKit
namespace Pa
def jN(op:Int)(i:Nat):Bool:=
 match i with
 |0=>op==1 || op==2 || op==6 || op==9 || op==10 || op==11 || op==12 || op==14 || op==3 || op==13 || op==17 || op==4 || op==5 || op==7 || op==8
 |1=>op==3 || op==13 || op==17 || op==4 || op==5 || op==7 || op==8
 |2=>op==4 || op==5 || op==7 || op==8 || op==15
 |_=>op==8 || op==15
def kT(n:Int)(had:Bool)(wI:Int):Bool:=if had then decide (0<=n/\n<=wI) else n==0
def dI(op a b c d:Int):Bool:=decide (0<=op/\op<=19)&&kT a (jN op 0) 255&&kT b (jN op 1) 255&&kT c (jN op 2) 1048575&&kT d (jN op 3) 1048575
theorem yB(n:Int)(a:Bool)(wI:Int)(w:aA):aG prog 205 #[n,a,wI] w λe w'=>e= .returned (.bool (kT n a wI))/\w=w':=by
 cases a
 .go_enter func205,ntmps205
  go_wp2
  go_ret
  exact⟨rfl,rfl⟩
 .go_enter func205,ntmps205
  go_wp2
  all_goals go_ret
  all_goals refine⟨iO ?_,rfl⟩
  all_goals unfold kT
  all_goals simp
  all_goals omega
theorem oK(op:Int)(w:aA)(a:0<=op)(h1:op<=19):aG prog 204 #[op] w λe w'=>e= .returned (.tuple #[.bool (jN op 0), .bool (jN op 1), .bool (jN op 2), .bool (jN op 3)])/\w=w':=by
 obtain⟨n,rfl⟩:=aaO a;have b:n<=19:=aQ;clear a h1;rcases(show n=0\/n=1\/n=2\/n=3\/n=4\/n=5\/n=6\/n=7\/n=8\/n=9\/n=10\/n=11\/n=12\/n=13\/n=14\/n=15\/n=16\/n=17\/n=18\/n=19 by omega) with rfl|rfl|rfl|rfl|rfl|rfl|rfl|rfl|rfl|rfl|rfl|rfl|rfl|rfl|rfl|rfl|rfl|rfl|rfl|rfl
 all_goals
  clear b;go_enter func204,ntmps204
  go_wp2
  exact bodyPost_ret (v:= .tuple #[_,_,_,_]) (by simp[results,results204,go_sem];exact⟨rfl,rfl,rfl,rfl⟩) rfl ⟨rfl,rfl⟩
theorem dY(op a b c d:Int)(w:aA):aG prog 162 #[.agg #[op,a,b,c,d]] w λe w'=>e= .returned (.bool (dI op a b c d))/\aD w w w':=by
 by_cases f:0<=op/\op<=19
 .obtain⟨f,h1⟩:=f;have h:=aP (λW=>oK op W f h1);have g:dI op a b c d=(kT a (jN op 0) 255&&kT b (jN op 1) 255&&kT c (jN op 2) 1048575&&kT d (jN op 3) 1048575):=by unfold dI;simp[f,h1]
  rw[g];clear g;have i:=aP (λW=>yB a (jN op 0) 255 W);have j:=aP (λW=>yB b (jN op 1) 255 W);have k:=aP (λW=>yB c (jN op 2) 1048575 W);have l:=aP (λW=>yB d (jN op 3) 1048575 W);generalize kT a (jN op 0) 255=m at *;generalize kT b (jN op 1) 255=q1 at *;generalize kT c (jN op 2) 1048575=n at *;generalize kT d (jN op 3) 1048575=q3 at *;generalize jN op 0=p0 at *;generalize jN op 1=p1 at *;generalize jN op 2=p2 at *;generalize jN op 3=p3 at *;cases m <;> cases q1 <;> cases n
  all_goals
   go_enter func162,ntmps162
   go_wp2_with(first|(go_at_call 204;(with_reducible refine(h.o _).mono ?_);rintro e p ⟨rfl,rfl⟩)|(go_at_call 205;(first|(with_reducible refine(i.o _).mono ?_)|(with_reducible refine(j.o _).mono ?_)|(with_reducible refine(k.o _).mono ?_)|(with_reducible refine(l.o _).mono ?_));rintro e p ⟨rfl,rfl⟩))
   go_ret
   exact⟨aT,aX _ _⟩
 .have g:dI op a b c d=false:=by unfold dI;simp[f]
  rw[g];clear g;by_cases h1:op<0
  .go_enter func162,ntmps162
   go_wp2
   go_ret
   exact⟨rfl,aX _ _⟩
  .have q:19<op:=aQ;clear f;go_enter func162,ntmps162
   go_wp2
   go_ret
   exact⟨rfl,aX _ _⟩
end Pa
namespace Pa
def BK:List Fl:= [⟨0,8⟩,⟨8,8⟩,⟨16,8⟩,⟨24,20⟩,⟨44,20⟩]
theorem YZ(x:Nat)(a:x<18446744073709551616):BK.map (xL · (x:Int))= [((x%256:Nat):Int),((x /256%256:Nat):Int),((x /65536%256:Nat):Int),((x /16777216%1048576:Nat):Int),((x /17592186044416:Nat):Int)]:=by
 simp[BK,xL,KF,BZ,SL.Q7];omega
end Pa
section
namespace Pa
def FM(a b c d:Int)(i:Nat):Int:=match i with|0=>a|1=>b|2=>c|_=>d
def GL(i:Nat):Int:=if i<=1 then 255 else 1048575
def QI(op a b c d:Int)(i:Nat):Bool:=kT (FM a b c d i) (jN op i) (GL i)
variable{op:Int}
theorem VP{a b c d:Int}(h:0<=op/\op<=19)(hk:∀i,i<4->QI op a b c d i=true):dI op a b c d=true:=by
 have e:=hk 0 aQ;have h1:=hk 1 aQ;have f:=hk 2 aQ;have g:=hk 3 aQ;simp only[QI,FM,GL] at e h1 f g;unfold dI;simp at e h1 f g⊢;simp[h,e,h1,f,g]
theorem XG{a b c d:Int}(i:Nat)(hi:i<4)(hk:QI op a b c d i=false):dI op a b c d=false:=by
 unfold dI;rcases(show i=0\/i=1\/i=2\/i=3 by omega) with rfl|rfl|rfl|rfl
 all_goals
  simp only[QI,FM,GL] at hk;simp at hk;simp[hk]
end Pa
end
section
namespace Pa
variable{sz:Nat}
theorem _root_.Go.Proofs.YtacgiflhgdaeaaaGreat.Sl.lit{α:Type}{enc:α->List aC}(he:eY enc sz)(w:aA)(xs:List α)(cs:Array aC)(a:cs.toList=xs.flatMap enc)(t:TypeId):Sl enc sz (w.alloc (.cells cs t)) (some ⟨w.heap.size,0,none⟩) xs:=λ_=>by
 refine⟨w.heap.size,0,rfl,λi x j u b hu=>?_⟩;have c:j<sz:=by rw[<-he.len x];exact(aaX.1 hu).1
 have h1:=cell_of_row (w.alloc (.cells cs t)) w (i *sz+j) cs t (0,0) (heap_alloc_new w _);rw[abQ,h1,<-abG,a,jG he.len xs i x j b c,hu]
def K4:Array aC:=#[aU, .int .i64 8, .int .i64 8, .int .i64 8, .int .i64 16, .int .i64 8, .int .i64 24, .int .i64 20, .int .i64 44, .int .i64 20]
theorem Dv(w:aA):aG prog 161 #[] w λe w'=>e= .returned (.slice w.heap.size 5 5)/\w'=w.alloc (.cells K4 384):=by
 go_enter func161,ntmps161
 go_wp2
 go_ret
 exact⟨rfl,rfl⟩
end Pa
end
namespace Pa
theorem zW(w:aA)(g:Nat)(v0 v1 v2 v3 v4:aC):w.grownBy (((((w.setCell (g,0) (v0)).setCell (g,1) (v1)).setCell (g,2) (v2)).setCell (g,3) (v3)).setCell (g,4) (v4)) (some g):=
 aY (aY (aY (aY (aY (bE w g) 0 v0) 1 v1) 2 v2) 3 v3) 4 v4
theorem Dw(x n0 n1 c f j:Nat)(w:aA)(R:x<18446744073709551616)(G:BK.map (xL · (x:Int))= [(n0:Int),(n1:Int),(c:Int),(f:Int),(j:Int)])(hs:n0<1000000000/\n1<1000000000/\c<1000000000/\f<1000000000/\j<1000000000)(q:Bool)(hq:dI n0 n1 c f j=q):
 aG prog 118 #[.int .u64 x] w λe w'=>e= .returned (if q then .tuple #[.agg #[n0,n1,c,f,j],aU] else .tuple #[.agg #[aU,aU,aU,aU,aU], .int .i64 21])/\aD w w w':=by
 have S:IntKind.i64.wrap (n0:Int)=n0:=by rw[IntKind.wrap_i64];omega
 have T:IntKind.i64.wrap (n1:Int)=n1:=by rw[IntKind.wrap_i64];omega
 have U:IntKind.i64.wrap (c:Int)=c:=by rw[IntKind.wrap_i64];omega
 have V:IntKind.i64.wrap (f:Int)=f:=by rw[IntKind.wrap_i64];omega
 have X:IntKind.i64.wrap (j:Int)=j:=by rw[IntKind.wrap_i64];omega
 have H:=aP (λW=>dY n0 n1 c f j W);rw[hq] at H;have P:aH (∀(W:aA) (A:Option aJ),Sl eF 2 W A BK->aG prog 160 #[.slice A 5 5, .int .u64 (x:Int)] W (Ml eU 1 75 [(n0:Int),(n1:Int),(c:Int),(f:Int),(j:Int)] W)):=λW A h=>by rw[<-G];exact Ec A BK x 5 W h cD aQ aQ
 clear G;have l:=aX w (aI #[aU,aU,aU,aU,aU] 281);have bk:=bC.new w 281 #[aU,aU,aU,aU,aU];go_enter func118,ntmps118
 go_wp2_with fail
 refine(Dv _).mono ?_;rintro e Y ⟨rfl,rfl⟩;have b:=Sl.lit Vs (w.alloc (aI #[aU,aU,aU,aU,aU] 281)) BK K4 rfl 384;generalize w.alloc (aI #[aU,aU,aU,aU,aU] 281)=wa at *;replace l:=l.alloc l.size (aI K4 384);replace bk:=bk.alloc (aI K4 384);go_wp2_with fail
 refine(P.o _ _ b).mono ?_;rintro e Z ⟨A,k,rfl,own,t⟩;replace bk:=bk.keep t;replace l:=dQ l aT t;clear t b;rcases own.shape with⟨_,y,_⟩|⟨g,rfl⟩
 .cases y
 have b:=own.sl LG;have c0:=b.Ab (i:=0) aT;have c1:=b.Ab (i:=1) aT;have c2:=b.Ab (i:=2) aT;have c3:=b.Ab (i:=3) aT;have c4:=b.Ab (i:=4) aT;simp only[adB,ac4,abQ] at c0 c1 c2 c3 c4;clear b own;go_wp2_with fail
 have m:=bF c0;have n:=bF c1;have p:=bF c2;have r:=bF c3;have s:=bF c4;refine bS (bV _) (λ_=>bV) [5] (λ_ v w=>lS (lF c0) 281 #[aU,aU,aU,aU,aU] v w) [22] [] 35 (cM _) (λ_ _ _ h C=>bZ h C) (λ_ d hd _ v w w' _ h C=>h.keep C) aV aV bK ?_;repeat (first|(refine fQ ?_)|(refine JT 5 [] bK bK bK bK (λγ w hC D=>?_) ?_;(simp only[dG];go_simp;exact DD (aX w _) ⟨_,rfl,Below.size hC,bC.new w _ _⟩);(try refine dB ?_)))
 refine eL ?_;intro γ w_ hb_ D;clear m n p r s;simp only[dG,Act.put,aaI,aaP,aaN];refine eT ?_;obtain⟨g5,I,z,B⟩:=D 5 aT;simp only[I];clear D I;refine aaB z hb_ B rfl 281 _ _ rfl #[n0,n1,c,f,j] rfl rfl rfl aV aV ?_;clear z hb_ B;intro w3 u E;refine cP ?_;simp only[Act.put];obtain⟨Q,a⟩:=E;replace bk:=bk.keep u;replace l:=dQ l aT u;have J:=a.cell 0 n0 rfl;have K:=a.cell 1 n1 rfl;have L:=a.cell 2 c rfl;have M:=a.cell 3 f rfl;have N:=a.cell 4 j rfl;clear u;go_wp2_with fail
 refine(H.o _).mono ?_;rintro e O ⟨rfl,t⟩;replace bk:=bk.keep t;replace a:=a.keep t;replace l:=dQ l aT t;clear t J K L M N;have J:=a.cell 0 n0 rfl;have K:=a.cell 1 n1 rfl;have L:=a.cell 2 c rfl;have M:=a.cell 3 f rfl;have N:=a.cell 4 j rfl;have z0:=bk.cell 0 (.int .i64 0) rfl;have z1:=bk.cell 1 (.int .i64 0) rfl;have z2:=bk.cell 2 (.int .i64 0) rfl;have z3:=bk.cell 3 (.int .i64 0) rfl;have z4:=bk.cell 4 (.int .i64 0) rfl;have f0:=bk.frozen 0;have f1:=bk.frozen 1;have f2:=bk.frozen 2;have f3:=bk.frozen 3;have f4:=bk.frozen 4;cases q
 .go_wp2
  have F:=l.grown (zW O w (.int .i64 0) (.int .i64 0) (.int .i64 0) (.int .i64 0) (.int .i64 0)) l.size (λk hk=>by injection hk with hk;omega);exact bodyPost_ret (v:= .tuple #[.agg #[aU,aU,aU,aU,aU], .int .i64 21]) (by simp[results,results118,go_sem, *]) rfl ⟨rfl,F⟩
 .go_wp2
  have F:=l.grown (zW O w (.int .i64 n0) (.int .i64 n1) (.int .i64 c) (.int .i64 f) (.int .i64 j)) l.size (λk hk=>by injection hk with hk;omega);exact bodyPost_ret (v:= .tuple #[.agg #[n0,n1,c,f,j],aU]) (by simp[results,results118,go_sem, *]) rfl ⟨rfl,F⟩
end Pa
end
end Go.Proofs.YtacgiflhgdaeaaaGreat
