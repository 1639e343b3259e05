/- Texts laid as one. -/
import Derived.Laws.CopyOwn
import Derived.Deep.DeepCutAuto
import Derived.Deep.CutBlock
import Derived.Test.YtacgiflhgdaeaaaGreatZ3
import Derived.Test.YtacgiflhgdaeaaaGreatZ5
import Derived.Test.YtacgiflhgdaeaaaGreatZ7
import Derived.Test.YtacgiflhgdaeaaaGreatZ15
set_option linter.unusedVariables false
set_option linter.unusedSimpArgs false
set_option maxRecDepth 100000
set_option maxHeartbeats 20000000
namespace Go.Proofs.YtacgiflhgdaeaaaGreat
open Go.Proofs.Tryz
open Go renaming World->aA,Value->aC,Addr->aJ,TypeId->aN,Calls->aG
open Go.RowKit renaming Below->aD,Hid->aH,intOf->aL
open Go.Obj renaming cells->aI
section
open Go.RowKit Go.Lib
section
namespace Nt
structure Vc where
 vF:List Int
 vS:Nat
def mH(v:Vc):List aC:=v.vF.map (Value.int .i64 ·)++ [.int .i64 v.vS]
def AH(A:Option aJ)(n c:Nat)(VS:List Vc):List aC:= .slice A n c::VS.flatMap mH
structure Bd(w:aA)(g:Nat)(A:Option aJ)(c:Nat)(L:List Nt)(VS:List Vc):Prop where
 b:bC w g 179 (AH A L.length c VS).toArray
 o:bB iX 3 w (g+1) 96 A c L
 v8:VS.length=8
 ok:∀v∈VS,v.vF.length=16/\v.vS<=16
variable{A':Option aJ}{c':Nat}{T:List Nt}{w1:aA}
section
variable{g c:Nat}{w w' w'':aA}{A:Option aJ}{L:List Nt}{VS:List Vc}
theorem Bd.lt(h:Bd w g A c L VS):g<w.heap.size:=h.b.lt
theorem Bd.keep(h:Bd w g A c L VS)(a:aD w w w'):Bd w' g A c L VS:=⟨h.b.keep a,h.o.keep a,h.v8,h.ok⟩
theorem Bd.c0(h:Bd w g A c L VS):w.cell? (g,0)=some (.slice A L.length c):=h.b.cell 0 _ (by simp[AH])
theorem Bd.ne(h:Bd w g A c L VS):∀q,aZ A=some q->q≠g:=λq hq=>by
 have:=(h.o.lt q hq).1;omega
theorem Bd.store(a:bC w1 g 179 (AH A L.length c VS).toArray)(ho:bB iX 3 w1 (g+1) 96 A' c' T)(d:VS.length=8)(b:∀v∈VS,v.vF.length=16/\v.vS<=16):Bd (w1.setCell (g,0) (.slice A' T.length c')) g A' c' T VS:=by
 refine⟨?_,ho.kept (aY (bE w1 g) 0 _) ?_,d,b⟩
 .have:=a.bQ 0 (.slice A' T.length c');simpa[AH] using this
 .cases a:aZ A' with
  |none=>exact .inl rfl
  |some q=>right;intro e;injection e with e;have:=(ho.lt q a).1;omega
end
variable{g:Nat}{A:Option aJ}{VS:List Vc}
theorem zO{c:Nat}{L:List Nt}(env a:Int)(w:aA)(h:Bd w g A c L VS)(d:L.length<=1000):
 aG prog 143 #[.pointer g,env,a] w λe w'=>e= .returned (.int .i64 (rA L env a))/\aD w w w':=by
 have b:aD w w ((w.alloc (aI #[env] 3)).alloc (aI #[a] 3)):=(aX _ _).alloc aT _;have b1:=(bC.new w 3 #[env]).alloc (aI #[a] 3);have b2:=bC.gK (w.alloc (aI #[env] 3)) 3 #[a] (g:=w.heap.size+1) aT;have h1:=h.keep b;have c0:=h1.c0;have f:=aP (nD A L c env a w (w.heap.size+1) _ (h1.o.sl iZ) d (b1.cell 0 _ rfl) (b2.cell 0 _ rfl));clear h h1 b1 b2;go_enter func143,ntmps143
 go_wp2_with fail
 refine aR f ?_;rintro e j ⟨rfl,i⟩;go_wp2_with fail
 go_ret
 exact⟨rfl,dQ b (aaH _) i⟩
def zM(e f n k:Int):Prop:=(0<=e/\e<8)/\(0<=f/\f<32)/\(0<=n/\n<=1048576)/\(1<=k/\k<=65536)
instance (e f n k:Int):Decidable (zM e f n k):=by unfold zM;infer_instance
theorem Gb(env a now k:Int)(w:aA)(h:¬zM env a now k):
 aG prog 105 #[.pointer g,env,a,now,k] w λe w'=>e= .returned (.int .i64 1)/\w=w':=by
 have b:=aP h;clear h;by_cases d:env<0
 .go_enter func105,ntmps105
  go_wp2_with fail
  go_ret
  exact⟨rfl,rfl⟩
 by_cases f:8<=env
 .go_enter func105,ntmps105
  go_wp2_with fail
  go_ret
  exact⟨rfl,rfl⟩
 by_cases i:a<0
 .go_enter func105,ntmps105
  go_wp2_with fail
  go_ret
  exact⟨rfl,rfl⟩
 by_cases j:32<=a
 .go_enter func105,ntmps105
  go_wp2_with fail
  go_ret
  exact⟨rfl,rfl⟩
 by_cases l:now<0
 .go_enter func105,ntmps105
  go_wp2_with fail
  go_ret
  exact⟨rfl,rfl⟩
 by_cases m:1048576<now
 .go_enter func105,ntmps105
  go_wp2_with fail
  go_ret
  exact⟨rfl,rfl⟩
 by_cases n:k<1
 .go_enter func105,ntmps105
  go_wp2_with fail
  go_ret
  exact⟨rfl,rfl⟩
 by_cases p:65536<k
 .go_enter func105,ntmps105
  go_wp2_with fail
  go_ret
  exact⟨rfl,rfl⟩
 exact absurd (by unfold zM;omega) b.o
end Nt
end
namespace Nt
def dM(v:Vc)(x:Int):Vc:=if v.vS=16 then⟨v.vF.tail++ [x],16⟩ else⟨v.vF.set v.vS x,v.vS+1⟩
structure VB(w:aA)(g o:Nat)(t:aN)(pre post:List aC)(v:Vc):Prop where
 b:bC w g t (pre++mH v++post).toArray
 p:pre.length=o
 l:v.vF.length=16
 s:v.vS<=16
variable{i n:Nat}
section
variable{w w':aA}{g o:Nat}{t:aN}{pre post:List aC}{v:Vc}
theorem VB.size(h:VB w g o t pre post v):w.cell? (g,o+16)=some (.int .i64 v.vS):=by
 refine h.b.cell (o+16) _ ?_;have:=h.p;have:=h.l;rw[aaY,abA,aaS aQ,show o+16 - pre.length=16 by omega];unfold mH;rw[abA,aaS bL];simp[this]
theorem VB.fr(h:VB w g o t pre post v)(hi:i<16):w.cell? (g,o+i)=some (.int .i64 (v.vF.getD i 0)):=by
 refine h.b.cell (o+i) _ ?_;have:=h.p;have:=h.l;rw[aaY,abA,aaS aQ,show o+i - pre.length=i by omega];unfold mH;rw[abA,abC bL];simp[this,hi]
theorem VB.Qm(h:VB w g o t pre post v)(hi:i<16)(x:Int):VB (w.setCell (g,o+i) x) g o t pre post ⟨v.vF.set i x,v.vS⟩:=by
 have h1:=h.p;have a:=h.l;refine⟨?_,h1,by simp[a],h.s⟩;have:=h.b.bQ (o+i) (.int .i64 x);rw[aaI,abA,aa6 _ _ aQ,show o+i - pre.length=i by omega] at this;unfold mH at this⊢;rw[abA,ac9 _ _ bL,<-abA,<-abA,<-ab1] at this;simpa[abA] using this
theorem VB.CY(h:VB w g o t pre post v)(c:n<=16):VB (w.setCell (g,o+16) n) g o t pre post ⟨v.vF,n⟩:=by
 have h1:=h.p;have a:=h.l;refine⟨?_,h1,a,c⟩;have:=h.b.bQ (o+16) (.int .i64 n);rw[aaI,abA,aa6 _ _ aQ,show o+16 - pre.length=16 by omega] at this;unfold mH at this⊢;rw[abA,aa6 _ _ bL] at this;simpa[abA,a] using this
theorem VB.lt(h:VB w g o t pre post v):g<w.heap.size:=h.b.lt
theorem VB.drewN(h:VB w g o t pre post v)(n:Nat):VB (w.drewN n) g o t pre post v:=⟨h.b.drewN n,h.p,h.l,h.s⟩
theorem VB.fz(h:VB w g o t pre post v)(i:Nat):w.frozen? (g,i)=false:=h.b.frozen i
end
theorem Gg(g o:Nat)(t:aN)(pre post:List aC)(v:Vc)(x:Int)(w:aA)(h:VB w g o t pre post v)(hs:v.vS<16):
 aG prog 148 #[.pointer (some ⟨g,o,none⟩),x] w λe w'=>e= .returned (.tuple #[])/\VB w' g o t pre post ⟨v.vF.set v.vS x,v.vS+1⟩/\w.grownBy w' (some g):=by
 have c0:=h.size;obtain⟨n,i⟩:∃n,v.vS=n:=⟨_,rfl⟩
 rw[i] at c0 hs⊢;have c:=aP h;have q:=aP i;clear h i;go_enter func148,ntmps148
 go_upto_region 3 with(fail)
 have j:aH (∀z,(w.drewN z).there g (o+n) 1):=λz=>bC.one (c.o.drewN z).b (by have h1:=c.o.p;have r:=c.o.l;simp[mH];omega)
 refine jC [9] 41 aV aV bK ?_;repeat refine CH ?_
 refine yN ?_;intro nd;refine eT ?_;refine dU _ rfl 3 (.tmp 33) (.tmp 30) rfl g (o+n) (.int .i64 x) rfl rfl aV rfl (j.o nd) ?_;refine cP ?_;simp only[Act.put];refine rC (F:=Exit.then _ _ _ _) (λW=>VB W g o t pre post ⟨v.vF.set n x,v.vS⟩/\w.grownBy W (some g)) ⟨(c.o.drewN nd).Qm hs x,aY (CU (bE w g) nd) _ _⟩ ?_;rintro s ⟨a,d⟩;have d0:=a.size;have f0:=a.fz (o+16);have f:=q.o;simp only[f] at d0;have k:((n+1:Nat):Int)=(n:Int)+1:=aQ;have m:=aP (And.intro (a.CY (n:=n+1) aQ) (aY d (o+16) (.int .i64 ((n+1:Nat):Int))));rw[k] at m;clear j c c0 a d f k;go_wp2_with fail
 go_end0
 exact⟨rfl,m.o⟩
theorem Ad(pre post:List aC)(v:Vc)(o:Nat)(hp:pre.length=o)(a:v.vF.length=16):
 ((pre++mH v++post).take o++(v.vF.tail.map (Value.int .i64 ·)++(pre++mH v++post).drop (o+15)))=pre++mH ⟨v.vF.tail++ [v.vF.getD 15 0],v.vS⟩++post:=by
 subst hp;have b:pre++mH v++post=pre++(mH v++post):=abA _ _ _;have c:(pre++(mH v++post)).take pre.length=pre:=List.take_left;have d:(pre++(mH v++post)).drop (pre.length+15)=(mH v++post).drop 15:=by rw[<-ad7,List.drop_left]
 have e:v.vF.drop 15= [v.vF.getD 15 0]:=by
  rw[acG aQ,aeG aQ];simp[a]
 have f:(mH v++post).drop 15= [.int .i64 (v.vF.getD 15 0), .int .i64 v.vS]++post:=by
  unfold mH;rw[aeA bL,aeA bL,<-List.map_drop,e];rfl
 rw[b,c,d,f];unfold mH;simp
theorem Hu(g o:Nat)(t:aN)(pre post:List aC)(v:Vc)(x:Int)(w:aA)(h:VB w g o t pre post v)(hs:v.vS=16):
 aG prog 148 #[.pointer (some ⟨g,o,none⟩),x] w λe w'=>e= .returned (.tuple #[])/\VB w' g o t pre post ⟨v.vF.tail++ [x],16⟩/\w.grownBy w' (some g):=by
 have c0:=h.size;rw[hs] at c0;have a:=aP h;have I:=aP hs;clear h hs;go_enter func148,ntmps148
 go_upto_region 1 with(fail)
 refine jC [8] 41 aV aV bK ?_;repeat refine CH ?_
 refine yN ?_;intro nd;refine eT ?_;have f:aH ((v.vF.tail.map (Value.int .i64 ·)).length=15):=by unfold aH;simp[a.o.l]
 refine wpList_copy_own rfl (.tmp 12) (.tmp 16) 35 35 rfl 3 underlying35 aV g o 16 16 ⟨g,o+1,none⟩ 15 15 rfl rfl (pre++mH v++post).toArray t (a.o.drewN nd).b (v.vF.tail.map (Value.int .i64 ·)) (by rw[f.o];rfl) (λj u hu=>?_) (by have h1:=a.o.p;have D:=a.o.l;rw[f.o];simp[mH];omega) (λu hu=>by obtain⟨z,_,rfl⟩:=ac1.1 hu;rfl) ?_
 .have K:j<15:=by rw[<-f.o];exact(aaX.1 hu).1
  have D:=a.o.l;rw[ab7,List.getElem?_tail,aaG aQ] at hu;injection hu with hu;have:=(a.o.drewN nd).fr (i:=j+1) aQ;rw[Addr.add_lit,<-hu];rw[show o+1+j=o+(j+1) by omega,this];simp[aaG (show j+1<v.vF.length by omega)]
 refine cP ?_;rw[f.o];have E:=aP (Ad pre post v o a.o.p a.o.l);simp only[List.toList_toArray];rw[E.o];refine rC (F:=Exit.then _ _ _ _) (λW=>VB W g o t pre post ⟨v.vF.tail++ [v.vF.getD 15 0],v.vS⟩/\w.grownBy W (some g)) ⟨⟨?_,a.o.p,by have:=a.o.l;simp;omega,a.o.s⟩,?_⟩ ?_
 .exact setRow_heap (w.drewN nd) g _ _ t _ (a.o.drewN nd).b
 .have h:=CU (bE w g) nd;exact⟨h.os,h.tape,h.output,by simp[World.setRow,World.drewN],λi hi q=>(setRow_other _ g i _ (λe=>q (by rw[e]))).trans (h.block i hi q)⟩
 rintro L ⟨m,r⟩;have d0:=m.size;have f0:=m.fz (o+16);have y:=I.o;simp only[y] at d0;have c:=m.CY (n:=15) aQ;have k:=aY r (o+16) (.int .i64 ((15:Nat):Int));have C:=bH c k;clear m r c k a E f c0;simp only[Act.put];go_upto_region 3 with(fail)
 refine rC (F:=Code.wp _ _ _ _) (λW=>VB W g o t pre post ⟨v.vF.tail++ [v.vF.getD 15 0],15⟩/\w.grownBy W (some g)) C.o ?_;rintro J ⟨c,k⟩;clear d0 f0 y C;have c0:=c.size;have a:=bH c k;have G:aH (∀z,(J.drewN z).there g (o+15) 1):=λz=>bC.one (a.o.1.drewN z).b (by have h1:=a.o.1.p;have D:=a.o.1.l;simp[mH] at D⊢;omega)
 clear c k;refine jC [9] 41 aV aV bK ?_;repeat refine CH ?_
 refine yN ?_;intro nd;refine eT ?_;refine dU _ rfl 3 (.tmp 33) (.tmp 30) rfl g (o+15) (.int .i64 x) rfl rfl aV rfl (G.o nd) ?_;refine cP ?_;simp only[Act.put];refine rC (F:=Exit.then _ _ _ _) (λW=>VB W g o t pre post ⟨(v.vF.tail++ [v.vF.getD 15 0]).set 15 x,15⟩/\w.grownBy W (some g)) ⟨(a.o.1.drewN nd).Qm aQ x,aY (CU a.o.2 nd) _ _⟩ ?_;rintro M ⟨d,A⟩;clear G a c0;have B:=d.l;have H:(v.vF.tail++ [v.vF.getD 15 0]).set 15 x=v.vF.tail++ [x]:=by
  simp at B;rw[aa6 _ _ bL];congr 1
  rw[show 15 - v.vF.tail.length=0 by simp;omega];rfl
 rw[H] at d;have d0:=d.size;have f0:=d.fz (o+16);have C:=aP (And.intro (d.CY (n:=16) aQ) (aY A (o+16) (.int .i64 ((16:Nat):Int))));clear d A B H;go_wp2_with fail
 go_end0
 exact⟨rfl,C.o⟩
theorem GY(g o:Nat)(t:aN)(pre post:List aC)(v:Vc)(x:Int)(w:aA)(h:VB w g o t pre post v):
 aG prog 148 #[.pointer (some ⟨g,o,none⟩),x] w λe w'=>e= .returned (.tuple #[])/\VB w' g o t pre post (dM v x)/\w.grownBy w' (some g):=by
 unfold dM;have:=h.s;by_cases hs:v.vS=16
 .rw[aaK hs];exact Hu g o t pre post v x w h hs
 .rw[aaL hs];exact Gg g o t pre post v x w h aQ
end Nt
section
namespace Nt
def iV:Nat->List Nt->List Nt
 |_, []=> []
 |k,x::xs=>⟨x.eO,x.fV,x.bO,k⟩::iV (k+1) xs
theorem xB(xs:List Nt):∀k,(iV k xs).length=xs.length:=by
 induction xs with
 |nil=>intro k;rfl
 |cons x xs a=>intro k;simp[iV,a]
theorem XN(xs:List Nt):∀k,(iV k xs).flatMap iX=xs.flatMap iX:=by
 induction xs with
 |nil=>intro k;rfl
 |cons x xs a=>intro k;simp only[iV,abK,a];rfl
theorem NM(xs:List Nt):∀k i,i<xs.length->(bM (iV k xs) i).iB=k+i:=by
 induction xs with
 |nil=>intro k i h;simp at h
 |cons x xs a=>
  intro k i h;cases i with
  |zero=>simp[iV,bM]
  |succ i=>
   have:=a (k+1) i (by simpa using h);simp only[iV];rw[show bM (⟨x.eO,x.fV,x.bO,k⟩::iV (k+1) xs) (i+1)=bM (iV (k+1) xs) i from rfl,this];omega
theorem VU(xs:List Nt):∀i j,i<j->j<(iV 0 xs).length->(bM (iV 0 xs) i).iB<(bM (iV 0 xs) j).iB:=λi j b a=>by
 rw[xB] at a;rw[NM xs 0 i aQ,NM xs 0 j a];omega
theorem ZM{xs:List Nt}:∀{k:Nat} {y:Nt},y∈iV k xs->∃x∈xs,y.eO=x.eO/\y.fV=x.fV/\y.bO=x.bO:=by
 induction xs with
 |nil=>intro k y h;simp[iV] at h
 |cons x xs a=>
  intro k y h;simp only[iV,acD] at h;rcases h with rfl|h
  .exact⟨x,aT,rfl,rfl,rfl⟩
  .obtain⟨z,b,h1⟩:=a h;exact⟨z,by simp[b],h1⟩
def pD(VS:List Vc)(x:Nt):List Vc:=VS.set x.eO.toNat (dM (VS.getD x.eO.toNat ⟨[],0⟩) x.fV)
theorem Om{v:Vc}(h:v.vF.length=16/\v.vS<=16)(x:Int):(dM v x).vF.length=16/\(dM v x).vS<=16:=by
 unfold dM;split <;> simp <;> omega
variable{VS:List Vc}
theorem Hx(b:VS.length=8)(h:∀v∈VS,v.vF.length=16/\v.vS<=16){x:Nt}(d:0<=x.eO/\x.eO<8):(pD VS x).length=8/\∀v∈pD VS x,v.vF.length=16/\v.vS<=16:=by
 refine⟨by simp[pD,b],λv a=>?_⟩;have he:x.eO.toNat<VS.length:=aQ;rcases abW a with a|rfl
 .exact h v a
 .refine Om (h _ ?_) _;simp[he]
theorem TH(A:Option aJ)(n c:Nat)(VS:List Vc){e:Nat}(he:e<VS.length)(v:Vc):AH A n c (VS.set e v)=(.slice A n c::(VS.take e).flatMap mH)++mH v++(VS.drop (e+1)).flatMap mH:=by
 unfold AH;rw[List.set_eq_take_append_cons_drop,aaK he];simp
theorem IB:∀(VS:List Vc),(∀v∈VS,v.vF.length=16/\v.vS<=16)->(VS.flatMap mH).length=VS.length *17
 | [],_=>rfl
 |v::VS,h=>by
  have:=IB VS (λx a=>h x (by simp[a]));have h1:=(h v aT).1;simp only[abK,aaT,this,mH,abT,h1,abM,ab5];omega
section
variable{w w':aA}{g c:Nat}{A:Option aJ}{L:List Nt}{VS:List Vc}
theorem Bd.vec(h:Bd w g A c L VS){e:Nat}(he:e<8):VB w g (1+e *17) 179 (.slice A L.length c::(VS.take e).flatMap mH) ((VS.drop (e+1)).flatMap mH) (VS.getD e ⟨[],0⟩):=by
 have f:=h.v8;have a:VS.getD e ⟨[],0⟩=VS[e]'(by omega):=by simp[show e<VS.length by omega]
 have h1:=h.ok _ (aaM (show e<VS.length by omega));refine⟨?_,?_,by rw[a];exact h1.1,by rw[a];exact h1.2⟩
 .rw[<-TH A L.length c VS aQ (VS.getD e ⟨[],0⟩),a,List.set_getElem_self];exact h.b
 .simp only[abM];rw[IB _ (λv d=>h.ok v (aeR d)),aa9];omega
theorem Bd.Sb(h:Bd w g A c L VS){x:Nt}(a:0<=x.eO/\x.eO<8)(d:VB w' g (1+x.eO.toNat *17) 179 (.slice A L.length c::(VS.take x.eO.toNat).flatMap mH) ((VS.drop (x.eO.toNat+1)).flatMap mH) (dM (VS.getD x.eO.toNat ⟨[],0⟩) x.fV))(f:w.grownBy w' (some g)):Bd w' g A c L (pD VS x):=by
 have i:=h.v8;obtain⟨p1,p2⟩:=Hx i h.ok a;refine⟨?_,h.o.kept f ?_,p1,p2⟩
 .unfold pD;rw[TH A L.length c VS aQ];exact d.b
 .cases j:aZ A with
  |none=>exact .inl rfl
  |some q=>right;intro e;injection e with e;exact h.ne q j e
end
end Nt
end
namespace Nt
end Nt
end
section
open Go.RowKit Go.Lib Go.Shelf Nt
variable{F:Nat->Prop}{w:aA}{g:Nat}{VS:List Vc}
section
def vN(F:Nat->Prop)(w:aA)(g:Nat)(L:List Nt)(VS:List Vc):Prop:=∃A c,Bd w g A c L VS/\Ol F w/\¬F g/\∀q,aZ A=some q->¬F q
theorem vN.bX(g:Nat)(L:List Nt)(f:List Vc):dV (λF w=>vN F w g L f):=λ_ _ _ _ _ ⟨A,c,h,_,a,d⟩ k e fl hH=>
 ⟨A,c,⟨k.aZ h.b (e g h.lt a),h.o.kp k (λq hq=>e q (h.o.lt q hq).2 (d q hq)),h.v8,h.ok⟩,fl,hH g h.lt a,λq hq=>hH q (h.o.lt q hq).2 (d q hq)⟩
def Rk(F:Nat->Prop)(g:Nat)(L:List Nt)(VS:List Vc)(v:aC)(w:aA)(e:Ending)(w':aA):Prop:=e= .returned v/\vN F w' g L VS/\Kp F w w'
def gP(L:List Nt)(env frm now k:Int):Int×List Nt:=if zM env frm now k then(if 0<=rA L env frm then(7,L) else(0,L++ [⟨env,frm,now+k,0⟩])) else(1,L)
def qX(L:List Nt)(env frm:Int):List Nt:=match NB L env frm with|some i=>L.eraseIdx i|none=>L
theorem Ho{L:List Nt}(env a now k:Int)(hd:vN F w g L VS)(P:L.length<=500)(h:zM env a now k):
 aG prog 105 #[.pointer g,env,a,now,k] w (Rk F g (if 0<=rA L env a then L else L++ [⟨env,a,now+k,0⟩]) VS (.int .i64 (if 0<=rA L env a then 7 else 0)) w):=by
 obtain⟨A,c,hd,G,s,t⟩:=hd;obtain⟨⟨Q,R⟩,⟨S,T⟩,⟨U,V⟩,⟨W,X⟩⟩:=h;have n1:¬env<0:=aQ;have Y:¬a<0:=aQ;have n5:¬now<0:=aQ;have n7:¬k<1:=aQ;have z:=aP (zO env a w hd aQ);obtain⟨pl,u⟩:∃pl,rA L env a=pl:=⟨_,rfl⟩
 rw[u] at z⊢;have HD:=aP hd;have f:=cZ G s t;clear hd u G s t;by_cases hp:0<=pl
 .go_enter func105,ntmps105
  go_wp2_with fail
  refine aR z ?_;rintro e C ⟨rfl,j⟩;go_wp2_with fail
  go_ret
  exact⟨rfl,⟨A,c,HD.o.keep j,f.o.1.kp (f.o.1.below j),f.o.2.1,f.o.2.2⟩,f.o.1.below j⟩
 .go_enter func105,ntmps105
  go_wp2_with fail
  refine aR z ?_;rintro e C ⟨rfl,j⟩;have l:=HD.o.keep j;have v:=f.o.1.below j;have c0:=l.c0;have H:=l.lt;have d:=bH l v;clear l v z HD j;go_wp2_with(at_builtin;refine bN _ rfl _ _ rfl Hm iZ (d.o.1.o.alloc _) (n:=L.length) rfl rfl (m:=1) rfl (ys:= [⟨env,a,now+k,0⟩]) rfl (Sl.new iZ C ⟨env,a,now+k,0⟩ _ rfl _) dT aQ bL _ rfl (L.length+1) rfl ?_;intro I c5 D p r x;(have i:bC D g 179 (AH A L.length c VS).toArray:=(d.o.1.b.alloc _).grown r (λe=>d.o.1.ne g e.symm rfl));(have f0:=i.frozen 0);(have d0:D.cell? (g,0)=some (.slice A L.length c):=i.cell 0 _ (by simp[AH]));(have O:=i.lt);(have B:=cZ p r (And.intro x i));clear p r x i)
  go_ret
  have J:=f.o.1.kp d.o.2;have K:=J.below (aX C (aI #[env,a, .int .i64 (now+k)] 96));have E:=J.kp K;have M:=Kp.grown B.o.2.1 (F:=F) (λb j=>⟨E b j,λe=>f.o.2.2 b e.symm j⟩);have O4:=E.kp M;have N:=O4.self f.o.2.1 (aY (bE D g) 0 (.slice I (L.length+1) c5));refine⟨rfl,⟨I,c5,?_,O4.kp N,f.o.2.1,λq hq y=>?_⟩,((d.o.2.trans K).trans M).trans N⟩
  .have:=Bd.store B.o.2.2.2 B.o.1 d.o.1.v8 d.o.1.ok;simpa using this
  .rcases B.o.2.2.1 with e|e
   .exact f.o.2.2 q (e ▸ hq) y
   .rw[e] at hq;injection hq with hq;have:=E q y;omega
theorem YR{L:List Nt}(env a:Int)(hd:vN F w g L VS)(K:L.length<=500):
 aG prog 198 #[.pointer g,env,a] w (Rk F g (qX L env a) VS (.bool (NB L env a).isSome) w):=by
 obtain⟨A,c,hd,D,t,u⟩:=hd;have s:=zO env a w hd aQ;have HD:=aP hd;have f:=cZ D t u;clear hd D t u;cases n:NB L env a with
 |none=>
  have hp:rA L env a= -1:=by unfold rA;rw[n]
  have z:aH (qX L env a=L):=by unfold aH qX;rw[n]
  rw[hp] at s;have y:=aP s;clear s hp n;go_enter func198,ntmps198
  go_wp2_with fail
  refine aR y ?_;rintro e E ⟨rfl,p⟩;go_wp2_with fail
  go_ret
  rw[z.o];exact⟨rfl,⟨A,c,HD.o.keep p,f.o.1.kp (f.o.1.below p),f.o.2.1,f.o.2.2⟩,f.o.1.below p⟩
 |some i=>
  have hp:rA L env a=(i:Int):=by unfold rA;rw[n]
  have z:aH (qX L env a=L.eraseIdx i):=by unfold aH qX;rw[n]
  have hi:i<L.length:=(aa5.1 n).1;rw[hp] at s;have y:=aP s;clear s hp n;obtain⟨q,rfl⟩:∃q,A=some ⟨q,0,none⟩:=by
   rcases HD.o.o.shape with⟨_,h,_⟩|h
   .rw[h] at hi;simp at hi
   .exact h
  obtain⟨k,hk⟩:∃k,L.length=i+1+k:=⟨L.length - (i+1),aQ⟩
  have J:=aP hk;clear hk;go_enter func198,ntmps198
  go_wp2_with fail
  refine aR y ?_;rintro e E ⟨rfl,p⟩;have j:=HD.o.keep p;have v:=f.o.1.below p;have c0:=j.c0;have m:=aP (lP q c i k (g+1) L E j.o J.o aQ);have d:=bH j v;clear j v y HD p;go_wp2_with fail
  refine aR m ?_;rintro e B ⟨rfl,x,r⟩;have l:bC B g 179 (AH (some ⟨q,0,none⟩) L.length c VS).toArray:=d.o.1.b.grown r (λe=>d.o.1.ne q rfl (by injection e with e;exact e.symm));have f0:=l.frozen 0;have d0:B.cell? (g,0)=some (.slice (some ⟨q,0,none⟩) L.length c):=l.cell 0 _ (by simp[AH]);have C:=cZ x r l;clear x r l c0 m;go_wp2_with fail
  go_ret
  rw[z.o];have G:=f.o.1.kp d.o.2;have H:=G.self (f.o.2.2 q rfl) C.o.2.1;have O4:=G.kp H;have I:=O4.self f.o.2.1 (aY (bE B g) 0 (.slice (some ⟨q,0,none⟩) (L.eraseIdx i).length c));exact⟨rfl,⟨some ⟨q,0,none⟩,c,Bd.store C.o.2.2 C.o.1 d.o.1.v8 d.o.1.ok,O4.kp I,f.o.2.1,f.o.2.2⟩,(d.o.2.trans H).trans I⟩
end
variable{w':aA}{O:Option aJ}{Y:List Nt}
section
theorem vN.ZI{d:Nat}{R:Option aJ}(e:Ol F w)(k:Kp F w w')(c:¬F g)(j:g<w.heap.size)(f:Bd w' g R d Y VS)(h1:∀q,aZ O=some q->w.heap.size<=q/\q<w'.heap.size)(h:∀q,aZ R=some q->w.heap.size<=q)(i:∀q,aZ O=some q->aZ R≠some q):vN (λb=>F b\/aZ O=some b) w' g Y VS:=by
 refine⟨R,d,f,λb a=>?_,λhc=>?_,λq hq hc=>?_⟩
 .rcases a with a|a
  .exact aaJ (e b a) k.size
  .exact(h1 b a).2
 .rcases hc with hc|hc
  .exact c hc
  .have:=(h1 g hc).1;omega
 .rcases hc with hc|hc
  .have:=e q hc;have:=h q hq;omega
  .exact i q hc hq
def Sn(F:Nat->Prop)(g:Nat)(L:List Nt)(VS:List Vc)(now:Int)(w:aA)(e:Ending)(w':aA):Prop:=
 ∃(O:Option aJ) (d:Nat) (T:List Nt),e= .returned (.slice O T.length d)/\bB iX 3 w' w.heap.size 96 O d T/\sX T/\T.Perm (iV 0 (L.filter λx=>decide (x.bO<=now)))/\vN (λb=>F b\/aZ O=some b) w' g (L.filter λx=>decide (now<x.bO)) (T.foldl pD VS)/\Kp F w w'
theorem Dl{L:List Nt}(now:Int)(hdF:vN F w g L VS)(hl:L.length<=500)(hE:∀x∈L,0<=x.eO/\x.eO<8):
 aG prog 107 #[.pointer g,now] w (Sn F g L VS now w):=by
 obtain⟨A,c,hd,hO0,hFg,hFA⟩:=hdF;have l:=cZ hO0 hFg hFA;clear hO0 hFg hFA;have c0:=hd.c0;have hgs:=hd.lt;have HD:=aP hd;have HE:=aP hE;obtain⟨n,E⟩:∃n,n=L.length:=⟨_,rfl⟩
 rw[<-E] at c0;have HN:=aP E;have Z:n<=500:=aQ;clear hd hE E hl;go_enter func107,ntmps107
 go_wp2_with fail
 go_loopw [5,6,18] (λv5 v6 a1 wr=>∃(k:Nat) (X Y:List Nt) (O R:Option aJ) (C G:Nat),a1= .int .i64 k/\v5= .slice O X.length C/\v6= .slice R Y.length G/\k<=n/\X.length<=k/\Y.length<=k/\aH (X=(L.take k).filter λx=>decide (x.bO<=now))/\aH (Y=(L.take k).filter λx=>decide (now<x.bO))/\bB iX 3 wr w.heap.size 96 O C X/\bB iX 3 wr w.heap.size 96 R G Y/\aH (∀q,aZ O=some q->aZ R≠some q)/\aD w w wr) (λ_ _ a1 _=>n - (aL a1).toNat)
 case atStart=>exact⟨0, [], [],none,none,0,0,rfl,rfl,rfl,aaQ _,aaH _,aaH _,rfl,rfl,bB.nil _ _ _,bB.nil _ _ _,(λq h=>by simp[aZ] at h),Below.refl _ _⟩
 case round=>
  clear c0;obtain⟨k,X,Y,O,R,C,G,rfl,rfl,rfl,hk,hx,hy,hX,hY,hO,hR,f,D⟩:=hrel;have hws:=D.size;by_cases hlt:k<n
  .have hkL:k<L.length:=by have:=HN.o;omega
   obtain⟨b,off,rfl,y0,y1,y2⟩:=((HD.o.keep D).o.sl iZ).Ku hkL;have k0:(0:Int)<=k:=aQ;have k1:(k:Int)<(n:Int):=aQ;have HT:=aP (show L.take (k+1)=L.take k++ [L[k]] by rw[abN];simp[hkL]);generalize L[k]=x at *;have N:=bC.new wr 96 #[x.eO,x.fV,x.bO];have x0:=N.cell 0 x.eO rfl;have x1:=N.cell 1 x.fV rfl;have x2:=N.cell 2 x.bO rfl;clear N;by_cases ht:x.bO<=now
   .have H1:aH (X++ [x]=(L.take (k+1)).filter λx=>decide (x.bO<=now)):=by unfold aH;rw[HT.o,acR,<-hX.o];simp[ht]
    have H2:aH (Y=(L.take (k+1)).filter λx=>decide (now<x.bO)):=by unfold aH;rw[HT.o,acR,<-hY.o];simp[show ¬now<x.bO by omega]
    go_wp2_with(at_builtin;refine bN _ rfl _ _ rfl Hm iZ ((hO.alloc _).alloc _) (n:=X.length) rfl rfl (m:=1) rfl (ys:= [x]) rfl (Sl.gK iZ _ x _ rfl _ aT) dT aQ bL _ rfl (X.length+1) rfl ?_;intro A5 c5 w6 d s t;(have H:=cZ d s t);clear d s t)
    go_roundw
    case rel=>
     refine⟨k+1,X++ [x],Y,A5,R,c5,G,by go_num,aT,rfl,aQ,bL,aQ,H1,H2,H.o.1,((hR.alloc _).alloc _).kept H.o.2.1 ?_,?_,?_⟩
     .cases P:aZ R with
      |none=>exact .inl rfl
      |some q=>right;intro e;exact f.o q e.symm P
     .intro q hq e;rcases H.o.2.2 with h5|h5
      .exact f.o q (h5 ▸ hq) e
      .rw[h5] at hq;injection hq with hq;have:=(hR.lt q e).2;simp at hq;omega
     .exact WX ((D.alloc D.size _).alloc bL _) H.o.2.1 (λq hq=>(hO.lt q hq).1)
    case measure=>simp[aL];omega
   .have H1:aH (X=(L.take (k+1)).filter λx=>decide (x.bO<=now)):=by unfold aH;rw[HT.o,acR,<-hX.o];simp[ht]
    have H2:aH (Y++ [x]=(L.take (k+1)).filter λx=>decide (now<x.bO)):=by unfold aH;rw[HT.o,acR,<-hY.o];simp[show now<x.bO by omega]
    go_wp2_with(at_builtin;refine bN _ rfl _ _ rfl Hm iZ ((hR.alloc _).alloc _) (n:=Y.length) rfl rfl (m:=1) rfl (ys:= [x]) rfl (Sl.gK iZ _ x _ rfl _ aT) dT aQ bL _ rfl (Y.length+1) rfl ?_;intro A5 c5 w6 d s t;(have H:=cZ d s t);clear d s t)
    go_roundw
    case rel=>
     refine⟨k+1,X,Y++ [x],O,A5,C,c5,by go_num,rfl,aT,aQ,aQ,bL,H1,H2,((hO.alloc _).alloc _).kept H.o.2.1 ?_,H.o.1,?_,?_⟩
     .cases P:aZ O with
      |none=>exact .inl rfl
      |some q=>right;intro e;exact f.o q P e.symm
     .intro q hq e;rcases H.o.2.2 with h5|h5
      .exact f.o q hq (h5 ▸ e)
      .rw[h5] at e;injection e with e;have:=(hO.lt q hq).2;simp at e;omega
     .exact WX ((D.alloc D.size _).alloc bL _) H.o.2.1 (λq hq=>(hR.lt q hq).1)
    case measure=>simp[aL];omega
  .obtain rfl:k=n:=aQ;have k1:¬(k:Int)<(k:Int):=aQ;have p:=HD.o.keep D;have d0:wr.cell? (g,0)=some (.slice A L.length c):=p.c0;have f0:=p.b.frozen 0;have i:=Bd.store p.b (hR.from_ (show g+1<=w.heap.size by omega)) p.v8 p.ok;have u:Kp F w (wr.setCell (g,0) (.slice R Y.length G)):=(l.o.1.below D).trans ((l.o.1.kp (l.o.1.below D)).self l.o.2.1 (aY (bE wr g) 0 _));have I:aH ((∀q,aZ R=some q->w.heap.size<=q)/\∀q,aZ O=some q->aZ R≠some q):=⟨λq hq=>(hR.lt q hq).1,f.o⟩
   have hO1:bB iX 3 (wr.setCell (g,0) (.slice R Y.length G)) w.heap.size 96 O C X:=hO.kept (aY (bE wr g) 0 _) (by
    cases P:aZ O with
    |none=>exact .inl rfl
    |some q=>right;intro e;injection e with e;have:=(hO.lt q P).1;omega)
   have hXL:X=L.filter λx=>decide (x.bO<=now):=by rw[hX.o,HN.o,acJ]
   have hYL:Y=L.filter λx=>decide (now<x.bO):=by rw[hY.o,HN.o,acJ]
   have v:=bH hXL hYL;have a:=cZ i u hO1;clear p i u hO1 hXL hYL hX hY hO hR D hlt;rcases a.o.2.2.shape with⟨rfl,rfl,rfl⟩|⟨q,rfl⟩
   .go_upto_region 12 with(fail)
    go_wp2_with fail
    refine aS (Ah _ _) ?_;rintro e w2 ⟨rfl,rfl⟩;go_wp2_with fail
    refine wp_loop_rounds 1 ?_;rw[rounds_succ];go_wp2_with fail
    go_ret
    refine⟨none,0, [],rfl,bB.nil _ _ _,List.Pairwise.nil,?_,?_,a.o.2.1⟩
    .rw[<-v.o.1];exact List.Perm.refl _
    .rw[<-v.o.2];exact vN.ZI l.o.1 a.o.2.1 l.o.2.1 hgs a.o.1 (λq hq=>by cases hq) I.o.1 I.o.2
   .have hT0:Rw w (wr.setCell (g,0) (.slice R Y.length G)) q C (iV 0 X):=by
     have:=a.o.2.2;unfold Rw bB at *;rw[XN,xB];exact this
    have hS:=aP (Hc w q C X.length (iV 0 X) _ hT0 (xB X 0) (VU X) aQ);have hX5:X.length<=500:=aQ;obtain⟨m,hm⟩:∃m,m=X.length:=⟨_,rfl⟩
    rw[<-hm] at hS hX5;have HM:=aP hm;have hqg:q≠g:=λe=>by have:=(a.o.2.2.lt q rfl).1;omega
    clear hT0;go_upto_region 12 with(fail)
    simp only[<-hm];clear hm;go_wp2_with fail
    refine aR hS ?_;rintro e w2 ⟨rfl,⟨T,Q,hSr,hP⟩,J⟩;have hmT:T.length=m:=by rw[hP.length_eq,xB];exact HM.o.symm
    have S:Bd w2 g R G Y VS:=⟨J.aZ a.o.1.b ⟨a.o.1.lt,ae5 hqg⟩,a.o.1.o.kp J (λk hk=>⟨(a.o.1.o.lt k hk).2,λe=>f.o q rfl (e ▸ hk)⟩),a.o.1.v8,a.o.1.ok⟩
    have hn2:Kp F w w2:=a.o.2.1.trans (J.mono λb P=>⟨aaJ (l.o.1 b P) a.o.2.1.size,λe=>by have:=l.o.1 b P;have:=(a.o.2.2.lt q rfl).1;omega⟩);have hTE:aH (∀x∈T,0<=x.eO/\x.eO<8):=λx hx=>by
     obtain⟨z,hz,h1,_⟩:=ZM (hP.mem_iff.1 hx);rw[h1];refine HE.o z ?_;rw[v.o.1] at hz;exact(acW.1 hz).1
    have HSP:=bH hSr hP;clear hSr hP J hS a d0 f0 f;go_wp2_with fail
    go_loopw [43] (λv43 ws=>∃j:Nat,v43= .int .i64 j/\j<=m/\Bd ws g R G Y ((T.take j).foldl pD VS)/\Rw w ws q C T/\Kp F w ws) (λv43 _=>m - (aL v43).toNat)
    case atStart=>exact⟨0,rfl,aaQ _,S,Q,hn2⟩
    case round=>
     clear S Q hn2;obtain⟨j,rfl,hj,i,Q,E⟩:=hrel;by_cases hlt:j<m
     .have K:j<T.length:=aQ;obtain⟨y0,y1,y2⟩:=nC Q K;rw[kU K] at y0 y1 y2;have HTK:=aP (show T.take (j+1)=T.take j++ [T[j]] by rw[abN];simp[K]);have hx:=hTE.o T[j] (aaM K);have j1:(j:Int)<(m:Int):=aQ;generalize T[j]=x at *;obtain⟨e,he⟩:=aaO hx.1;have he8:e<8:=aQ;rw[he] at y0;have N:=bC.new wr 96 #[e,x.fV,x.bO];have U:=i.keep (aX wr (aI #[e,x.fV,x.bO] 96));have hT1:=Q.alloc (aI #[e,x.fV,x.bO] 96);have u:=E.trans ((l.o.1.kp E).below (aX wr (aI #[e,x.fV,x.bO] 96)));have HX:=bH hx he;have HK:=cZ U hT1 u;clear hx he i Q E U hT1 u;go_upto_region 16 with(fail)
      generalize wr.alloc (aI #[e,x.fV,x.bO] 96)=w3 at *;generalize wr.heap.size=zb at *;have x0:=N.cell 0 (.int .i64 (e:Int)) rfl;have x1:=N.cell 1 x.fV rfl;have e0:(0:Int)<=e:=aQ;have y:=HK.o.1.keep (Below.refl w3 w3).drew;have V:=aP (GY g (1+e *17) _ _ _ _ x.fV _ (y.vec he8));have HB3:=aP y;clear y;go_region_with ((go_at_call 148;refine aR V ?_;rintro e9 w4 ⟨rfl,hv4,M⟩))
      all_goals
       have he:=HX.o.2;have het:x.eO.toNat=e:=aQ;have W:=HB3.o.Sb (w':=w4) HX.o.1 (by rw[het];exact hv4) M;have hT5:Rw w w4 q C T:=(HK.o.2.1.drew).kept M (.inr (by simp[aZ];exact hqg));have Z:Kp F w w4:=HK.o.2.2.trans (((l.o.1.kp HK.o.2.2).below (Below.refl w3 w3).drew).trans (Ol.self (w:=w3.drew) (l.o.1.kp HK.o.2.2.drew) l.o.2.1 M));have HZ:=cZ W hT5 Z;clear he het W hT5 Z hv4 M HB3 HK V N x0 x1 y0 y1 y2;go_wp2_with fail
       go_roundw
       case rel=>exact⟨j+1,by go_num,aQ,by rw[HTK.o,acQ];exact HZ.o.1,HZ.o.2.1,HZ.o.2.2⟩
       case measure=>simp[aL];omega
     .obtain rfl:j=m:=aQ;have j1:¬(j:Int)<(j:Int):=aQ;have B:=cZ i Q E;clear i Q E;go_wp2_with fail
      go_ret
      refine⟨some ⟨q,0,none⟩,C,T,?_,B.o.2.1,HSP.o.1,?_,?_,B.o.2.2⟩
      .rw[hmT];rfl
      .rw[<-v.o.1];exact HSP.o.2
      .have:=B.o.1;rw[aa7 aQ] at this;rw[<-v.o.2];exact vN.ZI l.o.1 B.o.2.2 l.o.2.1 hgs this (λr hr=>bB.lt B.o.2.1 r hr) I.o.1 I.o.2
end
end
section
open Go.RowKit Go.Lib Go.Shelf
variable{e:Int}{j g q:Nat}{F:Nat->Prop}{w W:aA}
section
structure Hd where
 kd:Int
 ob:Int
 rt:Int
 nu:Int
 pf:Int
structure Cf where
 S:List Hd
 n:Int
def J9:Hd:=⟨0,0,0,0,0⟩
def xT(h:Hd):List aC:= [.int .i64 h.kd, .int .i64 h.ob, .int .i64 h.rt, .int .i64 h.nu, .int .i64 h.pf]
theorem lR(h:Hd):(xT h).length=5:=rfl
theorem Dk:eY xT 5:=⟨λ_=>rfl,λx u hu=>by simp[xT] at hu;rcases hu with rfl|rfl|rfl|rfl|rfl <;> rfl⟩
def sQ(C:Cf):List aC:=C.S.flatMap xT++ [.int .i64 C.n]
structure eJ(F:Nat->Prop)(w:aA)(g:Nat)(C:Cf):Prop where
 b:bC w g 318 (sQ C).toArray
 len:C.S.length=128
 fl:Ol F w
 fg:¬F g
def tC(e s:Int):Option Nat:=if 0<=e/\e<8/\0<=s/\s<16 then some (e.toNat *16+s.toNat) else none
def cN(C:Cf)(k:Nat):Hd:=C.S.getD k J9
def pW(g:Nat)(o:Option Nat):aC:= .pointer (o.map λk=>⟨g,k *5,none⟩)
def fW(C:Cf)(e s:Int):Option Nat:=match tC e s with
 |none=>none
 |some k=>if(cN C k).nu=0 then none else some k
def tQ(C:Cf)(e s:Int):Option Hd:=(fW C e s).map (cN C)
section
variable{F G H:Nat->Prop}{w w':aA}{g k:Nat}{C:Cf}
theorem eJ.bX(g:Nat)(C:Cf):dV (λF w=>eJ F w g C):=λ_ _ _ _ _ h k a fl hH=>⟨k.aZ h.b (a g h.b.lt h.fg),h.len,fl,hH g h.b.lt h.fg⟩
theorem eJ.keep(h:eJ F w g C)(a:aD w w w'):eJ F w' g C:=⟨h.b.keep a,h.len,h.fl.kp (h.fl.below a),h.fg⟩
theorem eJ.kp(h:eJ F w g C)(a:aD w w w'):Kp F w w':=h.fl.below a
theorem BV{s:Int}{k:Nat}(h:tC e s=some k):k<128/\∃a b:Nat,e=a/\s=b/\a<8/\b<16/\k=a *16+b:=by
 unfold tC at h;split at h
 .injection h with h;rename_i hc;exact⟨aQ,e.toNat,s.toNat,aQ,aQ,aQ,aQ,h.symm⟩
 .cases h
theorem Kf(h:C.S.length=128):(sQ C).length=641:=by unfold sQ;rw[aaT,fH lR,h];rfl
theorem TI(h:C.S.length=128)(hk:k<128)(a:j<5):(sQ C)[k *5+j]?=(xT (cN C k))[j]?:=by
 have b:=fH lR C.S;unfold sQ;rw[abC (by rw[b,h];omega)];refine jG lR C.S k (cN C k) j ?_ a;unfold cN;rw[aaU,aaG aQ];rfl
theorem eJ.at_(h:eJ F w g C)(hk:k<128):w.cell? (g,k *5)=some (.int .i64 (cN C k).kd)/\w.cell? (g,k *5+1)=some (.int .i64 (cN C k).ob)/\w.cell? (g,k *5+2)=some (.int .i64 (cN C k).rt)/\w.cell? (g,k *5+3)=some (.int .i64 (cN C k).nu)/\w.cell? (g,k *5+4)=some (.int .i64 (cN C k).pf):=by
 have hc:∀(j:Nat) (v:aC),j<5->(xT (cN C k))[j]?=some v->w.cell? (g,k *5+j)=some v:=λj v a c=>h.b.cell _ _ (by rw[aaY,TI h.len hk a];exact c)
 exact⟨hc 0 _ cD rfl,hc 1 _ cD rfl,hc 2 _ cD rfl,hc 3 _ cD rfl,hc 4 _ cD rfl⟩
theorem eJ.cn(h:eJ F w g C):w.cell? (g,640)=some (.int .i64 C.n):=h.b.cell _ _ (by
 have a:=fH lR C.S;rw[aaY];unfold sQ;rw[aaS (by rw[a,h.len];omega),a,h.len];rfl)
theorem eJ.fz(h:eJ F w g C)(i:Nat):w.frozen? (g,i)=false:=h.b.frozen i
end
theorem Bb(e:Int)(w:aA):aG prog 184 #[e] w λx w'=>x= .returned (.bool (decide (0<=e/\e<8)))/\w=w':=by
 by_cases a:0<=e
 .have h1:decide (0<=e/\e<8)=decide (e<8):=by simp[a]
  rw[h1];go_enter func184,ntmps184
  go_wp2_with fail
  go_ret
  exact⟨rfl,rfl⟩
 .have h1:decide (0<=e/\e<8)=false:=by simp[a]
  rw[h1];go_enter func184,ntmps184
  go_wp2_with fail
  go_ret
  exact⟨rfl,rfl⟩
theorem NS(g:Nat)(e s:Int)(w:aA):aG prog 142 #[.pointer g,e,s] w λx w'=>x= .returned (pW g (tC e s))/\w=w':=by
 have c:=aP (Bb e w);cases hi:tC e s with
 |some k=>
  obtain⟨_,a,b,rfl,rfl,j,l,hk⟩:=BV hi;have h:=aP hk;have ho:decide ((0:Int)<=a/\(a:Int)<8)=true:=abD aQ;rw[ho] at c;have a0:(0:Int)<=a:=aQ;have m:(a:Int)<8:=aQ;have b2:(0:Int)<=b:=aQ;have b1:(b:Int)<16:=aQ;clear hi hk ho;go_enter func142,ntmps142
  go_wp2_with fail
  refine aR c ?_;rintro e d ⟨rfl,rfl⟩;go_wp2_with fail
  go_ret
  refine⟨?_,rfl⟩;show Ending.returned (.pointer (some ⟨g,a *80+b *5,none⟩))=Ending.returned (pW g (some k));rw[h.o];unfold pW;rw[show a *80+b *5=(a *16+b) *5 by omega];rfl
 |none=>
  have f:¬(0<=e/\e<8/\0<=s/\s<16):=by
   intro hc;unfold tC at hi;rw[aaK hc] at hi;cases hi
  clear hi;by_cases hw:0<=e/\e<8
  .rw[abD hw] at c;by_cases hs:s<0
   .clear f;go_enter func142,ntmps142
    go_wp2_with fail
    refine aR c ?_;rintro x d ⟨rfl,rfl⟩;go_wp2_with fail
    go_ret
    exact⟨rfl,rfl⟩
   .have i:(16:Int)<=s:=aQ;clear f;go_enter func142,ntmps142
    go_wp2_with fail
    refine aR c ?_;rintro x d ⟨rfl,rfl⟩;go_wp2_with fail
    go_ret
    exact⟨rfl,rfl⟩
  .rw[aa0 hw] at c;clear f hw;go_enter func142,ntmps142
   go_wp2_with fail
   refine aR c ?_;rintro x d ⟨rfl,rfl⟩;go_wp2_with fail
   go_ret
   exact⟨rfl,rfl⟩
variable{C:Cf}
theorem zL(h:eJ F w g C)(e s:Int):aG prog 101 #[.pointer g,e,s] w λx w'=>x= .returned (pW g (fW C e s))/\w=w':=by
 have a:=NS g e s w;unfold fW;cases hi:tC e s with
 |none=>
  rw[hi] at a;have a:=aP a;clear hi h;go_enter func101,ntmps101
  go_wp2_with fail
  refine aR a ?_;rintro x c ⟨rfl,rfl⟩;simp only[pW,acU];go_wp2_with fail
  go_ret
  exact⟨rfl,rfl⟩
 |some k=>
  rw[hi] at a;have a:=aP a;obtain⟨_,_,_,c3,_⟩:=h.at_ (BV hi).1;clear hi h;simp only;by_cases b:(cN C k).nu=0
  .rw[aaK b];rw[b] at c3;clear b;go_enter func101,ntmps101
   go_wp2_with fail
   refine aR a ?_;rintro x c ⟨rfl,rfl⟩;simp only[pW,abL];go_wp2_with fail
   go_ret
   exact⟨rfl,rfl⟩
  .rw[aaL b];generalize (cN C k).nu=nu at *;go_enter func101,ntmps101
   go_wp2_with fail
   refine aR a ?_;rintro x c ⟨rfl,rfl⟩;simp only[pW,abL];go_wp2_with fail
   go_ret
   exact⟨rfl,rfl⟩
theorem CK{s:Int}{k:Nat}(h:fW C e s=some k):k<128/\tC e s=some k/\(cN C k).nu≠0:=by
 unfold fW at h;split at h
 .cases h
 .rename_i j a;split at h
  .cases h
  .injection h with h;subst h;exact⟨(BV a).1,a,by assumption⟩
def mC(o:Option Hd):aC:=match o with
 |none=> .agg #[aU,aU,aU]
 |some h=> .agg #[h.kd,h.ob,h.rt]
theorem uN{t:aN}{x y z:aC}(h:bC w q t #[x,y,z])(a b c:aC):(((w.setCell (q,0) a).setCell (q,1) b).setCell (q,2) c).cell? (q,0)=some a/\(((w.setCell (q,0) a).setCell (q,1) b).setCell (q,2) c).cell? (q,1)=some b/\(((w.setCell (q,0) a).setCell (q,1) b).setCell (q,2) c).cell? (q,2)=some c:=by
 have h1:=((h.bQ 0 a).bQ 1 b).bQ 2 c;exact⟨h1.cell 0 _ aT,h1.cell 1 _ aT,h1.cell 2 _ aT⟩
theorem p9{B:Nat}(h:aD B W w)(d:B<=w.heap.size)(hq:B<=q)(a b c:aC):aD B W (((w.setCell (q,0) a).setCell (q,1) b).setCell (q,2) c):=
 h.grown (aY (aY (aY (bE w q) 0 a) 1 b) 2 c) d (λk hk=>by injection hk with hk;omega)
theorem L9(h:eJ F w g C)(e s:Int):aG prog 73 #[.pointer g,e,s] w λx w'=>x= .returned (.tuple #[mC (tQ C e s), .bool (tQ C e s).isSome])/\aD w w w':=by
 have c:=aX w (aI #[aU,aU,aU] 154);have a:=bC.new w 154 #[aU,aU,aU];have h1:=h.keep c;have b:=zL h1 e s;have j:w.heap.size<(w.alloc (aI #[aU,aU,aU] 154)).heap.size:=aT;unfold tQ;cases hi:fW C e s with
 |none=>
  rw[hi] at b;have b:=aP b;clear hi h h1;go_enter func73,ntmps73
  go_upto_region 1 with(fail)
  generalize w.alloc (aI #[aU,aU,aU] 154)=w1 at *;generalize hq:w.heap.size=q1 at *;have l:=a.cell 0 (.int .i64 0) rfl;have m:=a.cell 1 (.int .i64 0) rfl;have n:=a.cell 2 (.int .i64 0) rfl;have o:=a.frozen 0;have p:=a.frozen 1;have q:=a.frozen 2;go_wp2_with fail
  refine aR b ?_;rintro x r ⟨rfl,rfl⟩;simp only[pW,acU];go_wp2_with fail
  obtain⟨z0,f,z2⟩:=uN a (.int .i64 0) (.int .i64 0) (.int .i64 0);have i:=p9 c aQ (aaH q1) (.int .i64 0) (.int .i64 0) (.int .i64 0);generalize ((w1.setCell (q1,0) (.int .i64 0)).setCell (q1,1) (.int .i64 0)).setCell (q1,2) (.int .i64 0)=W at *;refine bodyPost_ret (v:= .tuple #[.agg #[aU,aU,aU],false]) ?_ rfl ⟨rfl,by rw[hq];exact i⟩;simp[z0,f,z2,results,results73,go_sem]
 |some k=>
  rw[hi] at b;have b:=aP b;obtain⟨c0,c1,c2,c3,c4⟩:=h1.at_ (CK hi).1;clear hi h h1;simp only[abL];generalize cN C k=x at *;obtain⟨r0,r1,d,t,u⟩:=x;simp only at c0 c1 c2 c3 c4;go_enter func73,ntmps73
  go_upto_region 1 with(fail)
  generalize w.alloc (aI #[aU,aU,aU] 154)=w1 at *;generalize hq:w.heap.size=q1 at *;have l:=a.cell 0 (.int .i64 0) rfl;have m:=a.cell 1 (.int .i64 0) rfl;have n:=a.cell 2 (.int .i64 0) rfl;have o:=a.frozen 0;have p:=a.frozen 1;have q:=a.frozen 2;go_wp2_with fail
  refine aR b ?_;rintro x r ⟨rfl,rfl⟩;simp only[pW,abL];go_wp2_with fail
  obtain⟨z0,f,z2⟩:=uN a (.int .i64 r0) (.int .i64 r1) (.int .i64 d);have i:=p9 c aQ (aaH q1) (.int .i64 r0) (.int .i64 r1) (.int .i64 d);generalize ((w1.setCell (q1,0) r0).setCell (q1,1) r1).setCell (q1,2) d=W at *;refine bodyPost_ret (v:= .tuple #[.agg #[r0,r1,d],true]) ?_ rfl ⟨rfl,by rw[hq];exact i⟩;simp[z0,f,z2,results,results73,go_sem]
end
end
end Go.Proofs.YtacgiflhgdaeaaaGreat
