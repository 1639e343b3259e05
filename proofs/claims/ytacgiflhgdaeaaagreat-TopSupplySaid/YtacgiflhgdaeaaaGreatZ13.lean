/- Texts laid as one. -/
import Derived.Deep.DeepCutAuto
import Derived.Deep.CutBlock
import Derived.Test.YtacgiflhgdaeaaaGreatZ2
import Derived.Test.YtacgiflhgdaeaaaGreatZ4
import Derived.Test.YtacgiflhgdaeaaaGreatZ7
import Derived.Test.YtacgiflhgdaeaaaGreatZ12
set_option linter.unusedVariables false
set_option linter.unusedSimpArgs false
set_option maxRecDepth 100000
set_option maxHeartbeats 20000000
namespace Go.Proofs.YtacgiflhgdaeaaaGreat
open Go.Proofs.Tryz
open Go renaming World->aA,Value->aC,Addr->aJ,Ending->aM,Calls->aG
open Go.RowKit renaming Below->aD,Hid->aH
open Go.Obj renaming cells->aI
section
open Go.RowKit Go.Lib
section
namespace Up
def eP(u:Up):List aC:= [.int .i64 u.kind, .int .i64 u.a, .int .u64 u.b]
theorem wN:eY eP 3:=⟨λ_=>rfl,λx u hu=>by simp[eP] at hu;rcases hu with rfl|rfl|rfl <;> rfl⟩
theorem UU:(prog.info? 248).map (λi=>(i.zero,i.size,i.bytes))=some (some (.agg #[aU,aU,cO]),3,24):=aV
theorem Ws:jM prog 319 248 3 24:=gA underlying319 UU rfl aQ
variable{w:aA}{A:Option aJ}{i:Nat}
theorem _root_.Go.Proofs.YtacgiflhgdaeaaaGreat.Sl.O0{xs:List Up}(h:Sl eP 3 w A xs)(hi:i<xs.length):
 ∃b off,A=some ⟨b,off,none⟩/\w.cell? ⟨b,off+i *3,none⟩=some (.int .i64 xs[i].kind)/\w.cell? ⟨b,off+i *3+1,none⟩=some (.int .i64 xs[i].a)/\w.cell? ⟨b,off+i *3+1+1,none⟩=some (.int .u64 xs[i].b):=by
 obtain⟨b,off,c,hc⟩:=h.at_ hi;refine⟨b,off,c,?_,?_,?_⟩
 .simpa using hc 0 _ (show(eP xs[i])[0]?=some (.int .i64 xs[i].kind) from rfl)
 .simpa[abV] using hc 1 _ (show(eP xs[i])[1]?=some (.int .i64 xs[i].a) from rfl)
 .simpa[abV] using hc 2 _ (show(eP xs[i])[2]?=some (.int .u64 xs[i].b) from rfl)
theorem QZ{base:Nat}{e:TypeId}{b c:Nat}{L:List Up}(h:bB eP 3 w base e b c L)(hi:i<L.length):
 w.cell? (b,i *3)=some (.int .i64 L[i].kind)/\w.cell? (b,i *3+1)=some (.int .i64 L[i].a)/\w.cell? (b,i *3+1+1)=some (.int .u64 L[i].b):=by
 obtain⟨m,off,d,f,j,k⟩:=(h.sl wN).O0 hi;injection d with d;injection d with h1 l;subst h1 l;simp only[abQ] at f j k;exact⟨f,j,k⟩
structure uR where
 A:Option aJ
 c:Nat
 L:List Up
 lost:Int
def vU(r:uR):List aC:= [.slice r.A r.L.length r.c, .int .i64 r.lost]
theorem wH(r:uR):(vU r).length=2:=rfl
def vA(r:uR):Ct:=⟨r.L,r.lost⟩
structure nY(w:aA)(g:Nat)(R:List uR):Prop where
 len:R.length=8
 at_:bC w g 324 (R.flatMap vU).toArray
 own:∀i,(hi:i<R.length)->bB eP 3 w (g+1) 248 R[i].A R[i].c R[i].L
 zZ:∀i j,(hi:i<R.length)->(hj:j<R.length)->i≠j->aZ R[i].A=none\/aZ R[i].A≠aZ R[j].A
theorem Oq(R:List uR)(i:Nat)(hi:i<R.length)(A:Option aJ)(c:Nat)(L:List Up):((R.flatMap vU).toArray).setIfInBounds (i *2) (.slice A L.length c)=((R.set i ⟨A,c,L,R[i].lost⟩).flatMap vU).toArray:=by
 rw[aaI];congr 1
 induction R generalizing i with
 |nil=>simp at hi
 |cons r R a=>
  cases i with
  |zero=>simp[vU]
  |succ i=>
   simp only[abK,aaN,ac4];rw[aa6 _ _ (by rw[wH];omega),wH,show(i+1) *2 - 2=i *2 by omega,a i (by simpa using hi)]
theorem Gr(R:List uR)(i:Nat)(hi:i<R.length)(v:Int):((R.flatMap vU).toArray).setIfInBounds (i *2+1) (.int .i64 v)=((R.set i ⟨R[i].A,R[i].c,R[i].L,v⟩).flatMap vU).toArray:=by
 rw[aaI];congr 1
 induction R generalizing i with
 |nil=>simp at hi
 |cons r R a=>
  cases i with
  |zero=>simp[vU]
  |succ i=>
   simp only[abK,aaN,ac4];rw[aa6 _ _ (by rw[wH];omega),wH,show(i+1) *2+1 - 2=i *2+1 by omega,a i (by simpa using hi)]
section
variable{w w':aA}{g:Nat}{R:List uR}
theorem nY.keep(h:nY w g R)(a:aD w w w'):nY w' g R:=⟨h.len,h.at_.keep a,λi hi=>(h.own i hi).keep a,h.zZ⟩
theorem nY.drew(h:nY w g R):nY w.drew g R:=⟨h.len,h.at_,h.own,h.zZ⟩
theorem nY.cells(h:nY w g R)(hi:i<R.length):w.cell? (g,i *2)=some (.slice R[i].A R[i].L.length R[i].c)/\w.cell? (g,i *2+1)=some (.int .i64 R[i].lost):=by
 refine⟨h.at_.cell _ _ ?_,h.at_.cell _ _ ?_⟩
 .rw[aaY];exact(jG wH R i R[i] 0 (aaG hi) aQ).trans rfl
 .rw[aaY];exact(jG wH R i R[i] 1 (aaG hi) aQ).trans rfl
theorem nY.lt(h:nY w g R)(hi:i<R.length):∀q,aZ R[i].A=some q->g<q/\q<w.heap.size:=λq hq=>by
 have:=(h.own i hi).lt q hq;omega
theorem GN{c:Nat}{L:List Up}(ho:bB eP 3 w (g+1) 248 A c L)(o:Nat)(u:aC):bB eP 3 (w.setCell (g,o) u) (g+1) 248 A c L:=by
 refine ho.kept (aY (bE w g) o u) ?_;cases e:aZ A with
 |none=>exact .inl rfl
 |some q=>exact .inr (λa=>by injection a with a;have:=(ho.lt q e).1;omega)
theorem nY.put(h:nY w g R)(hi:i<R.length)(m:w.grownBy w' (aZ R[i].A)){c:Nat}{L:List Up}(ho:bB eP 3 w' (g+1) 248 A c L)
 (n:aZ A=aZ R[i].A\/aZ A=none\/∃q,aZ A=some q/\w.heap.size<=q):nY (w'.setCell (g,i *2) (.slice A L.length c)) g (R.set i ⟨A,c,L,R[i].lost⟩):=by
 have b:some g≠aZ R[i].A:=λe=>by have:=h.lt hi g e.symm;omega
 refine⟨by rw[aaV];exact h.len,?_,λj a=>?_,λj k a hk l=>?_⟩
 .have:=(h.at_.grown m b).bQ (i *2) (.slice A L.length c);rw[Oq R i hi] at this;exact this
 .rw[aaV] at a;rw[abF];split
  .exact GN ho _ _
  .rename_i d;exact GN ((h.own j a).kept m (h.zZ j i a hi aQ)) _ _
 .rw[aaV] at a hk;rw[abF,abF];have key:∀j,(a:j<R.length)->j≠i->aZ A=none\/aZ A≠aZ R[j].A:=λj a b=>by
   rcases n with e|e|⟨q,e,hq⟩
   .rw[e];exact h.zZ i j hi a aQ
   .exact .inl e
   .right;rw[e];intro f;have:=h.lt a q f.symm;omega
  split
  .rename_i d;split
   .omega
   .exact key k hk aQ
  .rename_i d;split
   .rcases key j a aQ with e|e
    .by_cases f:aZ R[j].A=none
     .exact .inl f
     .right;simp only;rw[e];exact f
    .exact .inr (ae5 e)
   .exact h.zZ j k a hk l
theorem nY.rH(h:nY w g R)(hi:i<R.length)(v:Int):nY (w.setCell (g,i *2+1) v) g (R.set i ⟨R[i].A,R[i].c,R[i].L,v⟩):=by
 refine⟨by rw[aaV];exact h.len,?_,λj a=>?_,λj k a hk b=>?_⟩
 .have:=h.at_.bQ (i *2+1) (.int .i64 v);rw[Gr R i hi] at this;exact this
 .rw[aaV] at a;rw[abF];split
  .exact GN (h.own i hi) _ _
  .exact GN (h.own j a) _ _
 .rw[aaV] at a hk;rw[abF,abF];split
  .rename_i d;subst d;split
   .omega
   .exact h.zZ i k a hk b
  .split
   .rename_i e;subst e;exact h.zZ j i a hk b
   .exact h.zZ j k a hk b
theorem K3(R:List uR)(i:Nat)(r:uR):(R.set i r).map vA=(R.map vA).set i (vA r):=by rw[ab1]
end
theorem Er(L:List Up)(k:Nat)(hk:k<L.length)(u:Up):(((L.flatMap eP).set (k *3) (.int .i64 u.kind)).set (k *3+1) (.int .i64 u.a)).set (k *3+1+1) (.int .u64 u.b)=(L.set k u).flatMap eP:=by
 induction L generalizing k with
 |nil=>simp at hk
 |cons x L d=>
  cases k with
  |zero=>simp[eP]
  |succ k=>
   have c:(eP x).length=3:=rfl;simp only[abK,aaN];rw[aa6 _ _ (by rw[c];omega),aa6 _ _ (by rw[c];omega),aa6 _ _ (by rw[c];omega),c,show(k+1) *3 - 3=k *3 by omega,show(k+1) *3+1 - 3=k *3+1 by omega,show(k+1) *3+1+1 - 3=k *3+1+1 by omega,d k (by simpa using hk)]
def ML(w:aA)(q o:Nat)(u:Up):aA:=((w.setCell (q,o) u.kind).setCell (q,o+1) u.a).setCell (q,o+1+1) (.int .u64 u.b)
variable{q:Nat}
theorem Hv{base:Nat}{e:TypeId}{c:Nat}{L:List Up}(h:bB eP 3 w base e q c L){k:Nat}(hk:k<L.length)(u:Up):bB eP 3 (ML w q (k *3) u) base e q c (L.set k u)/\w.grownBy (ML w q (k *3) u) (some q):=by
 have h1:=World.ownsRow.stored h (k *3) (.int .i64 u.kind);have f:=World.ownsRow.stored h1.1 (k *3+1) (.int .i64 u.a);have d:=World.ownsRow.stored f.1 (k *3+1+1) (.int .u64 u.b);rw[Er L k hk] at d;refine⟨?_,lG (lG h1.2 f.2) d.2⟩;unfold bB;rw[aaV];exact d.1
end Up
end
section
namespace Up
theorem kM:∀w,(zeroValue 248).run prog w= .ok (.agg #[aU,aU,cO]) w:=λw=>by kernel_rfl
variable{A:Option aJ}{n m:Nat}
theorem fJ{c:Nat}(h:n=m):Ending.returned (.slice A n c)= .returned (.slice A m c):=by rw[h]
theorem lP(g c i k base:Nat)(L:List Up)(w:aA)(own:bB eP 3 w base 248 g c L)(r:L.length=i+1+k)(S:L.length<=1000):
 aG prog 251 #[.slice g L.length c,i, .int .i64 ((i:Int)+1)] w λe w'=>e= .returned (.slice g (L.eraseIdx i).length c)/\bB eP 3 w' base 248 g c (L.eraseIdx i)/\w.grownBy w' (some g):=by
 obtain⟨i0,n,G,p,H⟩:=info_parts UU;have s:(L.eraseIdx i).length=i+k:=by rw[acO,aaK aQ];omega
 obtain⟨_,_,_,v,x,_,_⟩:=eK own;simp only[maxLen] at x;obtain⟨news,b⟩:∃news,news=(L.drop (i+1)).flatMap eP:=⟨_,rfl⟩
 have s1:aH (news.length=k *3):=by unfold aH;rw[b,fH wN.len,abY];omega
 have s2:aH (∀u∈news,u.oneCell'=true):=λu hu=>rL wN _ u (by rw[<-b];exact hu)
 have D:aH (∀t,t<news.length->(w.drew.cell? ⟨g,0+i *3+t,none⟩).isSome=true/\w.drew.frozen? ⟨g,0+i *3+t,none⟩=false):=λt E=>by
  rw[s1.o] at E;exact cH own _ aQ
 have I:aH (∀t u,news[t]?=some u->w.drew.cell? ((⟨g,(i+1) *3,none⟩:aJ).add t)=some u):=λt u hu=>by
  have E:t<k *3:=by rw[<-s1.o];exact(aaX.1 hu).1
  have hF:=oT wN.len L (i+1);rw[b,hF,acL] at hu;rw[Addr.add_lit];obtain⟨cur,_,J,_,_,_,K⟩:=eK own;show w.cell? _=_;rw[cell_of_row w g _ cur _ (0,0) J,<-hu,<-K,abU,aaK aQ,abG]
 obtain⟨m,h⟩:∃m,m=w.drew.setCells g (0+i *3) news:=⟨_,rfl⟩
 have F:=aP h;have y:=tX (w:=w.drew) wN.len own.drew i k r [.int .i64 0, .int .i64 0, .int .u64 0] rfl;rw[<-b,show i *3=0+i *3 by omega,<-h] at y;have a:=aP y;have d:∀j,j<c *3->(m.cell? ⟨g,j,none⟩).isSome=true/\m.frozen? ⟨g,j,none⟩=false:=λj z=>by
  rw[h];have:=cH own j z;exact⟨Go.World.isSome_setCells g _ _ _ _ this.1,by rw[World.frozen?_setCells];exact this.2⟩
 have l:∀ty q A,q=1->(Builtin.clear_ #[319] ty #[.slice (some ⟨g,(i+k) *3,none⟩) q A]).run prog m= .ok (.tuple #[]) (m.setCells g ((i+k) *3) [.int .i64 0, .int .i64 0, .int .u64 0]):=λty q A B=>
  kZ m _ 248 ty _ underlying319 kM [.int .i64 0, .int .i64 0, .int .u64 0] aV cD g ((i+k) *3) q A B (λj z=>d _ (by simp at z;omega))
 clear h y d b;rw[r];rw[r] at v;have M:i<=c:=aQ;have N:i+1<=c:=aQ;have O:(0:Int)<=i+1:=aQ;have P:(i:Int)+1<=(i:Int)+1+(k:Int):=aQ;by_cases hce:c=i+1
 .obtain rfl:k=0:=aQ;obtain rfl:news= []:=abO (by rw[s1.o]);have C:aH (∀t u,([]:List aC)[t]?=some u->w.drew.cell? ((⟨g,0,none⟩:aJ).add t)=some u):=λt u hu=>by simp at hu
  subst hce;have f:=λty=>l ty (i+1 - i) (i+1 - i) aQ
  simp only[aa3] at f s⊢;have Q:(i:Int)<=(i:Int)+1:=aQ;have R:i+1 - i=1:=aQ;rw[R] at f;clear l;go_enter func251,ntmps251
  go_wp2_with fail
  go_region_law (refine step_append_room rfl (.tmp 22) (.tmp 25) 319 rfl 248 i0 3 underlying319 n p g 0 i (i+1) (by simp[Act.eval,Act.put]) ⟨g,0,none⟩ 0 0 [] (by simp[Act.eval,Act.put]) s1.o C.o s2.o aQ D.o ?_;rw[<-F.o])
  go_wp2
  go_ret
  exact⟨fJ aQ,a.o.1,⟨a.o.2.os,a.o.2.tape,a.o.2.output,a.o.2.size,a.o.2.block⟩⟩
 .have f:=λty=>l ty (i+1+k - (i+k)) (c - (i+k)) aQ
  clear l;go_enter func251,ntmps251
  go_wp2_with fail
  go_region_law (refine step_append_room rfl (.tmp 22) (.tmp 25) 319 rfl 248 i0 3 underlying319 n p g 0 i c (by simp[Act.eval,Act.put]) ⟨g,(i+1) *3,none⟩ k (c - (i+1)) news (by simp[Act.eval,Act.put]) s1.o I.o s2.o aQ D.o ?_;rw[<-F.o])
  go_wp2
  go_ret
  exact⟨fJ aQ,a.o.1,⟨a.o.2.os,a.o.2.tape,a.o.2.output,a.o.2.size,a.o.2.block⟩⟩
def PE(k:Int):ByteArray:=if k=1 then⟨#[116,105,109,101,114]⟩ else if k=2 then⟨#[105,110,116,101,114,114,117,112,116]⟩ else if k=3 then⟨#[98,101,103,105,110,115]⟩ else if k=4 then⟨#[101,110,100,115]⟩ else if k=5 then⟨#[119,97,110,116,101,100]⟩ else if k=6 then⟨#[116,97,107,101,110]⟩ else if k=7 then⟨#[109,101,115,115,97,103,101]⟩ else if k=8 then⟨#[102,97,117,108,116]⟩ else⟨#[]⟩
theorem Jj{k:Int}(h:UT k=false):PE k=⟨#[]⟩:=by
 have a:¬(1<=k/\k<=8):=adJ h;unfold PE;repeat rw[aaL aQ]
theorem OS{k:Int}(h:UT k=true):k=1\/k=2\/k=3\/k=4\/k=5\/k=6\/k=7\/k=8:=by
 have a:1<=k/\k<=8:=acC h;omega
theorem Ce{k:Int}(h:UT k=true):(PE k).toList.isEmpty=false:=by
 rcases OS h with rfl|rfl|rfl|rfl|rfl|rfl|rfl|rfl <;> kernel_rfl
theorem Fy(k:Int)(w:aA):aG prog 158 #[k] w λe w'=>e= .returned (.string (PE k))/\w=w':=by
 cases h:UT k
 .have a:¬(1<=k/\k<=8):=adJ h;rw[Jj h];have q1:(k==1)=false:=bL;have b:(k==2)=false:=bL;have c:(k==3)=false:=bL;have d:(k==4)=false:=bL;have f:(k==5)=false:=bL;have g:(k==6)=false:=bL;have i:(k==7)=false:=bL;have j:(k==8)=false:=bL;go_enter func158,ntmps158
  go_wp2
  go_ret
  exact⟨rfl,rfl⟩
 .rcases OS h with rfl|rfl|rfl|rfl|rfl|rfl|rfl|rfl
  all_goals
   go_enter func158,ntmps158
   go_wp2
   go_ret
   exact⟨rfl,rfl⟩
theorem Nk(k:Int)(w:aA):aG prog 159 #[k] w λe w'=>e= .returned (.bool (MP k))/\w=w':=by
 unfold MP;cases h1:(k==1)
 .cases a:(k==3)
  .go_enter func159,ntmps159
   go_wp2
   go_ret
   exact⟨rfl,rfl⟩
  .go_enter func159,ntmps159
   go_wp2
   go_ret
   exact⟨rfl,rfl⟩
 .go_enter func159,ntmps159
  go_wp2
  go_ret
  exact⟨rfl,rfl⟩
theorem J7(g i:Nat)(hi:i<8)(w:aA):aG prog 157 #[.pointer g,i] w λe w'=>e= .returned (.pointer (some ⟨g,i *2,none⟩))/\w=w':=by
 have a:¬(i:Int)<0:=aQ;have h1:¬(8:Int)<=(i:Int):=aQ;have b:(0:Int)<=i:=aQ;have c:(i:Int)<8:=aQ;go_enter func157,ntmps157
 go_wp2
 go_ret
 exact⟨rfl,rfl⟩
end Up
end
section
namespace Up
theorem Cy(R:List uR)(i:Nat)(hi:i<R.length)(L:List Up)(a:L.length=R[i].L.length):(R.set i ⟨R[i].A,R[i].c,L,R[i].lost⟩).flatMap vU=R.flatMap vU:=by
 induction R generalizing i with
 |nil=>simp at hi
 |cons r R b=>
  cases i with
  |zero=>simp at a;simp[vU,a]
  |succ i=>simp only[aaN,abK,ac4];rw[b i (by simpa using hi) (by simpa using a)]
variable{w w':aA}{g i:Nat}
theorem nY.row{R:List uR}(h:nY w g R)(hi:i<R.length)(m:w.grownBy w' (aZ R[i].A)){L:List Up}(ho:bB eP 3 w' (g+1) 248 R[i].A R[i].c L)(n:L.length=R[i].L.length):
 nY w' g (R.set i ⟨R[i].A,R[i].c,L,R[i].lost⟩):=by
 have f:some g≠aZ R[i].A:=λe=>by have:=h.lt hi g e.symm;omega
 refine⟨by rw[aaV];exact h.len,?_,λj a=>?_,λj k a hk b=>?_⟩
 .rw[Cy R i hi L n];exact h.at_.grown m f
 .rw[aaV] at a;rw[abF];split
  .exact ho
  .rename_i d;exact(h.own j a).kept m (h.zZ j i a hi aQ)
 .rw[aaV] at a hk;rw[abF,abF];split
  .rename_i d;subst d;split
   .omega
   .exact h.zZ i k a hk b
  .split
   .rename_i l;subst l;exact h.zZ j i a hk b
   .exact h.zZ j k a hk b
theorem KV{o:Nat}(h:w'.heap[g]?=w.heap[g]?):w'.frozen? (g,o)=w.frozen? (g,o):=by simp only[World.frozen?,h]
variable{u:Up}{j:Nat}
theorem TS{r:Ct}(h:nZ r.L u=some j):dM r u=⟨r.L.set j u,r.lost⟩/\I3 r u=0:=by unfold dM I3;rw[h];exact⟨rfl,rfl⟩
theorem Fp{r:Ct}(h:nZ r.L u=none)(a:8<=r.L.length):dM r u=⟨r.L,Go.RowKit.wrap64 (r.lost+1)⟩/\I3 r u=20:=by unfold dM I3;rw[h];simp only;rw[aaK a,aaK a];exact⟨rfl,rfl⟩
theorem Pk{r:Ct}(h:nZ r.L u=none)(a:¬8<=r.L.length):dM r u=⟨r.L++ [u],r.lost⟩/\I3 r u=0:=by unfold dM I3;rw[h];simp only;rw[aaL a,aaL a];exact⟨rfl,rfl⟩
end Up
end
section
namespace Up
theorem FO(w:aA)(b o:Nat)(x:Up):w.grownBy (ML w b o x) (some b):=aY (aY (aY (bE w b) _ _) _ _) _ _
variable{w:aA}{v0 v1 v2:aC}
theorem JR{b:Nat}(x:Up){t:TypeId}(h:bC w b t #[v0,v1,v2]):bC (ML w b 0 x) b t #[x.kind,x.a, .int .u64 x.b]:=((h.bQ 0 _).bQ 1 _).bQ 2 _
variable{w':aA}{g:Nat}
theorem nY.mG{b:Nat}{R:List uR}(h:nY w g R)(a:w.grownBy w' (some b))(h1:g≠b)(c:∀i,(hi:i<R.length)->aZ R[i].A≠some b):nY w' g R:=
 ⟨h.len,h.at_.grown a (by simpa using h1),λi hi=>(h.own i hi).kept a (.inr (c i hi)),h.zZ⟩
theorem take_nil(g i:Nat)(hi:i<8)(R:List uR)(w:aA)(d:nY w g R)(a:i<R.length)(b:R[i].L= []):aG prog 219 #[.pointer g,i] w λe w'=>e= .returned (.tuple #[.agg #[aU,aU,cO], .int .i64 6])/\aD w w w':=by
 have H:=aP (λW=>J7 g i hi W);have c0:=((d.keep (aX w (aI #[aU,aU,cO] 248))).cells a).1;rw[b] at c0;simp only[ab5] at c0;generalize R[i].A=A at *;generalize R[i].c=c at *;clear hi b;go_enter func219,ntmps219
 go_wp2_with fail
 refine(H.o _).mono ?_;rintro e f ⟨rfl,rfl⟩;go_wp2_with fail
 exact bodyPost_ret (v:= .tuple #[.agg #[aU,aU,cO], .int .i64 6]) (by simp[results,results219,go_sem]) rfl ⟨rfl,aX _ _⟩
end Up
end
namespace Up
def C1(L:List Up)(w:aA)(e:aM)(w':aA):Prop:=∃(O:Option aJ) (d:Nat),e= .returned (.slice O L.length d)/\Sl eP 3 w' O L/\aD w w w'
theorem Ak(A:Option aJ)(L:List Up)(c:Nat)(base:Nat)(w:aA)(ho:bB eP 3 w base 248 A c L)(h:L.length<=1000):
 aG prog 252 #[(A,L.length,c)] w (C1 L w):=by
 rcases ho.shape with⟨rfl,rfl,rfl⟩|⟨q,rfl⟩
 .simp only[ab5];have hq:=λw=>Lib.run_eql_slice_nil (P:=prog) w 319 248 none 0 0 0 0 underlying319
  go_enter func252,ntmps252
  go_wp2
  go_ret
  exact⟨none,0,rfl,Sl.nil _ _,Below.refl _ _⟩
 .have hs:=ho.sl wN;have hq:q<w.heap.size:=(ho.lt q rfl).2;clear ho;have d:=λw=>Lib.run_eql_slice_nil (P:=prog) w 319 248 q L.length c 0 0 underlying319
  go_enter func252,ntmps252
  go_wp2_with(at_builtin;refine bN _ rfl _ _ rfl Ws wN (bB.empty w 248 (base:=w.heap.size) (aaH _)) (n:=0) rfl rfl (m:=L.length) rfl (ys:=L) rfl (hs.alloc _) dT aQ aT _ rfl L.length aT ?_;intro e f i a b g;simp only[aeK] at a)
  go_ret
  exact⟨e,f,rfl,a.sl wN,(aX _ _).grown b aT (λk hk=>by simp[aZ] at hk;omega)⟩
def Uz(L:List Up)(lost:Int)(w:aA)(e:aM)(w':aA):Prop:=∃(O:Option aJ) (d:Nat),e= .returned (.tuple #[(O,L.length,d),lost])/\Sl eP 3 w' O L/\aD w w w'
theorem Nc(g i:Nat)(hi:i<8)(R:List uR)(w:aA)(b:nY w g R)(a:i<R.length)(h:R[i].L.length<=8):
 aG prog 220 #[.pointer g,i] w (Uz R[i].L R[i].lost w):=by
 have H:=aP (λW=>J7 g i hi W);have c0:=(b.cells a).1;have c1:=(b.cells a).2;have j:=aP (Ak _ _ _ _ w.drew (b.own i a).drew aQ);generalize R[i]=r at *;clear b a hi;go_enter func220,ntmps220
 go_wp2_with fail
 refine(H.o _).mono ?_;rintro e l ⟨rfl,rfl⟩;go_wp2_with fail
 go_region_with ((go_at_call 252;refine j.o.mono ?_;rintro e m ⟨O,d,rfl,c,f⟩;(have k:=bD (W:=w.drew) f c1)))
 all_goals
  go_wp2_with fail
  go_ret2
  exact⟨O,d,rfl,c,dQ (Below.drew (Below.refl _ _)) (aaH _) f⟩
end Up
namespace Up
def UB(F:Nat->Prop)(n g:Nat)(R:List uR):Prop:=∀b,F b->b<n/\b≠g/\∀r∈R,aZ r.A≠some b
def Rf(F:Nat->Prop)(w:aA)(g:Nat)(C:List Ct):Prop:=∃R,nY w g R/\R.map vA=C/\UB F w g R
variable{i n:Nat}{A:Option aJ}
section
variable{F:Nat->Prop}{a w w':aA}{g:Nat}{C:List Ct}{R:List uR}
theorem _root_.Go.Proofs.YtacgiflhgdaeaaaGreat.Kp.bQ(hF:∀b,F b->b≠g)(o:Nat)(u:aC):Kp F w (w.setCell (g,o) u):=⟨rfl,rfl,rfl,by simp[World.setCell],λk hk=>Below.heap_setCell w ⟨g,o,none⟩ u k (hF k hk)⟩
theorem Rf.keep(h:Rf F w g C)(d:aD w w w'):Rf F w' g C:=by
 obtain⟨R,h1,f,e⟩:=h;exact⟨R,h1.keep d,f,λb c=>⟨aaJ (e b c).1 d.size,(e b c).2⟩⟩
theorem Rf.drew(h:Rf F w g C):Rf F w.drew g C:=by
 obtain⟨R,h1,b,c⟩:=h;exact⟨R,h1.drew,b,c⟩
theorem Rf.lt(h:Rf F w g C):∀b,F b->b<w.heap.size:=λb c=>by
 obtain⟨R,_,_,d⟩:=h;exact(d b c).1
theorem UB.bQ(h:UB F w g R)(hi:i<R.length){c:Nat}{L:List Up}{v:Int}(o:w.heap.size<=n)(k:aZ A=aZ R[i].A\/aZ A=none\/∃q,aZ A=some q/\w.heap.size<=q):UB F n g (R.set i ⟨A,c,L,v⟩):=by
 intro b l;obtain⟨h1,m,j⟩:=h b l;refine⟨aQ,m,λr f e=>?_⟩;rcases abW f with f|rfl
 .exact j r f e
 .simp only at e;rcases k with d|d|⟨q,d,hq⟩
  .exact j _ (aaM hi) (d.symm.trans e)
  .rw[d] at e;cases e
  .rw[d] at e;injection e with e;omega
end
end Up
namespace Up
def Vy(F:Nat->Prop)(g:Nat)(C:List Ct)(r:Int)(w:aA)(e:aM)(w':aA):Prop:=e= .returned (.int .i64 r)/\Rf F w' g C/\Kp F w w'
theorem Kc(F:Nat->Prop)(g i:Nat)(hi:i<8)(u:Up)(hu:UT u.kind=true)(R:List uR)(w:aA)(hR:nY w g R)(l:i<R.length)(A:Option aJ)(c:Nat)(L:List Up)(lost:Int)(f:R[i]=⟨A,c,L,lost⟩)(hl8:L.length<=8)(hF:UB F w g R):
 aG prog 117 #[.pointer g,i, .agg #[u.kind,u.a, .int .u64 u.b]] w (Vy F g ((R.map vA).set i (dM ⟨L,lost⟩ u)) (I3 ⟨L,lost⟩ u) w):=by
 have H:=aP (λW=>J7 g i hi W);have HN:=aP (λW=>Fy u.kind W);have HRN:=aP (λW=>Nk u.kind W);have hq:=Ce hu;have hgw:g<w.heap.size:=hR.at_.lt;have s:=aX w (aI #[u.kind,u.a, .int .u64 u.b] 248);have bu:=bC.new w 248 #[u.kind,u.a, .int .u64 u.b];have U:=aP hR;have J:=aP hF;clear hF;clear hR hi;have X:aH (∀q,aZ A=some q->g<q/\q<w.heap.size):=λq hq=>by
  have:=U.o.lt l q;rw[f] at this;exact this hq
 have HC:aH (∀W,aD w w W->W.cell? (g,i *2)=some (.slice A L.length c)/\W.cell? (g,i *2+1)=some (.int .i64 lost)):=λW B=>by
  have:=(U.o.keep B).cells l;rw[f] at this;exact this
 have HO:aH (∀W,aD w w W->bB eP 3 W (g+1) 248 A c L):=λW B=>by
  have:=(U.o.keep B).own i l;rw[f] at this;exact this
 have HPT:aH (∀W Q,aD w w W->W.grownBy Q (aZ A)->∀A' c' P,bB eP 3 Q (g+1) 248 A' c' P->(aZ A'=aZ A\/aZ A'=none\/∃q,aZ A'=some q/\W.heap.size<=q)->Rf F (Q.setCell (g,i *2) (.slice A' P.length c')) g ((R.map vA).set i ⟨P,lost⟩)):=λW Q B hg A' c' P ho hA=>by
  have hk:=U.o.keep B;have:=hk.put l (by rw[f];exact hg) ho (by rw[f];exact hA);have lF:=B.size;refine⟨_,this,by rw[K3,f];rfl,J.o.bQ l (by have:=hg.size;simp[World.setCell];omega) ?_⟩;rw[f];rcases hA with e|e|⟨q,e,hq⟩
  .exact .inl e
  .exact .inr (.inl e)
  .exact .inr (.inr ⟨q,e,aQ⟩)
 have HRW:aH (∀W Q,aD w w W->W.grownBy Q (aZ A)->∀P,bB eP 3 Q (g+1) 248 A c P->P.length=L.length->Rf F Q g ((R.map vA).set i ⟨P,lost⟩)):=λW Q B hg P ho hA=>by
  have hk:=U.o.keep B;have:=hk.row l (by rw[f];exact hg) (L:=P) (by rw[f];exact ho) (by rw[f];exact hA);have lF:=B.size;exact⟨_,this,by rw[K3,f];rfl,J.o.bQ l (by have:=hg.size;omega) (.inl rfl)⟩
 have HLS:aH (∀W v,aD w w W->Rf F (W.setCell (g,i *2+1) (.int .i64 v)) g ((R.map vA).set i ⟨L,v⟩)):=λW v B=>by
  have:=(U.o.keep B).rH l v;have lF:=B.size;exact⟨_,this,by rw[K3,f];rfl,J.o.bQ l (by simp[World.setCell];omega) (.inl rfl)⟩
 have HFZ:aH (∀W k,aD w w W->W.frozen? ⟨g,k,none⟩=false):=λW k B=>(U.o.keep B).at_.frozen k
 have p:aH (∀b,F b->b<w.heap.size/\b≠g/\some b≠aZ A):=λb t=>by
  obtain⟨q1,q2,q3⟩:=J.o b t;refine⟨q1,q2,λe=>q3 _ (aaM l) ?_⟩;rw[f];exact e.symm
 clear f U l J;generalize R.map vA=C at *;clear R;go_enter func117,ntmps117
 go_wp2_with fail
 refine(H.o _).mono ?_;rintro e w2 ⟨rfl,rfl⟩;go_wp2_with fail
 refine(HN.o _).mono ?_;rintro e w2 ⟨rfl,rfl⟩;go_wp2_with fail
 refine(HRN.o _).mono ?_;rintro e w2 ⟨rfl,rfl⟩;clear hq H HN HRN hu;have x:w.heap.size<(w.alloc (aI #[u.kind,u.a, .int .u64 u.b] 248)).heap.size:=bu.lt;generalize w.alloc (aI #[u.kind,u.a, .int .u64 u.b] 248)=W at *;go_upto_if 25 with(fail)
 go_cut [6] (λs6 wx=>s6= .int .i64 0/\aD w w wx/\bC wx w.heap.size 248 #[u.kind,u.a, .int .u64 u.b]/\w.heap.size<wx.heap.size/\aH (nZ L u=none))
 case first=>
  cases hr:MP u.kind
  .have HO:aH (nZ L u=none):=Ke hr;go_wp2_with fail
   go_meet
   exact⟨rfl,s,bu,x,HO.o⟩
  .have c0:=(HC.o _ s).1;have HRU:=aP hr;clear hr;go_wp2_with fail
   go_loopw [6,8,9,31] (λs6 _ _ s31 wr=>∃k:Nat,k<=L.length/\s31= .int .i64 k/\s6= .int .i64 0/\aD w w wr/\bC wr w.heap.size 248 #[u.kind,u.a, .int .u64 u.b]/\w.heap.size<wr.heap.size/\aH (∀j,(S:j<L.length)->j<k->qK u L[j]=false)) (λ_ _ _ i _=>L.length - (intOf i).toNat)
   case atStart=>exact⟨0,aaQ _,rfl,rfl,s,bu,x,λj S h=>absurd h (acK _)⟩
   case round=>
    clear s bu x c0;obtain⟨k,hk,rfl,rfl,s,bu,x,HA⟩:=hrel;by_cases K:k<L.length
    .have d:=HO.o _ s;rcases d.shape with⟨rfl,rfl,rfl⟩|⟨q,rfl⟩
     .exact absurd K aT
     obtain⟨hq1,hq2⟩:=X.o q rfl;obtain⟨y0,y1,y2⟩:=QZ d K;have k0:(0:Int)<=k:=aQ;have k1:(k:Int)<(L.length:Int):=aQ;have D:aH (qK u L[k]=true->nZ L u=some k):=λh=>Na HRU.o K h (λj S=>HA.o j aQ S)
     have M:aH (qK u L[k]=false->∀j,(S:j<L.length)->j<k+1->qK u L[j]=false):=λh j S hjk=>by
      by_cases he:j=k
      .subst he;exact h
      .exact HA.o j S aQ
     clear HA d;generalize L[k]=o at *;have bo:=aX wr (aI #[o.kind,o.a, .int .u64 o.b] 248);have E:=bu.keep bo;have y:=dQ s (aaH _) bo;have x0:=E.cell 0 u.kind rfl;have x1:=E.cell 1 u.a rfl;have x2:=E.cell 2 (.int .u64 u.b) rfl;have hza:w.heap.size<(wr.alloc (aI #[o.kind,o.a, .int .u64 o.b] 248)).heap.size:=E.lt;cases e1:(o.kind==u.kind)
     .have HF:aH (qK u o=false):=by unfold aH qK;rw[e1];rfl
      have Y:=aP (M.o HF.o);clear D M HF;go_wp2_with fail
      go_roundw
      case rel=>exact⟨k+1,aQ,by go_num,rfl,y,E,hza,Y.o⟩
      case measure=>simp[intOf];omega
     .cases e2:(o.a==u.a)
      .have HF:aH (qK u o=false):=by unfold aH qK;rw[e1,e2];rfl
       have Y:=aP (M.o HF.o);clear D M HF;go_wp2_with fail
       go_roundw
       case rel=>exact⟨k+1,aQ,by go_num,rfl,y,E,hza,Y.o⟩
       case measure=>simp[intOf];omega
      .have HT:aH (qK u o=true):=by unfold aH qK;rw[e1,e2];rfl
       have z:=aP (D.o HT.o);clear D M HT;go_upto_region 11 with(fail)
       have d:=HO.o _ y;generalize wr.alloc (aI #[o.kind,o.a, .int .u64 o.b] 248)=Wa at *;have c0:=(HC.o _ y).1;have T:=Hv d K u;have z0:=(cH d (k *3) (by have:=d.cap;omega)).2;have z1:=(cH d (k *3+1) (by have:=d.cap;omega)).2;have z2:=(cH d (k *3+1+1) (by have:=d.cap;omega)).2;obtain⟨v0,v1,v2⟩:=QZ d K;have G:=aP (HRW.o _ _ y T.2 _ T.1 aT);have Z:aH (Kp F w (ML Wa q (k *3) u)):=(Kp.dD y (λb t=>(p.o b t).1)).trans (Kp.grown T.2 (λb t=>⟨aaJ (p.o b t).1 y.size,(p.o b t).2.2⟩));clear T d;go_region
       all_goals
        go_wp2_with fail
        go_ret
        refine⟨?_,?_,?_⟩
        .exact gY (TS (r:=⟨L,lost⟩) z.o).2.symm
        .rw[(TS (r:=⟨L,lost⟩) z.o).1];exact G.o.drew
        .exact Z.o.drew
    .obtain rfl:k=L.length:=aQ;have z:aH (nZ L u=none):=Ib (λj S=>HA.o j S S);go_wp2_with fail
     go_meet
     exact⟨rfl,s,bu,x,z.o⟩
 case rest=>
  clear s bu x HRW;obtain⟨rfl,s,bu,x,z⟩:=hcut;have c0:=(HC.o _ s).1;have c1:=(HC.o _ s).2;by_cases h8:8<=L.length
  .have h8':(8:Int)<=(L.length:Int):=aQ;have N:=aP (Fp (r:=⟨L,lost⟩) z.o h8);have G:=aP (HLS.o wc (wrap64 (lost+1)) s);have f1:=HFZ.o wc (i *2+1) s;go_wp2_with fail
   go_ret
   refine⟨gY N.o.2.symm,?_,(Kp.dD s (λb t=>(p.o b t).1)).trans (Kp.bQ (λb t=>(p.o b t).2.1) _ _)⟩;rw[N.o.1];exact G.o
  .have h8':¬(8:Int)<=(L.length:Int):=aQ;have N:=aP (Pk (r:=⟨L,lost⟩) z.o h8);have x0:=bu.cell 0 u.kind rfl;have x1:=bu.cell 1 u.a rfl;have x2:=bu.cell 2 (.int .u64 u.b) rfl;have hbn:=aX wc.drew (aI #[u.kind,u.a, .int .u64 u.b] 248);have I:aH (aD w w (wc.drew.alloc (aI #[u.kind,u.a, .int .u64 u.b] 248))):=dQ s.drew (aaH _) hbn;have c0a:=(HC.o _ I.o).1;have c0b:=(HC.o _ (dQ s (aaH _) (aX wc (aI #[u.kind,u.a, .int .u64 u.b] 248)))).1;have hgs:g+1<=wc.heap.size:=aQ;clear hbn bu;go_wp2_with fail
   go_region_law (refine lO _ rfl (.tmp 73) (.tmp 75) rfl Ws wN (base:=g+1) (xs:=L) (HO.o _ I.o) (n:=L.length) rfl rfl (m:=1) rfl (ys:= [u]) rfl (Sl.gK wN wc.drew u _ rfl _ rfl) dT aQ (by simp[World.drew];omega) _ rfl (L.length+1) rfl ?_;intro A5 c5 w5 V O at5;(have b5:w5.cell? (g,i *2)=some (.slice A L.length c):=by rw[World.cell?_of_block (O.block g (by simp[World.drew];omega) (λe=>by have:=X.o g e.symm;omega))];exact c0a);(have f5:w5.frozen? (g,i *2)=false:=by have:=HFZ.o _ (i *2) I.o;rw[<-this];exact KV (O.block g (by simp[World.drew];omega) (λe=>by have:=X.o g e.symm;omega))))
   all_goals
    have G:=aP (HPT.o _ _ I.o O A5 c5 (L++ [u]) V (by rcases at5 with e|e;exact .inl e;exact .inr (.inr ⟨_,e,aaH _⟩)));have Z:aH (Kp F w w5):=(Kp.dD I.o (λb t=>(p.o b t).1)).trans (Kp.grown O (λb t=>⟨aaJ (p.o b t).1 I.o.size,(p.o b t).2.2⟩));have hll:(L++ [u]).length=L.length+1:=aT;rw[hll] at G;clear hll V O at5;go_wp2_with fail
    go_ret
    refine⟨gY N.o.2.symm,?_,Z.o.trans (Kp.bQ (λb t=>(p.o b t).2.1) _ _)⟩;rw[N.o.1];exact G.o
end Up
namespace Up
def Vk(F:Nat->Prop)(g:Nat)(C:List Ct)(x:Up)(r:Int)(w:aA)(e:aM)(w':aA):Prop:=e= .returned (.tuple #[.agg #[x.kind,x.a, .int .u64 x.b],r])/\Rf F w' g C/\Kp F w w'
theorem XI(F:Nat->Prop)(g i:Nat)(hi:i<8)(R:List uR)(w:aA)(G:nY w g R)(f:i<R.length)(A:Option aJ)(c:Nat)(x:Up)(L:List Up)(lost:Int)(l:R[i]=⟨A,c,x::L,lost⟩)(hl8:L.length<=8)(hF:UB F w g R):
 aG prog 219 #[.pointer g,i] w (Vk F g ((R.map vA).set i ⟨L,lost⟩) x 0 w):=by
 have H:=aP (λW=>J7 g i hi W);have hgw:g<w.heap.size:=G.at_.lt;have C:=aX w (aI #[aU,aU,cO] 248);have s:=G.keep C;have r1:=bC.new w 248 #[aU,aU,cO];have t:=aX (w.alloc (aI #[aU,aU,cO] 248)) (aI #[x.kind,x.a, .int .u64 x.b] 248);have D:aD w w _:=dQ C (aaH _) t;have u:=s.keep t;have c0:=(s.cells f).1;have c3:=(u.cells f).1;have k:=s.own i f;have d:=u.own i f;have P:aH (∀q,aZ A=some q->g<q/\q<w.heap.size):=λq hq=>by
  have:=G.lt f q;rw[l] at this;exact this hq
 have I:=aP hF;have n:aH (∀b,F b->b<w.heap.size/\b≠g/\some b≠aZ A):=λb r=>by
  obtain⟨q1,q2,q3⟩:=I.o b r;refine⟨q1,q2,λe=>q3 _ (aaM f) ?_⟩;rw[l];exact e.symm
 clear hF;rw[l] at c0 c3 k d;simp only at c0 c3 k d;rcases k.shape with⟨_,h,_⟩|⟨q,rfl⟩
 .simp at h
 obtain⟨hq1,hq2⟩:=P.o q rfl;obtain⟨S,T,U⟩:=QZ k (i:=0) aT;simp only[adY,adB,abQ] at S T U;have HD:aH (∀W,bB eP 3 W (g+1) 248 (some ⟨q,0,none⟩) c (x::L)->aG prog 251 #[.slice (some ⟨q,0,none⟩) (x::L).length c,aU, .int .i64 1] W λe w'=>e= .returned (.slice (some ⟨q,0,none⟩) L.length c)/\bB eP 3 w' (g+1) 248 (some ⟨q,0,none⟩) c L/\W.grownBy w' (some q)):=λW hW=>lP q c 0 L.length (g+1) (x::L) W hW bL bL
 have J:=aP d;have V:=bC.gK (w.alloc (aI #[aU,aU,cO] 248)) 248 #[x.kind,x.a, .int .u64 x.b] (g:=w.heap.size+1) aT;have X:=r1.keep t;have y:=aP u;have hlq:((x::L).length:Int)=(L.length:Int)+1:=aT;have hln:((L.length:Int)+1==0)=false:=bL;have Q:aH (∀j,(K:j<R.length)->∀q,aZ R[j].A=some q->q<w.heap.size):=λj K q hq=>(G.lt K q hq).2
 clear G s u k d r1 C t hi;go_enter func219,ntmps219
 go_wp2_with fail
 refine(H.o _).mono ?_;rintro e w2 ⟨rfl,rfl⟩;go_wp2_with fail
 refine(HD.o _ J.o).mono ?_;rintro e N ⟨rfl,z,m⟩;have M:some g≠some q:=bL;have Y:=y.o.at_.grown m M;have Z:=X.grown m bL;have x4:=V.grown m bL;have f4:=Y.frozen (i *2);have z4:N.cell? (g,i *2)=some (.slice (some ⟨q,0,none⟩) (x::L).length c):=by
  rw[World.cell?_of_block (m.block g (y.o.at_.lt) M)];exact c3
 have HT:aH (nY (N.setCell (g,i *2) (.slice (some ⟨q,0,none⟩) L.length c)) g (R.set i ⟨some ⟨q,0,none⟩,c,L,lost⟩)):=by
  have:=y.o.put f (by rw[l];exact m) z (by rw[l];exact .inl rfl);rw[l] at this;exact this
 have E:aH (Kp F w (N.setCell (g,i *2) (.slice (some ⟨q,0,none⟩) L.length c))):=((Kp.dD D (λb r=>(n.o b r).1)).trans (Kp.grown m (λb r=>⟨aaJ (n.o b r).1 D.size,(n.o b r).2.2⟩))).trans (Kp.bQ (λb r=>(n.o b r).2.1) _ _);have B:=Z.mG (p:=⟨g,i *2,none⟩) bL (.slice (some ⟨q,0,none⟩) L.length c);have O:=x4.mG (p:=⟨g,i *2,none⟩) bL (.slice (some ⟨q,0,none⟩) L.length c);have u0:=O.cell 0 x.kind rfl;have u1:=O.cell 1 x.a rfl;have u2:=O.cell 2 (.int .u64 x.b) rfl;have HQ:=aP B;have v0:=B.cell 0 (.int .i64 0) rfl;have v1:=B.cell 1 (.int .i64 0) rfl;have v2:=B.cell 2 (.int .u64 0) rfl;have g0:=B.frozen 0;have g1:=B.frozen 1;have g2:=B.frozen 2;clear B O Z x4 Y z m c3 c0 S T U X V HD D J y;generalize hW4:N.setCell (g,i *2) (.slice (some ⟨q,0,none⟩) L.length c)=W4 at *;go_wp2_with fail
 obtain⟨d0,d1,d2⟩:_/\_/\_:=⟨(JR x HQ.o).cell 0 x.kind rfl,(JR x HQ.o).cell 1 x.a rfl,(JR x HQ.o).cell 2 (.int .u64 x.b) rfl⟩
 change bodyPost _ _ _ _ _ (ML W4 w.heap.size 0 x)
 refine bodyPost_ret (v:= .tuple #[.agg #[x.kind,x.a, .int .u64 x.b],aU]) (by simp[results,results219,go_sem,d0,d1,d2]) rfl ⟨rfl,⟨_,HT.o.mG (FO _ _ _ _) aQ (λj K e=>?_),by rw[K3];rfl,I.o.bQ f (by have:=E.o.size;have:=(FO W4 w.heap.size 0 x).size;omega) (.inl (by rw[l]))⟩,E.o.trans (Kp.grown (FO _ _ _ _) (λb r=>⟨aaJ (n.o b r).1 E.o.size,λe=>by injection e with e;have:=(n.o b r).1;omega⟩))⟩;rw[aaV] at K;rw[abF] at e;split at e
 .simp only[aZ,abL,adN] at e;omega
 .have:=Q.o j K _ e;omega
end Up
end
section
open Go.RowKit Go.Lib Go.Shelf dH Fr Up
variable{F:Nat->Prop}{w w':aA}{g:Nat}{L:List En}{A A':Option aJ}{h:Int}
section
def iJ(F:Nat->Prop)(w:aA)(g:Nat)(L:List En):Prop:=∃A c h m,Tb w g A c L h m/\Ol F w/\¬F g/\∀q,aZ A=some q->¬F q
theorem iJ.bX(g:Nat)(L:List En):dV (λF w=>iJ F w g L):=λ_ _ _ _ _ ⟨A,c,h,m,t,_,a,b⟩ k d fl hH=>
 ⟨A,c,h,m,⟨k.aZ t.1 (d g t.1.lt a),t.2.kp k (λq hq=>d q (t.2.lt q hq).2 (b q hq))⟩,fl,hH g t.1.lt a,λq hq=>hH q (t.2.lt q hq).2 (b q hq)⟩
theorem iJ.keep(h:iJ F w g L)(a:aD w w w'):iJ F w' g L/\Kp F w w':=by
 obtain⟨A,c,x,m,h1,b,d,e⟩:=h;exact⟨⟨A,c,x,m,h1.keep a,b.kp (b.below a),d,e⟩,b.below a⟩
theorem iJ.tw{c:Nat}{m:Int}(a:Ol F w)(d:¬F g)(f:∀q,aZ A=some q->¬F q)(t:Tb w' g A' c L h m)(k:Tw w w' g (aZ A))(b:aZ A'=aZ A\/∀q,aZ A'=some q->w.heap.size<=q):iJ F w' g L/\Kp F w w':=by
 have kp:Kp F w w':=⟨k.os,k.tape,k.output,k.size,λi hi=>k.block i (a i hi) (λe=>d (e ▸ hi)) (λe=>f i e.symm hi)⟩
 refine⟨⟨A',c,h,m,t,a.kp kp,d,λq hq hF=>?_⟩,kp⟩;rcases b with e|e
 .exact f q (e ▸ hq) hF
 .have:=a q hF;have:=e q hq;omega
def Yc(F:Nat->Prop)(g:Nat)(L:List En)(v:aC)(w:aA)(e:aM)(w':aA):Prop:=e= .returned v/\iJ F w' g L/\Kp F w w'
def B8(L:List En)(X:En):List En:=if lE X then ld L X else L
theorem OE(h:iJ F w g L)(f:L.length<=100)(X:En):
 aG prog 210 #[.pointer g, .agg #[X.env,X.cY,X.frame,X.write]] w λe w'=>∃(y:En) (b:Bool),Yc F g (B8 L X) (.tuple #[.agg #[y.env,y.cY,y.frame,y.write],b, .int .i64 (if lE X then 0 else 1)]) w e w':=by
 cases a:lE X with
 |false=>
  refine(Nh X g w a).mono ?_;rintro e w' ⟨rfl,i⟩;refine⟨⟨0,0,0,false⟩,false,rfl,?_⟩;unfold B8;rw[a];exact h.keep i
 |true=>
  obtain⟨A,c,x,m,t,j,l,n⟩:=h;refine(Kl X g A c L x m w a t f).mono ?_;rintro e w' ⟨y,b,A',p,rfl,o,k,d⟩;refine⟨y,b,rfl,?_⟩;unfold B8;rw[a];exact iJ.tw j l n o k d
structure DT(F:Nat->Prop)(w:aA)(g:Nat)(s:fO):Prop where
 m:Fm w g s
 ol:Ol F w
 nf:¬F g
theorem DT.bX(g:Nat)(s:fO):dV (λF w=>DT F w g s):=λ_ _ _ _ _ h k a fl hH=>⟨⟨h.m.n0,h.m.t,h.m.b,k.aZ h.m.at_ (a g h.m.at_.lt h.nf)⟩,fl,hH g h.m.at_.lt h.nf⟩
theorem DT.keep{s:fO}(h:DT F w g s)(a:aD w w w'):DT F w' g s/\Kp F w w':=⟨⟨h.m.keep a,h.ol.kp (h.ol.below a),h.nf⟩,h.ol.below a⟩
theorem DT.eV{s s':fO}(h:DT F w g s)(hm:Fm w' g s')(a:w.grownBy w' (some g)):DT F w' g s'/\Kp F w w':=⟨⟨hm,h.ol.kp (h.ol.self h.nf a),h.nf⟩,h.ol.self h.nf a⟩
def u7(F:Nat->Prop)(w:aA)(g:Nat):Prop:=∃C:List Ct,Rf F w g C/\C.length=8/\∀r∈C,r.L.length<=8
theorem u7.bX(g:Nat):dV (λF w=>u7 F w g):=λF G H w w' ⟨C,⟨R,h1,j,f⟩,h8,hl⟩ k h fl hH=>by
 have ng:¬F g:=λc=>(f g c).2.1 rfl
 have a:∀i (hi:i<R.length) q,aZ R[i].A=some q->q<w.heap.size/\¬F q:=λi hi q hq=>⟨(h1.lt hi q hq).2,λc=>(f q c).2.2 _ (aaM hi) hq⟩
 refine⟨C,⟨R,⟨h1.len,k.aZ h1.at_ (h g h1.at_.lt ng),λi hi=>(h1.own i hi).kp k (λq hq=>h q (a i hi q hq).1 (a i hi q hq).2),h1.zZ⟩,j,λb d=>⟨fl b d,λe=>hH g h1.at_.lt ng (e ▸ d),λr l e=>?_⟩⟩,h8,hl⟩;obtain⟨i,hi,rfl⟩:=aa2 l;exact hH b (a i hi b e).1 (a i hi b e).2 d
theorem u7.keep(h:u7 F w g)(a:aD w w w'):u7 F w' g/\Kp F w w':=by
 obtain⟨C,h1,b,c⟩:=h;exact⟨⟨C,h1.keep a,b,c⟩,Kp.dD a h1.lt⟩
def Tf(F:Nat->Prop)(g:Nat)(v:aC)(w:aA)(e:aM)(w':aA):Prop:=e= .returned v/\u7 F w' g/\Kp F w w'
theorem NT(h:u7 F w g)(i:Int)(hi:0<=i/\i<8)(kd a b:Int)(hk:1<=kd/\kd<=8):
 aG prog 117 #[.pointer g,i, .agg #[kd,a, .int .u64 b]] w λe w'=>∃r:Int,Tf F g (.int .i64 r) w e w':=by
 obtain⟨C,⟨R,h1,f,l⟩,m,hl⟩:=h;obtain⟨n,rfl⟩:=aaO hi.1;have j:n<R.length:=by rw[h1.len];omega
 have hC:(vA R[n]).L.length<=8:=hl _ (by rw[<-f];exact adS (aaM j));have:=Kc F g n aQ ⟨kd,a,b⟩ (by simp[UT];omega) R w h1 j R[n].A R[n].c R[n].L R[n].lost rfl hC l;refine this.mono ?_;rintro e w' ⟨rfl,o,k⟩;refine⟨_,rfl,⟨_,o,by rw[aaV,f];exact m,λr d=>?_⟩,k⟩;rcases abW d with d|rfl
 .exact hl r (f ▸ d)
 .exact Pj hC
theorem WZ(h:u7 F w g)(i:Int)(hi:0<=i/\i<8):
 aG prog 219 #[.pointer g,i] w λe w'=>∃(x:Up) (r:Int),Tf F g (.tuple #[.agg #[x.kind,x.a, .int .u64 x.b],r]) w e w':=by
 obtain⟨C,⟨R,h1,j,o⟩,p,hl⟩:=h;obtain⟨n,rfl⟩:=aaO hi.1;have l:n<R.length:=by rw[h1.len];omega
 have hC:(vA R[n]).L.length<=8:=hl _ (by rw[<-j];exact adS (aaM l));cases m:R[n].L with
 |nil=>
  refine(take_nil g n aQ R w h1 l m).mono ?_;rintro e w' ⟨rfl,q⟩;obtain⟨r1,s⟩:=u7.keep ⟨C,⟨R,h1,j,o⟩,p,hl⟩ q;exact⟨⟨0,0,0⟩,6,rfl,r1,s⟩
 |cons x L=>
  have f:(x::L).length<=8:=by rw[<-m];exact hC
  have:=XI F g n aQ R w h1 l R[n].A R[n].c x L R[n].lost (by rw[<-m]) (by simp at f;omega) o;refine this.mono ?_;rintro e w' ⟨rfl,t,k⟩;refine⟨x,0,rfl,⟨_,t,by rw[aaV,j];exact p,λr d=>?_⟩,k⟩;rcases abW d with d|rfl
  .exact hl r (j ▸ d)
  .simp at f⊢;omega
end
end
end Go.Proofs.YtacgiflhgdaeaaaGreat
