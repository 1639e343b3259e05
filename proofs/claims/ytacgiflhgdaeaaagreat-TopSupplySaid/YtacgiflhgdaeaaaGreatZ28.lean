/- Texts laid as one. -/
import Derived.Test.YtacgiflhgdaeaaaGreatZ5
import Derived.Test.YtacgiflhgdaeaaaGreatZ12
import Derived.Test.YtacgiflhgdaeaaaGreatZ27
set_option linter.unusedVariables false
set_option linter.unusedSimpArgs false
set_option maxRecDepth 100000
set_option maxHeartbeats 20000000
namespace Go.Proofs.YtacgiflhgdaeaaaGreat
open Go.Proofs.Tryz
open Go renaming World->aA,Value->aC
open Go.RowKit renaming Below->aD,Hid->aH
open Go.Obj renaming cells->aI
section
open Go.RowKit Go.Lib Go.Shelf
variable{ts:List Tk}{W wp wx w5 w6 w w7:aA}{od p:Int}{n g i m:Nat}{cs:Array aC}{B A:Option Addr}{F:Nat->Prop}{y:La}
section
def kS(ts:List Tk)(od:Int)(k:Nat):Lb:=⟨ts.take k,od,sW ts od,λ_=>0,0,(ts.take k).map λt=>jP t.pe,List.replicate ts.length 0,List.replicate ts.length 0, [], []⟩
def UJ(ts:List Tk)(od:Int)(m:Nat):Lb:={kS ts od ts.length with ce:=λl=>if l<m then mS ts od (l:Nat) else 0}
def mT(ts:List Tk)(od:Int):Lb:={kS ts od ts.length with ce:=λl=>if l<8 then mS ts od (l:Nat) else 0}
theorem Mt(od:Int)(h:qD ts=true):lN (mT ts od) 0:=by
 obtain⟨f,a⟩:=ZN h;have b:ts.take ts.length=ts:=aa7 (aaH _);refine⟨by simp[mT,kS,b];exact f,by simp[mT,kS,DK],by simp[mT,kS],by simp[mT,kS],by simp[mT,kS],⟨ab0 _,by simp[mT,kS]⟩,λt hm=>a t (by simpa[mT,kS,b] using hm),λi s hs=>?_,λi v k=>?_,λj l=>by simp[mT,kS] at l,by simp[mT,kS],by simp[mT,kS]⟩
 .have d:(ts.map λt=>jP t.pe)[i]?=some s:=by simpa[mT,kS,b] using hs
  obtain⟨t,hm,rfl⟩:=ac1.1 (aa1 d);exact Fv (a t hm).pe.1 (a t hm).pe.2
 .have e:(List.replicate ts.length (0:Int))[i]?=some v:=k;have:=abI (aa1 e);omega
def uQ(n:Nat):Obj:= .cells (madeCells (Value.int .i64 0).cells (n *1)) 3
def YV(od:Int)(n k u v:Nat):Array aC:=#[bA,od, .slice k n n,aU,aU,aU,aU,aU,aU,aU,aU,aU,bA, .slice u n n, .slice v n n,bA,bA]
structure zC(W wx:aA)(R:List Int)(od:Int)(n g k u v:Nat):Prop where
 b:bC wx g 193 (YV od n k u v)
 DR:bB eI 1 wx 0 3 k n R
 ru:bB eI 1 wx 0 3 u n (List.replicate n 0)
 rv:bB eI 1 wx 0 3 v n (List.replicate n 0)
 lg:W.heap.size<=g
 lk:W.heap.size<=k
 lu:W.heap.size<=u
 lv:W.heap.size<=v
 gk:g≠k
 gu:g≠u
 gv:g≠v
 ku:k≠u
 kv:k≠v
 uv:u≠v
theorem jH(W:aA)(n:Nat)(d:n<=1000){B v:Nat}(a:v=W.heap.size)(b:B<=W.heap.size):bB eI 1 (W.alloc (uQ n)) B 3 v n (List.replicate n 0):=by
 subst a;unfold bB;rw[acZ,<-FV];exact World.ownsRow_lit W _ n b dT (size_madeCells _ _)
theorem zC.of{R:List Int}{k v:Nat}(b:g=wp.heap.size)(hk:bB eI 1 wp W.heap.size 3 k n R)(hu:bB eI 1 wp W.heap.size 3 i n (List.replicate n 0))(a:bB eI 1 wp W.heap.size 3 v n (List.replicate n 0))(ku:k≠i)(kv:k≠v)(uv:i≠v):zC W (wp.alloc (.cells (YV od n k i v) 193)) R od n g k i v:=by
 have d:=hk.lt k rfl;have a2:=hu.lt i rfl;have a3:=a.lt v rfl;have a4:W.heap.size<=wp.heap.size:=aQ;exact⟨bC.gK wp _ _ b.symm,(hk.alloc _).from_ (aaQ _),(hu.alloc _).from_ (aaQ _),(a.alloc _).from_ (aaQ _),aQ,d.1,a2.1,a3.1,aQ,aQ,aQ,ku,kv,uv⟩
def IG(g k u v:Nat):Nat->Nat:=λb=>if b=g then 1 else if b=k then 3 else if b=u then 6 else if b=v then 7 else 0
theorem zC.Yr{R:List Int}{k v:Nat}(h:zC W wx R od n g k m v)(f:R.length=n)(l:aD W W wx):bP (λb=>b<W.heap.size) wx g ⟨[],od,R,λ_=>0,0, [],List.replicate n 0,List.replicate n 0, [], []⟩ ⟨none,0, [],some ⟨k,0,none⟩,n,none,0, [],some ⟨m,0,none⟩,n,some ⟨v,0,none⟩,n,none,0,none,0⟩:=by
 obtain⟨b0,b1,b2,b3,lg,lk,lu,lv,gk,gu,gv,ku,kv,uv⟩:=h;have o:IG g k m v g=1:=aaK rfl;have r:IG g k m v k=3:=by unfold IG;rw[aaL (ae5 gk),aaK rfl]
 have eu:IG g k m v m=6:=by unfold IG;rw[aaL (ae5 gu),aaL (ae5 ku),aaK rfl]
 have ev:IG g k m v v=7:=by unfold IG;rw[aaL (ae5 gv),aaL (ae5 kv),aaL (ae5 uv),aaK rfl]
 refine⟨rfl,IG g k m v,λb a=>?_,λi p hp=>?_⟩
 .have a:b<W.heap.size:=a;refine⟨aaJ a l.size,?_⟩;unfold IG;rw[aaL aQ,aaL aQ,aaL aQ,aaL aQ]
 .have nil:∀{α:Type} (enc:α->List aC) (sz:Nat) (e:TypeId) (j:Nat),fT enc sz e none 0 ([]:List α) (Fo wx (IG g k m v) j) wx:=λenc sz e j=>fT.nil (Fo.ol _ _ _)
  match i,hp with
  |0,hp=>simp[iM] at hp;subst hp;exact PB.mk (by rw[show fL _ _=YV od n k m v by simp[fL,YV,f]];exact b0) (Fo.ol _ _ _) (λhc=>hc.2 o)
  |1,hp=>simp[iM] at hp;subst hp;exact⟨bB.nil _ _ _,λx d=>by simp at d,Fo.ol _ _ _,λq hq=>by simp[aZ] at hq,λx d=>by simp at d,λx d=>by simp at d⟩
  |2,hp=>simp[iM] at hp;subst hp;exact⟨b1,Fo.ol _ _ _,λq hq=>by simp[aZ] at hq;subst hq;exact λhc=>hc.2 r⟩
  |3,hp=>simp[iM] at hp;subst hp;exact nil _ _ _ _
  |4,hp=>simp[iM] at hp;subst hp;exact⟨rfl,List.nodup_nil,λi hi=>by simp at hi,Fo.ol _ _ _,λq hq=>by simp at hq⟩
  |5,hp=>simp[iM] at hp;subst hp;exact⟨b2,Fo.ol _ _ _,λq hq=>by simp[aZ] at hq;subst hq;exact λhc=>hc.2 eu⟩
  |6,hp=>simp[iM] at hp;subst hp;exact⟨b3,Fo.ol _ _ _,λq hq=>by simp[aZ] at hq;subst hq;exact λhc=>hc.2 ev⟩
  |7,hp=>simp[iM] at hp;subst hp;exact nil _ _ _ _
  |8,hp=>simp[iM] at hp;subst hp;exact nil _ _ _ _
  |i+9,hp=>simp[iM] at hp
def FA(A:Option Addr)(c:Nat)(L:List Tm)(x:Tm):Pt:=⟨λF w=>ND F w A c L/\Sl qP 3 w x.A x.t.se/\(∀q,aZ x.A=some q->q<w.heap.size/\¬F q/\aZ A≠some q),λF G H w w' h k hG fl hH=>⟨(NC A c L).bX F G H w w' h.1 k hG fl hH,h.2.1.kp k (λq hq=>hG q (h.2.2 q hq).1 (h.2.2 q hq).2.1),λq hq=>⟨aaJ (h.2.2 q hq).1 k.size,hH q (h.2.2 q hq).1 (h.2.2 q hq).2.1,(h.2.2 q hq).2.2⟩⟩⟩
section
variable{F:Nat->Prop}{w w':aA}{g s c:Nat}{X:Lb}{y:La}{A:Option Addr}{x:Tm}
theorem bP.Ri(h:bP F w g X y)(d:aD w w w')(f:∀q,aZ A=some q->w.heap.size<=q/\q<w'.heap.size):bP (cB F A) w' g X y:=
 ⟨h.ts,Ob.bX _ F (λb=>b<w.heap.size) (cB F A) w w' h.o (Kp.dD d λ_ h=>h) (λ_ i _=>i) (λb a=>a.elim (λh1=>aaJ (h.fl b h1) d.size) (λh1=>(f b h1).2)) (λr i j a=>a.elim j (λe=>by have:=f r e;omega))⟩
theorem bP.Tr(h:bP (cB F x.A) w g X y)(hs:Sl qP 3 w x.A x.t.se)(f:∀q,aZ x.A=some q->q<w.heap.size/\¬F q):Ob ((iM g X y).set 1 (FA y.T y.cT y.L x)) F w:=by
 cases d:aZ x.A with
 |none=>
  have e:cB F x.A=F:=by funext b;unfold cB;rw[d];exact propext ⟨λh=>h.elim id (λh=>by cases h), .inl⟩
  have h1:=h.o;rw[e] at h1;exact(h1.sN (w':=w) 1 (NC y.T y.cT y.L) (FA y.T y.cT y.L x) rfl rfl (λG i=>⟨⟨i,hs,λq hq=>by rw[d] at hq;cases hq⟩,Kp.refl _ _⟩)).1
 |some s=>
  have e:cB F x.A=Fb F s:=by funext b;unfold cB Fb;rw[d];exact propext ⟨λh=>h.imp id (λh=>by injection h with h;exact h.symm),λh=>h.imp id (λh=>by rw[h])⟩
  have h1:=h.o;rw[e] at h1;refine h1.Lu (f s d).2 1 (NC y.T y.cT y.L) (FA y.T y.cT y.L x) rfl (λG j i=>?_);have a:ND (Fb G s) w y.T y.cT y.L:=i;refine⟨⟨a.o,a.sl,λb m=>a.fl b (.inl m),λq hq k=>a.fA q hq (.inl k),λz l q hq=>⟨(a.fS z l q hq).1,λk=>(a.fS z l q hq).2 (.inl k)⟩,a.cp⟩,hs,λq hq=>?_⟩;rw[d] at hq;injection hq with hq;subst hq;exact⟨(f s d).1,j,λn=>a.fA s n (.inr rfl)⟩
theorem bP.Qa(h:Ob ((iM g X y).set 1 (FA y.T y.cT y.L x)) F w5)(l:y.L.map Tm.t=X.ts)(m:x.t.se.length<=x.c)(o:∀z∈y.L,∀q,aZ z.A=some q->aZ y.T≠some q)(ho:bB sI 5 w6 0 125 A c (y.L++ [x]))(i:w5.grownBy w6 (aZ y.T))(j:aZ A=aZ y.T\/aZ A=some w5.heap.size)(B:n=y.L.length):
 bP F (w6.setCell (g,0) (.slice A (n+1) c)) g {X with ts:=X.ts++ [x.t]} {y with T:=A,cT:=c,L:=y.L++ [x]}/\Kp F w5 (w6.setCell (g,0) (.slice A (n+1) c)):=by
 obtain⟨a,b⟩:=h.sN (w':=w6) (l':=(iM g X y).set 1 (NC A c (y.L++ [x]))) 1 (FA y.T y.cT y.L x) (NC A c (y.L++ [x])) rfl rfl (λG p=>by
  obtain⟨f,h1,r⟩:ND G w5 y.T y.cT y.L/\Sl qP 3 w5 x.A x.t.se/\(∀q,aZ x.A=some q->q<w5.heap.size/\¬G q/\aZ y.T≠some q):=p;have k:Kp G w5 w6:=Kp.grown i λb u=>⟨f.fl b u,λe=>f.fA b e.symm u⟩
  refine⟨⟨ho,λz d=>?_,f.fl.kp k,λq hq v=>?_,λz d q hq=>?_,λz d=>?_⟩,k⟩
  .rcases aa8.1 d with d|d
   .exact(f.sl z d).grown i (λq hq e=>o z d q e hq)
   .rw[aaZ.1 d];exact h1.grown i (λq hq e=>(r q e).2.2 hq)
  .rcases j with j|j
   .exact f.fA q (by rw[<-j];exact hq) v
   .rw[j] at hq;injection hq with hq;have:=f.fl q v;omega
  .rcases aa8.1 d with d|d
   .exact⟨aaJ (f.fS z d q hq).1 i.size,(f.fS z d q hq).2⟩
   .rw[aaZ.1 d] at hq;exact⟨aaJ (r q hq).1 i.size,(r q hq).2.1⟩
  .rcases aa8.1 d with d|d
   .exact f.cp z d
   .rw[aaZ.1 d];exact m)
 obtain⟨a2,b2⟩:=a.sN (w':=w6.setCell ⟨g,0,none⟩ (.slice A (n+1) c)) (l':=iM g {X with ts:=X.ts++ [x.t]} {y with T:=A,cT:=c,L:=y.L++ [x]}) 0 (PB g 193 (fL X y)) (PB g 193 (fL {X with ts:=X.ts++ [x.t]} {y with T:=A,cT:=c,L:=y.L++ [x]})) rfl rfl (λG p=>p.set 0 _ (by simp[fL,B]));exact⟨⟨by simp[l],a2⟩,b.trans b2⟩
theorem bP.Mv(h:bP (Fb F s) w g X y)(hF:¬F s)(hs:Sh w s (jP p))(ho:bB xS 1 w' 0 194 A c (y.a++ [s]))(v:w.grownBy w' (aZ y.S))(l:aZ A=aZ y.S\/aZ A=some w.heap.size)(z:n=y.a.length):
 bP F (w'.setCell (g,12) (.slice A (n+1) c)) g {X with sh:=X.sh++ [jP p]} {y with S:=A,cS:=c,a:=y.a++ [s]}/\Kp (Fb F s) w (w'.setCell (g,12) (.slice A (n+1) c)):=by
 obtain⟨a,b⟩:=h.o.sN (w':=w') (l':=(iM g X y).set 3 (PR xS 1 194 A c (y.a++ [s]))) 3 (PR xS 1 194 y.S y.cS y.a) (PR xS 1 194 A c (y.a++ [s])) rfl rfl (λG f=>fT.eV f ho v l);obtain⟨a2,b2⟩:=a.sN (w':=w'.setCell ⟨g,12,none⟩ (.slice A (n+1) c)) (l':=((iM g {X with sh:=X.sh++ [jP p]} {y with S:=A,cS:=c,a:=y.a++ [s]}).set 4 (OB y.a X.sh))) 0 (PB g 193 (fL X y)) (PB g 193 (fL {X with sh:=X.sh++ [jP p]} {y with S:=A,cS:=c,a:=y.a++ [s]})) rfl rfl (λG f=>f.set 12 _ (by simp[fL,z]));have k:=b.trans b2;have j:Sh (w'.setCell (g,12) (.slice A (n+1) c)) s (jP p):=k.aZ hs (.inr rfl);have a3:=a2.Lu hF 4 (OB y.a X.sh) (OB (y.a++ [s]) (X.sh++ [jP p])) rfl (λG m f=>by
  have d:EI (Fb G s) (w'.setCell (g,12) (.slice A (n+1) c)) y.a X.sh:=f;refine⟨by simp[d.len],?_,λi hi B=>?_,λb r=>d.fl b (.inl r),λq hq=>?_⟩
  .rw[List.nodup_append];refine⟨d.nd,aT,λa l b r=>?_⟩;rw[aaZ.1 r];exact λe=>(d.fa a l).2 (.inr e)
  .by_cases t:i<y.a.length
   .rw[List.getElem_append_left t,List.getElem_append_left (by rw[<-d.len];exact t)];exact d.sh i t _
   .have u:i=y.a.length:=by simp at hi;omega
    subst u;have C:(y.a++ [s])[y.a.length]'hi=s:=aT;have D:(X.sh++ [jP p])[y.a.length]'B=jP p:=by rw[List.getElem_append_right (by rw[d.len];exact aaH _)];simp
    rw[C,D];exact j
  .rcases aa8.1 hq with hq|hq
   .exact⟨(d.fa q hq).1,λE=>(d.fa q hq).2 (.inl E)⟩
   .rw[aaZ.1 hq];exact⟨j.lt,m⟩)
 exact⟨⟨h.ts,a3⟩,k⟩
theorem Ob.Rr{l:List Pt}{t:TypeId}(h:Ob l F w)(j:l[0]?=some (PB g t cs))(i:Nat)(p:Pt)(hp:l[i+1]?=some p)(a:∀G,p.X G w->∀q,aZ B=some q->¬G q)(k:w.grownBy w' (aZ B)):bC w' g t cs:=by
 obtain⟨f,h1⟩:=h;have d:mI g t cs (Fo w f 1) w:=h1.get 0 j;refine d.b.grown k (λe=>?_);have m:f g=1:=aa4 λhc=>d.nf ⟨d.b.lt,hc⟩
 exact a _ (h1.get (i+1) hp) g e.symm ⟨d.b.lt,aQ⟩
theorem Ob.Ju{l:List Pt}{t:TypeId}(h:Ob l F w)(a:l[0]?=some (PB g t cs)):bC w g t cs:=by
 obtain⟨d,h1⟩:=h;exact(h1.get 0 a:mI g t cs _ w).b
end
theorem Xq:jM prog 190 194 1 8:=gA (z:= .pointer none) underlying190 aV rfl aQ
theorem I6(hF:∀b,b<w.heap.size->F b)(a:aD w w w5)(k:Kp F w5 w7):aD w w w7:=⟨k.os.trans a.os,k.tape.trans a.tape,k.output.trans a.output,aaR a.size k.size,λi hi=>(k.block i (hF i hi)).trans (a.block i hi)⟩
theorem bP.Wg{x:Lb}(h:bP F w g x y)(hm:m<8)(v:Int):bP F (w.setCell (g,3+m) v) g {x with ce:=λl=>if l=m then v else x.ce l} y/\Kp F w (w.setCell (g,3+m) v):=by
 refine h.cell (3+m) _ ?_ h.ts rfl;rcases(by omega:m=0\/m=1\/m=2\/m=3\/m=4\/m=5\/m=6\/m=7) with rfl|rfl|rfl|rfl|rfl|rfl|rfl|rfl <;> simp[fL]
theorem bP.Zy{x:Lb}(h:bP F w g x y):wS w y.T y.L:=by
 obtain⟨b,h1⟩:=h.o;have a:ND (Fo w b 2) w y.T y.cT y.L:=h1.get 1 (p:=NC y.T y.cT y.L) rfl;exact⟨a.o.sl oI,a.sl,a.cp⟩
theorem Gt(ts:List Tk)(od:Int)(m:Nat):UJ ts od (m+1)={UJ ts od m with ce:=λl=>if l=m then mS ts od (m:Nat) else(UJ ts od m).ce l}:=by
 have e:(λl:Nat=>if l<m+1 then mS ts od (l:Nat) else 0)=λl:Nat=>if l=m then mS ts od (m:Nat) else if l<m then mS ts od (l:Nat) else 0:=by
  funext l
  by_cases h:l=m
  .rw[aaK h,aaK aQ,h]
  .rw[aaL h];by_cases a:l<m
   .rw[aaK a,aaK aQ]
   .rw[aaL a,aaL aQ]
 show({kS ts od ts.length with ce:=λl:Nat=>if l<m+1 then mS ts od (l:Nat) else 0}:Lb)=_;rw[e];rfl
theorem Gl{k:Nat}(hk:k<ts.length):kS ts od (k+1)={kS ts od k with ts:=(kS ts od k).ts++ [ts[k]],sh:=(kS ts od k).sh++ [jP (ts[k]).pe]}:=by
 unfold kS;rw[<-abS hk,aeJ];rfl
theorem Iw{L:List Tm}(h:wS w A L)(hl:L.length<=1000)(h8:∀x∈L,x.t.se.length<=1000000)(c:Nat)(od:Int):
 Calls prog 24 #[(A,L.length,c),od] w λe w'=>if qD (L.map Tm.t)=true/\(od=0\/od=1) then(∃g y,e= .returned (.tuple #[.pointer (some ⟨g,0,none⟩),aU])/\bP (λb=>b<w.heap.size) w' g (mT (L.map Tm.t) od) y/\aD w w w') else e= .returned (.tuple #[PN, .int .i64 1])/\aD w w w':=by
 have HA:=aP (Jg h hl h8 c);have HS:=aP h;have H8:=aP h8;clear h h8;by_cases hc:qD (L.map Tm.t)=true/\(od=0\/od=1)
 .simp only[aaK hc];obtain⟨ha,ho⟩:=hc;rw[ha] at HA;have HTI:=aP (ZN ha);have hn8:L.length<=8:=by have:=HTI.o.1;simpa using this
  have HR:=aP (λW (hW:wS W A L)=>KT hW aQ c od);clear ha;go_enter func24,ntmps24
  go_upto_region 1 with(fail)
  go_cut [22] (λs22 wx=>s22= .bool false/\aD w w wx)
  case first=>
   rcases ho with rfl|rfl
   .go_wp2_with fail
    refine aR HA ?_;rintro e w2 ⟨rfl,j⟩;have HB:=aP j;clear j HA;go_wp2_with fail
    go_meet
    exact⟨rfl,HB.o⟩
   .go_wp2_with fail
    refine aR HA ?_;rintro e w2 ⟨rfl,j⟩;have HB:=aP j;clear j HA;go_wp2_with fail
    go_meet
    exact⟨rfl,HB.o⟩
  case rest=>
  obtain⟨rfl,hbc⟩:=hcut;have E:=aP hbc;have HR2:=aP (λW (j:aD wc wc W)=>HR.o W ((HS.o.keep hbc).keep j));obtain⟨i0,hi0,hz0,hz1,hz2⟩:=info_parts JL;clear hbc ho;go_upto_region 3 with(fail)
  go_cut [6] (λs6 wx=>∃g k u v,s6= .pointer (some ⟨g,0,none⟩)/\zC w wx (sW (L.map Tm.t) od) od L.length g k u v/\aD w w wx)
  case first=>
   have hBx:=(Below.refl wc wc).drew;have hmk:∀W:aA,(Instr.makeSlice 35 (.int .i64 (L.length:Int)) (.int .i64 (L.length:Int))).run prog W= .ok (.slice W.heap.size L.length L.length) (W.alloc (uQ L.length)):=λW=>by
    have h:=run_make (P:=prog) W 35 3 i0 (.int .i64 0) underlying35 hi0 hz0 .i64 .i64 L.length L.length aQ (ab0 _) (by rw[hz2];omega) aQ;simp only[aaW] at h;rw[h,hz1];rfl
   have hB1:aD wc wc (wc.alloc (uQ L.length)).drew:=(aX wc _).drew;have hB2:aD wc wc ((wc.alloc (uQ L.length)).alloc (uQ L.length)).drew:=((aX wc _).alloc aT _).drew;go_region_held3 (λ_=>True) (exact trivial) ((first|(go_at_call 51;(with_reducible refine(HR2.o _ hBx).mono ?_);rintro e J ⟨q,rfl,f,l⟩)|(go_at_call 51;(with_reducible refine(HR2.o _ hB1).mono ?_);rintro e J ⟨q,rfl,f,l⟩)|(go_at_call 51;(with_reducible refine(HR2.o _ hB2).mono ?_);rintro e J ⟨q,rfl,f,l⟩)))
   all_goals
    have z26:=f.lt q rfl;have s4:=l.size;have dz:∀W:aA,W.drew.heap.size=W.heap.size:=λ_=>rfl
    (try rw[dz] at z26 s4)
    (try simp only[World.size_alloc] at z26 s4)
    have sw:=E.o.size;clear hmk;go_wp2_with fail
    go_meet
    first
     |(refine⟨_,q,J.heap.size,J.heap.size+1,rfl,zC.of aT (((f.from_ bL).alloc _).alloc _) ((jH J L.length aQ rfl aQ).alloc _) (jH (J.alloc (uQ L.length)) L.length aQ aT bL) aQ aQ aQ,E.o.trans (Below.mono ?_ sw)⟩)
     |(refine⟨_,q,J.heap.size+1,J.heap.size,rfl,zC.of aT (((f.from_ bL).alloc _).alloc _) (jH (J.alloc (uQ L.length)) L.length aQ aT bL) ((jH J L.length aQ rfl aQ).alloc _) aQ aQ aQ,E.o.trans (Below.mono ?_ sw)⟩)
     |(refine⟨_,q,wc.heap.size,J.heap.size,rfl,zC.of aT ((f.from_ bL).alloc _) (((jH wc L.length aQ rfl aQ).drew.keep l).alloc _) (jH J L.length aQ rfl aQ) aQ aQ aQ,E.o.trans (Below.mono ?_ sw)⟩)
     |(refine⟨_,q,J.heap.size,wc.heap.size,rfl,zC.of aT ((f.from_ bL).alloc _) (jH J L.length aQ rfl aQ) (((jH wc L.length aQ rfl aQ).drew.keep l).alloc _) aQ aQ aQ,E.o.trans (Below.mono ?_ sw)⟩)
     |(refine⟨_,q,wc.heap.size,wc.heap.size+1,rfl,zC.of aT (f.from_ bL) (((jH wc L.length aQ rfl aQ).alloc _).drew.keep l) ((jH (wc.alloc (uQ L.length)) L.length aQ aT bL).drew.keep l) aQ aQ aQ,E.o.trans (Below.mono ?_ sw)⟩)
     |(refine⟨_,q,wc.heap.size+1,wc.heap.size,rfl,zC.of aT (f.from_ bL) ((jH (wc.alloc (uQ L.length)) L.length aQ aT bL).drew.keep l) (((jH wc L.length aQ rfl aQ).alloc _).drew.keep l) aQ aQ aQ,E.o.trans (Below.mono ?_ sw)⟩)
    first
     |exact(((hBx.trans l).alloc (by first|omega|(simp only[World.size_alloc];omega)|(rw[dz];simp only[World.size_alloc];omega)) _).alloc (by first|omega|(simp only[World.size_alloc];omega)|(rw[dz];simp only[World.size_alloc];omega)) _).alloc (by first|omega|(simp only[World.size_alloc];omega)|(rw[dz];simp only[World.size_alloc];omega)) _
     |exact((hB1.trans (l.mono (by first|omega|(simp only[World.size_alloc];omega)|(rw[dz];simp only[World.size_alloc];omega)))).alloc (by first|omega|(simp only[World.size_alloc];omega)|(rw[dz];simp only[World.size_alloc];omega)) _).alloc (by first|omega|(simp only[World.size_alloc];omega)|(rw[dz];simp only[World.size_alloc];omega)) _
     |exact(hB2.trans (l.mono (by first|omega|(simp only[World.size_alloc];omega)|(rw[dz];simp only[World.size_alloc];omega)))).alloc (by first|omega|(simp only[World.size_alloc];omega)|(rw[dz];simp only[World.size_alloc];omega)) _
  case rest=>
  obtain⟨g,k0,u0,v0,rfl,hnb,hbc2⟩:=hcut;have V:=hnb.Yr (by rw[DK,abT]) hbc2;obtain⟨ts,hts⟩:∃ts,ts=L.map Tm.t:=⟨_,rfl⟩
  have htl:ts.length=L.length:=by rw[hts,abT]
  have hst:kS ts od 0=⟨[],od,sW ts od,λ_=>0,0, [],List.replicate L.length 0,List.replicate L.length 0, [], []⟩:=by unfold kS;rw[htl];rfl
  rw[<-hts,<-hst] at V;obtain⟨F,hF⟩:∃F:Nat->Prop,F=λb=>b<w.heap.size:=⟨_,rfl⟩
  rw[<-hF] at V;have HFF:aH (∀b,F b->b<w.heap.size):=λb j=>by rw[hF] at j;exact j
  have HF:=aP hF;have HTS:=aP hts;have HTL:=aP htl;rw[<-hts] at HTI;have H0:aH (∃y,bP F wc g (kS ts od 0) y/\aD w w wc/\(∀z∈y.L,∀q,aZ z.A=some q->aZ y.T≠some q)/\y.L.length=0):=⟨_,V,hbc2,λz M=>by simp at M,rfl⟩
  clear hnb hbc2 V hst HR2 HR hF hts htl E hi0 hz0 hz1 hz2;go_wp2_with fail
  go_loopw [8,9,10,37] (λ_ _ _ v37 wr=>∃k:Nat,k<=L.length/\v37= .int .i64 k/\aH (∃y,bP F wr g (kS ts od k) y/\aD w w wr/\(∀z∈y.L,∀q,aZ z.A=some q->aZ y.T≠some q)/\y.L.length=k)) (λ_ _ _ v37 _=>L.length - (intOf v37).toNat)
  case atStart=>exact⟨0,aaQ _,rfl,H0.o⟩
  case round=>
   clear H0;obtain⟨k,hk,rfl,HQ⟩:=hrel;by_cases hlt:k<L.length
   .obtain⟨y,hA,hB,hap,hyl⟩:=HQ.o;obtain⟨b,off,hAd,t0,t1,t2,t3,t4⟩:=(HS.o.keep hB).at_ hlt;have j0:(0:Int)<=k:=aQ;have j1:(k:Int)<(L.length:Int):=aQ;have hsl:=(HS.o.keep hB).sl _ (aaM hlt);have h8x:=H8.o _ (aaM hlt);have hktl:k<ts.length:=by rw[HTL.o];exact hlt
    have hxt:ts[k]=L[k].t:=by simp only[HTS.o,List.getElem_map]
    have HNX:aH (kS ts od (k+1)={kS ts od k with ts:=(kS ts od k).ts++ [L[k].t],sh:=(kS ts od k).sh++ [jP (L[k].t).pe]}):=by unfold aH;rw[<-hxt];exact Gl hktl
    have hti:=HTI.o.2 _ (aaM hktl);rw[hxt] at hti;generalize L[k]=x at *;have hb1:=aX wr (aI #[x.t.co,x.t.pe,x.t.de,(x.A,x.t.se.length,x.c),x.t.po] 125);have bx:=bC.new wr 125 #[x.t.co,x.t.pe,x.t.de,(x.A,x.t.se.length,x.c),x.t.po];have x1:=bx.cell 1 x.t.pe rfl;have hA1:=hA.boxed hb1 (aaH _) aT;have hsl1:=hsl.keep hb1;have HN:=aP (Dj x.t.pe (wr.alloc (aI #[x.t.co,x.t.pe,x.t.de,(x.A,x.t.se.length,x.c),x.t.po] 125)) hti.pe.1 hti.pe.2);have N:=aP (And.intro hA1 (And.intro bx (And.intro hsl1 (hB.trans (hb1.mono hB.size)))));have HSZ:aH (w.heap.size<=wr.heap.size):=hB.size;have H:aH (y.L.length=k/\(∀z∈y.L,∀q,aZ z.A=some q->aZ y.T≠some q)/\y.L.map Tm.t=(kS ts od k).ts/\x.t.se.length<=1000000):=⟨hyl,hap,hA.ts,h8x⟩
    clear hA hB hap hyl hsl hxt hti hb1 bx hA1 hsl1 hktl HQ;rw[hAd];go_upto_region 7 with(fail)
    clear t0 t1 t2 t3 t4;generalize wr.alloc (aI #[x.t.co,x.t.pe,x.t.de,(x.A,x.t.se.length,x.c),x.t.po] 125)=w1 at *;generalize wr.heap.size=b8 at *;go_wp2_with fail
    refine aR HN ?_;rintro e w2 ⟨s2,rfl,hsg,hsh,hb2⟩;have hA2:=N.o.1.boxed hb2 hsg hsh.lt;have bx2:=N.o.2.1.keep hb2;have x3:=bx2.cell 3 (.slice x.A x.t.se.length x.c) rfl;have HC:=aP (PO x.A x.t.se x.c w2 (N.o.2.2.1.keep hb2) (by have:=H.o.2.2.2;omega));have HLE:aH (b8<s2/\s2<w2.heap.size/\b8<w2.heap.size/\(∀b,F b->b<b8)):=⟨aaJ N.o.2.1.lt hsg,hsh.lt,bx2.lt,λb j=>aaJ (HFF.o b j) HSZ.o⟩
    have HNS:aH (¬Fb F b8 s2):=λhf=>by
     have r:=HLE.o;rcases hf with hf|hf
     .have:=r.2.2.2 s2 hf;omega
     .omega
    have O:=aP (And.intro hA2 (And.intro bx2 (And.intro hsh (N.o.2.2.2.trans (hb2.mono (by have:=N.o.2.2.2.size;omega))))));clear hA2 bx2 hsh hb2 hsg N HN x1;go_wp2_with fail
    refine aR HC ?_;rintro e w3 ⟨B,d,rfl,own,Z⟩;have hA3:=O.o.1.Ri (A:=B) Z (λq hq=>own.lt q hq);have bx3:=O.o.2.1.keep Z;have f3:=bx3.frozen 3;have x3':=bx3.cell 3 (.slice x.A x.t.se.length x.c) rfl;have Q:=aY (bE w3 b8) 3 (.slice B x.t.se.length d);have bx4:=bx3.bQ 3 (.slice B x.t.se.length d);have hsl4:=(own.sl R1).grown Q (λq hq e=>by injection hq with hq;have:=(own.lt q e).1;have:=HLE.o.2.2.1;omega);have hsh4:Sh (w3.setCell (b8,3) (.slice B x.t.se.length d)) s2 (jP x.t.pe):=bC.grown (O.o.2.2.1.keep Z) Q (λe=>by injection e with e;have:=HLE.o.1;omega);have hA4:bP (cB (Fb (Fb F b8) s2) B) (w3.setCell (b8,3) (.slice B x.t.se.length d)) g (kS ts od k) y:=⟨hA3.ts,dV.gr (Ob.bX _) hA3.o Q (λq hq=>by injection hq with hq;subst hq;exact .inl (.inl (.inr rfl))) (λb j=>aaJ (hA3.fl b j) Q.size) (λb _ h=>h)⟩
    obtain⟨i,a1⟩:∃i:Tm,i=⟨x.t,B,d⟩:=⟨_,rfl⟩
    have hcl:=bP.Tr (x:=i) (F:=Fb (Fb F b8) s2) (by rw[a1];exact hA4) (by rw[a1];exact hsl4) (λq hq=>by
     rw[a1] at hq;have h1:=own.lt q hq;refine⟨aaJ h1.2 Q.size,λhf=>?_⟩;have r:=HLE.o;rcases hf with(hf|hf)|hf
     .have:=r.2.2.2 q hf;omega
     .omega
     .omega)
    have HCP:aH (i.t.se.length<=i.c/\i.t=x.t):=by rw[a1];exact⟨own.cap,rfl⟩
    have HB4:aH (aD w w (w3.setCell (b8,3) (.slice B x.t.se.length d))):=(O.o.2.2.2.trans (Z.mono (by have:=O.o.2.2.2.size;omega))).grown Q (by have:=O.o.2.2.2.size;have:=Z.size;omega) (λq hq=>by injection hq with hq;have:=HSZ.o;omega);have bx4':bC (w3.setCell (b8,3) (.slice B x.t.se.length d)) b8 125 #[i.t.co,i.t.pe,i.t.de,(i.A,i.t.se.length,i.c),i.t.po]:=by rw[a1];exact bx4
    have C:=cZ hcl bx4' hsh4;clear hA3 bx3 bx4 bx4' Q hsl4 hsh4 hA4 hcl own Z O HC x3;go_upto_region 11 with(fail)
    clear f3 x3';generalize w3.setCell (b8,3) (.slice B x.t.se.length d)=J at *;clear a1;have e0:=C.o.1.Ju rfl |>.cell 0 (.slice y.T y.L.length y.cT) rfl;rw[H.o.1] at e0;have z0:=C.o.2.1.cell 0 i.t.co rfl;have z1:=C.o.2.1.cell 1 i.t.pe rfl;have z2:=C.o.2.1.cell 2 i.t.de rfl;have z3:=C.o.2.1.cell 3 (.slice i.A i.t.se.length i.c) rfl;have z4:=C.o.2.1.cell 4 i.t.po rfl;have HY:aH (∀(W:aA) t,Sl sI 5 (W.alloc (.cells #[i.t.co,i.t.pe,i.t.de,(i.A,i.t.se.length,i.c),i.t.po] t)) (some ⟨W.heap.size,0,none⟩) [i]):=λW t=>Sl.new oI W i _ rfl t
    have D:=bF e0;have aft_z0:=bF z0;have aft_z1:=bF z1;have aft_z2:=bF z2;have aft_z3:=bF z3;have aft_z4:=bF z4;refine bS (bV _) (λ_=>bV) [61] (λ_ v w=>MT sI 5 i v w) [7,10] [[7,6,5]] 93 (cM _) (λ_ _ _ h M=>bZ h M) (λ_ d hd _ v w w' _ h M=>h.keep M) aV aV bK ?_;repeat (first|(refine fQ ?_)|(refine JT 61 [] bK bK bK bK (λγ w hC hT=>?_) ?_;(simp only[dG];go_simp;exact DD (aX w _) ⟨_,rfl,HY.o w _⟩);(try refine dB ?_)))
    refine eL ?_;intro γ R I hT;clear D aft_z0 aft_z1 aft_z2 aft_z3 aft_z4;simp only[dG,Act.put,aaI,aaP,aaN];refine eT ?_;obtain⟨G,hv,hsl⟩:=hT 61 aT;rw[hv];have hO5:=C.o.1.below I;have hsh5:=C.o.2.2.keep I;have hB5:aD w w R:=HB4.o.trans (I.mono HB4.o.size);have Y:∃o:bB sI 5 R 0 125 y.T y.cT y.L,True:=by
     obtain⟨ow,h1⟩:=hO5;have r:ND (Fo R ow 2) R y.T y.cT y.L/\_:=h1.get 1 (p:=FA y.T y.cT y.L i) rfl;exact⟨r.1.o,trivial⟩
    have Y:=Y.1;have a6:=cZ hO5 hsh5 hB5;clear hv hT HY e0 z0 z1 z2 z3 z4 hO5 hsh5 hB5 I C HB4;refine bN R rfl (.tmp 59) (.tmp 61) rfl Tl oI (base:=0) (xs:=y.L) Y (n:=k) H.o.1 rfl (m:=1) rfl (ys:= [i]) rfl hsl dT aQ (aaQ _) _ rfl (k+1) rfl ?_;intro A6 c6 w6 own6 hg6 U;have hb6:=a6.o.1.Rr (w':=w6) (B:=y.T) rfl 0 (FA y.T y.cT y.L i) rfl (λG hG q hq=>hG.1.fA q hq) hg6;refine dU w6 rfl 102 _ _ rfl g 0 (.slice A6 (k+1) c6) rfl rfl aV rfl (hb6.one (by simp[fL])) ?_;refine cP ?_;refine dB ?_;obtain⟨h7,k7⟩:=bP.Qa (X:=kS ts od k) (y:=y) a6.o.1 H.o.2.2.1 HCP.o.1 H.o.2.1 own6 hg6 U (n:=k) H.o.1.symm;have hsh7:Sh (w6.setCell ⟨g,0,none⟩ (.slice A6 (k+1) c6)) s2 (jP x.t.pe):=k7.aZ a6.o.2.1 (.inr rfl);have hap7:∀z∈y.L++ [i],∀q,aZ z.A=some q->aZ A6≠some q:=λz M q hq e=>by
     obtain⟨ow,h1⟩:=a6.o.1;have r:ND (Fo R ow 2) R y.T y.cT y.L/\_/\(∀q,aZ i.A=some q->q<R.heap.size/\¬Fo R ow 2 q/\aZ y.T≠some q):=h1.get 1 (p:=FA y.T y.cT y.L i) rfl;have h3:q<R.heap.size/\aZ y.T≠some q:=by
      rcases aa8.1 M with M|M
      .exact⟨(r.1.fS z M q hq).1,H.o.2.1 z M q hq⟩
      .rw[aaZ.1 M] at hq;exact⟨(r.2.2 q hq).1,(r.2.2 q hq).2.2⟩
     rcases U with U|U
     .exact h3.2 (U ▸ e)
     .rw[U] at e;injection e with e;omega
    have HB7:aH (aD w w (w6.setCell ⟨g,0,none⟩ (.slice A6 (k+1) c6))):=by
     exact I6 (λb j=> .inl (.inl (by rw[HF.o];exact j))) a6.o.2.2 k7
    have e12:=h7.c 12 (.slice y.S y.a.length y.cS) rfl;have HAL:aH (y.a.length=k):=by
     have h1:=h7.Tz;have r:(kS ts od k).sh.length=k:=by simp[kS];have:=HTL.o;omega
     exact h1.trans r
    rw[HAL.o] at e12;have H7:=cZ h7 hsh7 hap7;clear h7 k7 hsh7 hap7 own6 hg6 U hb6 Y hsl a6;generalize w6.setCell ⟨g,0,none⟩ (.slice A6 (k+1) c6)=w7 at *;have H8':=aP (H7.o.1.below (aX w7 (aI #[.pointer s2] 194)));have own8:∃o:bB xS 1 (w7.alloc (aI #[.pointer s2] 194)) 0 194 y.S y.cS y.a,True:=by
     obtain⟨ow,h1⟩:=H8'.o.o;exact⟨(h1.get 3 (p:=PR xS 1 194 y.S y.cS y.a) rfl).o,trivial⟩
    have HO8:=aP own8.1;clear own8;go_wp2_with(at_builtin;refine bN _ rfl _ _ rfl Xq D3 (base:=0) (xs:=y.a) HO8.o (n:=k) HAL.o rfl (m:=1) rfl (ys:= [s2]) rfl (Sl.new D3 w7 s2 _ rfl _) dT aQ (aaQ _) _ rfl (k+1) rfl ?_;intro A9 c9 w9 own9 hg9 at9;(have b9:=H8'.o.o.Rr (w':=w9) (B:=y.S) rfl 2 (PR xS 1 194 y.S y.cS y.a) rfl (λG hG q hq=>hG.nf q hq) hg9);(have f12:=b9.frozen 12);(have d12:=b9.cell 12 _ rfl);(obtain⟨h10,k10⟩:=bP.Mv H8'.o HNS.o (H7.o.2.1.alloc _) own9 hg9 at9 (n:=k) HAL.o.symm);(have HB10:=aP (I6 (λb j=> .inl (.inl (by rw[HF.o];exact j))) (HB7.o.alloc HB7.o.size _) k10));(have H10:=aP h10.less);clear h10 k10 own9 hg9 at9 b9)
    have HFIN:aH (∃y',bP F (w9.setCell ⟨g,12,none⟩ (.slice A9 (k+1) c9)) g (kS ts od (k+1)) y'/\aD w w (w9.setCell ⟨g,12,none⟩ (.slice A9 (k+1) c9))/\(∀z∈y'.L,∀q,aZ z.A=some q->aZ y'.T≠some q)/\y'.L.length=k+1):=by
     have h1:=H10.o;rw[HCP.o.2] at h1;rw[HNX.o];exact⟨_,h1,HB10.o,H7.o.2.2,by simp[H.o.1]⟩
    try rw[<-hAd]
    refine⟨⟨k+1,aQ,rfl,HFIN.o⟩,by simp only[intOf];omega⟩
   .obtain rfl:k=L.length:=aQ;have H0:aH (∃y,bP F wr g (UJ ts od 0) y/\aD w w wr/\y.L.map Tm.t=ts):=by
     obtain⟨y,h1,r,_,_⟩:=HQ.o;rw[<-HTL.o] at h1;exact⟨y,h1,r,by rw[h1.ts];simp[kS]⟩
    clear HQ;go_wp2_with fail
    go_loopw [11,76] (λ_ v76 wr=>∃m:Nat,m<=8/\v76= .int .i64 m/\aH (∃y,bP F wr g (UJ ts od m) y/\aD w w wr/\y.L.map Tm.t=ts)) (λ_ v76 _=>8 - (intOf v76).toNat)
    case atStart=>exact⟨0,aQ,rfl,H0.o⟩
    case round=>
     clear H0;obtain⟨m,hm,rfl,HM⟩:=hrel;by_cases hm8:m<8
     .obtain⟨y,h1,r,h3⟩:=HM.o;have hll:y.L.length=L.length:=by have:=HTL.o;rw[<-h3,abT] at this;exact this
      have e0:=h1.c 0 (.slice y.T y.L.length y.cT) rfl;rw[hll] at e0;have m0:(0:Int)<=m:=aQ;have m1:(m:Int)<8:=aQ;have HCE:aH (∀n:CW (bV wr),Calls prog 54 #[(y.T,L.length,y.cT),od,m] n.w λe w'=>e= .returned (.int .i64 (mS ts od (m:Nat)))/\bV n.w w'):=λn=>by
       have h4:=Ed (h1.Zy.keep n.ok) aQ (λx hx=>by have:=(HTI.o.2 x.t (by rw[<-h3];exact ac1.2 ⟨x,hx,rfl⟩)).se;omega) y.cT od m;rw[h3,hll] at h4;exact h4
      have HST:=aP (Gt ts od m);have H1:=cZ h1 r h3;clear h1 r h3 hll HM;go_upto_region 17 with(fail)
      have D:=bF e0;refine bS (bV _) (λ_=>bV) [] (λ_ _ _=>True) [12] [] 93 (cM _) (λ_ _ _ h M=>bZ h M) (λ_ d hd _ v w w' _ h M=>by cases hd) aV aV bK ?_;repeat (first|(refine ZD bK ?_;(try refine dB ?_))|(refine UY bK bK bK bK bK (λK hK=>?_);go_big_quiet_op;refine hK _ ?_;clear hK K)|(refine Pu bK bK bK bK bK bK (λK hK=>?_);go_big_quiet_op;refine hK _ ?_;clear hK K)|(refine Lr bK bK bK ?_;(try refine dB ?_))|(refine VC bK bK bK bK bK (λK hK=>?_);go_simp;(try simp only[SH,afT]);first|(apply Exists.intro;refine⟨λn=>?_,hK _ ?_⟩;(with_reducible exact HCE.o _);clear hK K;(try refine dB ?_))|(apply Exists.intro;refine⟨λn=>rfl,hK _ ?_⟩;clear hK K;(try refine dB ?_))))
      refine eL ?_;intro γ R I hT;clear D;simp only[dG,Act.put,aaI,aaP,aaN];refine eT ?_;have h5:=H1.o.1.below I;have hb6:=h5.bk;refine dU R rfl 3 _ _ rfl g (3+m) (.int .i64 (mS ts od (m:Nat))) rfl rfl aV rfl (hb6.one (by simp[fL];omega)) ?_;refine cP ?_;refine dB ?_;obtain⟨h7,k7⟩:=h5.Wg hm8 (mS ts od (m:Nat));have H7:aH (∃y,bP F (R.setCell ⟨g,3+m,none⟩ (.int .i64 (mS ts od (m:Nat)))) g (UJ ts od (m+1)) y/\aD w w (R.setCell ⟨g,3+m,none⟩ (.int .i64 (mS ts od (m:Nat))))/\y.L.map Tm.t=ts):=by
       rw[HST.o];exact⟨y,h7,I6 (λb j=>by rw[HF.o];exact j) (H1.o.2.1.trans (I.mono H1.o.2.1.size)) k7,H1.o.2.2⟩
      clear h5 hb6 h7 k7 I H1 HST HCE;generalize R.setCell ⟨g,3+m,none⟩ (.int .i64 (mS ts od (m:Nat)))=w7 at *;go_wp2_with fail
      refine⟨⟨m+1,aQ,rfl,H7.o⟩,by simp only[intOf];omega⟩
     .obtain rfl:m=8:=aQ;have HE:aH (∃y,bP (λb=>b<w.heap.size) wr g (mT (L.map Tm.t) od) y/\aD w w wr):=by
       obtain⟨y,h1,r,_⟩:=HM.o;rw[HF.o,HTS.o] at h1;exact⟨y,h1,r⟩
      clear HM;go_wp2_with fail
      go_ret2
      obtain⟨y,h1,r⟩:=HE.o;exact⟨g,y,rfl,h1,r⟩
 .simp only[aaL hc];cases ha:qD (L.map Tm.t)
  .rw[ha] at HA;clear hc;go_enter func24,ntmps24
   go_wp2_with fail
   refine aR HA ?_;rintro e w2 ⟨rfl,j⟩;have HB:=aP j;clear j HA;go_wp2_with fail
   go_ret2
   exact⟨rfl,HB.o⟩
  .rw[ha] at HA;have h0:¬od=0:=λh=>hc ⟨ha, .inl h⟩
   have h1:¬od=1:=λh=>hc ⟨ha, .inr h⟩
   have r:(od !=0)=true:=by simpa using h0
   have h3:(od !=1)=true:=by simpa using h1
   clear hc;go_enter func24,ntmps24
   go_wp2_with fail
   refine aR HA ?_;rintro e w2 ⟨rfl,j⟩;have HB:=aP j;clear j HA;go_wp2_with fail
   go_ret2
   exact⟨rfl,HB.o⟩
end
end
section
open Go.RowKit Go.Lib Go.Shelf dH Fr Up Nt
def P8:List Bool:=List.replicate 8 false
theorem XL(w:aA)(c:Int)(hc:1<=c/\c<=64):Calls prog 69 #[.agg #[.int .i64 6, .int .i64 2, .int .i64 4],c] w λe w'=>∃m g p0,e= .returned (.tuple #[.pointer (some ⟨m,0,none⟩),aU])/\gC (λb=>b<w.heap.size) w' m g c (pY p0)/\aD w w w':=by
 have f:=aX w (aI #[.int .i64 6, .int .i64 2, .int .i64 4] 60);have u:=bC.new w 60 #[.int .i64 6, .int .i64 2, .int .i64 4];have n:aH (Ob [] (λb=>b<w.heap.size) (w.alloc (aI #[.int .i64 6, .int .i64 2, .int .i64 4] 60))):=Ob.none (λb r=>aaJ r f.size) (λb r=>aaJ r f.size);have k:=aP f;have z0:=u.cell 0 (.int .i64 6) rfl;have B:=u.cell 1 (.int .i64 2) rfl;have z2:=u.cell 2 (.int .i64 4) rfl;obtain⟨c1,c2⟩:=hc;clear f u;go_enter func69,ntmps69
 go_upto_region 3 with(fail)
 generalize w.alloc (aI #[.int .i64 6, .int .i64 2, .int .i64 4] 60)=A at *;generalize hq:w.heap.size=q at *;have x:=aP (Fe A);go_wp2_with fail
 refine aR x ?_;rintro e j ⟨g,p0,rfl,⟨a,hk⟩,hb2⟩;have s:aH (Ob [Cw g a (pY p0)] (λb=>b<q) j):=n.o.add (p:=Cw g a (pY p0)) hk hb2;have l:aH (aD q w j):=k.o.trans (hb2.mono (by have:=k.o.size;omega));have d:=aX j (aI (BA g c P8).toArray 142);have v:aH (Ob (Pw j g c P8 a (pY p0)) (λb=>b<q) (j.alloc (aI (BA g c P8).toArray 142))):=by
  have h:=s.o.add (p:=PB j.heap.size 142 (BA g c P8).toArray) (PB.mk (bC.new j _ _) (λb r=>aaJ r d.size) (acA _)) d;refine h.reorder (λi=>1 - i) (λi=>1 - i) ?_;intro i p hp;match i,hp with
  |0,hp=>exact⟨hp,rfl⟩
  |1,hp=>exact⟨hp,rfl⟩
  |i+2,hp=>simp[Pw] at hp
 have t:aH (aD q w (j.alloc (aI (BA g c P8).toArray 142))):=l.o.trans (d.mono (by have:=l.o.size;omega));have y:(BA g c P8).toArray=(#[.pointer (some ⟨g,0,none⟩),c,false,false,false,false,false,false,false,false]:Array aC):=rfl;rw[y] at t d;clear hk hb2 n s x k l d;go_wp2_with fail
 go_ret2
 have z:=v.o;rw[y] at z;rw[hq];exact⟨_,g,p0,rfl,⟨P8,a,z,rfl⟩,t.o⟩
end
section
open Go.RowKit Go.Lib Go.Shelf
variable{i j g:Nat}{F G:Nat->Prop}{w:aA}{x:Lb}{y:La}
section
structure Rm where
 l:Option Lb
 g:Nat
 sv:aC
 od:Int
 sn:Int
 cA:Option Addr
 cc:Nat
 C:List Int
 R:List Int
 pc:Int
 ru:Bool
def Ta:List Int:=List.replicate 8 0
def PS:Rm:=⟨none,0, .slice none 0 0,0,0,none,0, [],Ta,0,false⟩
def EL(l:Option Lb)(g:Nat):aC:= .pointer (l.map λ_=>⟨g,0,none⟩)
def kB(r:Rm):List aC:= [EL r.l r.g,r.sv, .int .i64 r.od, .int .i64 r.sn, .slice r.cA r.C.length r.cc]++(r.R.map (Value.int .u64)++ [.int .i64 r.pc, .bool r.ru])
def Be(m:Nat)(c:Int)(rs:List Rm):List aC:= [pA m, .int .i64 c]++rs.flatMap kB
structure vZ(r:Rm):Prop where
 rg:Pa.Cp.Ww r.R
 cl:r.C.length<=256
 cr:∀v∈r.C,0<=v/\v<18446744073709551616
def YW(r:Rm)(F:Nat->Prop)(w:aA):Prop:=Ol F w/\∀x,r.l=some x->∃y,bP F w r.g x y
def Eo(r:Rm)(F:Nat->Prop)(w:aA):Prop:=Ol F w/\Sl eU 1 w r.cA r.C/\∀q,aZ r.cA=some q->(∃cs,bC w q 75 cs)/\¬F q
theorem YW.bX(r:Rm):dV (YW r):=λF G H w w' h k b fl hH=>⟨fl,λx d=>by
 obtain⟨y,a⟩:=h.2 x d;exact⟨y,a.ts,Ob.bX _ F G H w w' a.o k b fl hH⟩⟩
theorem Eo.bX(r:Rm):dV (Eo r):=λF G H w w' h k b fl hH=>⟨fl,h.2.1.kp k λq hq=>by
 obtain⟨⟨cs,hb⟩,a⟩:=h.2.2 q hq;exact b q hb.lt a,λq hq=>by
 obtain⟨⟨cs,hb⟩,a⟩:=h.2.2 q hq;exact⟨⟨cs,k.aZ hb (b q hb.lt a)⟩,hH q hb.lt a⟩⟩
def xU(r:Rm):Pt:=⟨YW r,YW.bX r⟩
def xG(r:Rm):Pt:=⟨Eo r,Eo.bX r⟩
def NA(m g:Nat)(c:Int)(k:Kv):Pt:=⟨λF w=>gC F w m g c k,gC.bX m g c k⟩
def mF(m:Nat)(c:Int)(rs:List Rm):Array aC:=(Be m c rs).toArray
def zD(hb m g:Nat)(c:Int)(k:Kv)(rs:List Rm):List Pt:= [PB hb 139 (mF m c rs),NA m g c k]++(rs.map xU++rs.map xG)
structure cE(F:Nat->Prop)(w:aA)(hb m g:Nat)(c:Int)(k:Kv)(rs:List Rm):Prop where
 o:Ob (zD hb m g c k rs) F w
 l8:rs.length=8
 ok:∀r∈rs,vZ r
theorem cE.bX(hb m g:Nat)(c:Int)(k:Kv)(rs:List Rm):dV (λF w=>cE F w hb m g c k rs):=λF G H w w' h x a fl hH=>⟨Ob.bX _ F G H w w' h.o x a fl hH,h.l8,h.ok⟩
theorem wJ{r:Rm}(h:vZ r):(kB r).length=15:=by
 have:=h.rg.1;simp[kB,this]
variable{rs:List Rm}
theorem Li(m:Nat)(c:Int)(h:∀r∈rs,vZ r)(hi:i<rs.length)(b:j<15):(mF m c rs)[2+i *15+j]?=(kB rs[i])[j]?:=by
 have d:∃v,(kB rs[i])[j]?=some v:=⟨_,aaG (by rw[wJ (h _ (aaM hi))];exact b)⟩
 obtain⟨v,a⟩:=d;rw[a];unfold mF Be;rw[aaY,aaS bL];have e:2+i *15+j - [pA m,Value.int .i64 c].length=i *15+j:=bL;rw[e];clear e;induction rs generalizing i with
 |nil=>simp at hi
 |cons r rs f=>
  have l:=wJ (h r aT);rw[abK];cases i with
  |zero=>
   simp only[adB] at a;rw[abC aQ,adY,abQ,a]
  |succ i=>
   rw[aaS aQ,l,show(i+1) *15+j - 15=i *15+j by omega];exact f (λr n=>h r (by simp[n])) (by simpa using hi) (by simpa using a)
variable{r':Rm}
theorem ZJ(m:Nat)(c:Int)(h:∀r∈rs,vZ r)(hi:i<rs.length)(f:j<15){v:aC}(a:kB r'=(kB rs[i]).set j v):(mF m c rs).setIfInBounds (2+i *15+j) v=mF m c (rs.set i r'):=by
 unfold mF Be;rw[aaI,aa6 _ _ bL];have e:2+i *15+j - [pA m,Value.int .i64 c].length=i *15+j:=bL;rw[e];clear e;congr 2
 induction rs generalizing i with
 |nil=>simp at hi
 |cons r rs b=>
  have d:=wJ (h r aT);rw[abK];cases i with
  |zero=>
   simp only[adB] at a;rw[ac9 _ _ aQ,adY,abQ,aaP,abK,a]
  |succ i=>
   rw[aa6 _ _ aQ,d,show(i+1) *15+j - 15=i *15+j by omega,aaN,abK];congr 1
   exact b (λr a=>h r (by simp[a])) (by simpa using hi) (by simpa using a)
theorem bP.sub(h:bP F w g x y)(a:∀b,G b->F b):bP G w g x y:=⟨h.ts,Ob.bX _ F (λ_=>True) G w w h.o (Kp.refl _ _) (λ_ _ _=>trivial) (λb hb=>h.fl b (a b hb)) (λr _ d e=>d (a r e))⟩
section
variable{F:Nat->Prop}{w w':aA}{hb m g:Nat}{c:Int}{k:Kv}{rs:List Rm}
theorem cE.fl(h:cE F w hb m g c k rs):Ol F w:=h.o.fl
theorem cE.below(h:cE F w hb m g c k rs)(b:aD w w w'):cE F w' hb m g c k rs/\Kp F w w':=⟨⟨h.o.below b,h.l8,h.ok⟩,h.o.NH b⟩
theorem cE.less(h:cE F w hb m g c k rs)(a:∀b,G b->F b):cE G w hb m g c k rs:=⟨Ob.bX _ F (λ_=>True) G w w h.o (Kp.refl _ _) (λ_ _ _=>trivial) (λb hb=>h.fl b (a b hb)) (λr _ d e=>d (a r e)),h.l8,h.ok⟩
theorem cE.bk(h:cE F w hb m g c k rs):bC w hb 139 (mF m c rs):=Ob.Ju h.o rfl
theorem cE.fz(h:cE F w hb m g c k rs)(i:Nat):w.frozen? (hb,i)=false:=h.bk.frozen i
theorem cE.c0(h:cE F w hb m g c k rs):w.cell? (hb,0)=some (pA m):=h.bk.cell 0 _ rfl
theorem cE.c1(h:cE F w hb m g c k rs):w.cell? (hb,1)=some (.int .i64 c):=h.bk.cell 1 _ rfl
theorem cE.rc(h:cE F w hb m g c k rs)(hi:i<rs.length)(a:j<15){v:aC}(b:(kB rs[i])[j]?=some v):w.cell? (hb,2+i *15+j)=some v:=h.bk.cell _ _ (by rw[Li m c h.ok hi a];exact b)
theorem cE.st(h:cE F w hb m g c k rs):∃G,gC G w m g c k/\(∀(k':Kv) (w':aA),gC G w' m g c k'->Kp G w w'->cE F w' hb m g c k' rs/\Kp F w w'):=by
 obtain⟨G,d,back⟩:=h.o.use 1 _ rfl;exact⟨G,d,λk' w' a b=>⟨⟨(back (NA m g c k') w' a b).1,h.l8,h.ok⟩,(back (NA m g c k') w' a b).2⟩⟩
theorem QE(hb m g:Nat)(c:Int)(k:Kv)(hi:i<rs.length):(zD hb m g c k rs)[2+i]?=some (xU rs[i]):=by
 unfold zD;rw[aaS aT,abC bL];simp[hi]
theorem Bj(hb m g:Nat)(c:Int)(k:Kv)(hi:i<rs.length):(zD hb m g c k rs)[2+rs.length+i]?=some (xG rs[i]):=by
 unfold zD;rw[aaS bL,aaS bL];simp[hi,show 2+rs.length+i - 2 - rs.length=i by omega]
theorem cE.lb(h:cE F w hb m g c k rs)(hi:i<rs.length)(s:rs[i].l=some x):∃G y,bP G w rs[i].g x y/\(∀(a:Lb) (w':aA),(∃d,bP G w' rs[i].g a d)->Kp G w w'->cE F w' hb m g c k (rs.set i {rs[i] with l:=some a})/\Kp F w w'):=by
 obtain⟨G,u,back⟩:=h.o.use (2+i) (xU rs[i]) (QE hb m g c k hi);obtain⟨y,A⟩:=u.2 x s;refine⟨G,y,A,λa w' ⟨d,b⟩ kk=>?_⟩;have e:zD hb m g c k (rs.set i {rs[i] with l:=some a})=(zD hb m g c k rs).set (2+i) (xU {rs[i] with l:=some a}):=by
  have B:mF m c (rs.set i {rs[i] with l:=some a})=mF m c rs:=by
   rw[<-ZJ m c h.ok hi (j:=0) aQ (v:=EL rs[i].l rs[i].g) (by rw[s];rfl)];refine Array.ext aT λn h1 t=>?_
   rw[Array.getElem_setIfInBounds];split
   .rename_i f;subst f;have:=Li m c h.ok hi (j:=0) aQ;rw[abE t] at this;simp only[kB,List.cons_append,List.getElem?_cons_zero,adN] at this;exact this.symm
   .rfl
  unfold zD;rw[B,aa6 _ _ aT,ab1,ab1];simp only[abM,ab5,abQ,acM];rw[ac9 _ _ (by simpa using hi)];congr 3
  have:xG {rs[i] with l:=some a}=xG rs[i]:=rfl;rw[this];refine abX aT λn h1 t=>?_
  rw[abF];split
  .rename_i f;subst f;simp
  .rfl
 obtain⟨b1,b2⟩:=back (xU {rs[i] with l:=some a}) w' ⟨(show bP G w' _ _ _ from b).fl,λz p=>by injection p with p;exact⟨d,p ▸ b⟩⟩ kk;refine⟨⟨by rw[e];exact b1,by simp[h.l8],λr q=>?_⟩,b2⟩;rcases abW q with q|rfl
 .exact h.ok r q
 .have:=h.ok _ (aaM hi);exact⟨this.rg,this.cl,this.cr⟩
theorem cE.put(h:cE F w hb m g c k rs)(hi:i<rs.length)(l:j<15)(v:aC)(a:Rm)(b:kB a=(kB rs[i]).set j v)(ok:vZ a)(h1:xU a=xU rs[i])(d:xG a=xG rs[i]):cE F (w.setCell (hb,2+i *15+j) v) hb m g c k (rs.set i a)/\Kp F w (w.setCell (hb,2+i *15+j) v):=by
 obtain⟨G,p,back⟩:=h.o.use 0 _ rfl;obtain⟨s1,s2⟩:=mI.set (cs':=mF m c (rs.set i a)) p (2+i *15+j) v (ZJ m c h.ok hi l b).symm;obtain⟨b1,b2⟩:=back (PB hb 139 (mF m c (rs.set i a))) _ s1 s2;have e:zD hb m g c k (rs.set i a)=(zD hb m g c k rs).set 0 (PB hb 139 (mF m c (rs.set i a))):=by
  unfold zD;rw[ab1,ab1,h1,d];simp only[List.cons_append,aaP,aeK];congr 3
  .refine abX aT λn h1 d=>?_
   rw[abF];split
   .rename_i f;subst f;simp
   .rfl
  .refine abX aT λn h1 d=>?_
   rw[abF];split
   .rename_i f;subst f;simp
   .rfl
 refine⟨⟨by rw[e];exact b1,by simp[h.l8],λr b=>?_⟩,b2⟩;rcases abW b with b|rfl
 .exact h.ok r b
 .exact ok
end
end
end
end Go.Proofs.YtacgiflhgdaeaaaGreat
