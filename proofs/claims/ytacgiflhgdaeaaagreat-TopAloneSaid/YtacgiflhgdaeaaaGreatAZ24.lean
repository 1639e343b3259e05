/- Texts laid as one. -/
import Derived.Test.YtacgiflhgdaeaaaGreatAZ5
import Derived.Test.YtacgiflhgdaeaaaGreatAZ12
import Derived.Test.YtacgiflhgdaeaaaGreatAZ23
set_option linter.unusedVariables false
set_option linter.unusedSimpArgs false
set_option maxRecDepth 100000
set_option maxHeartbeats 20000000
namespace Go.Proofs.YtacgiflhgdaeaaaGreat
open Go.Proofs.Tryz
open Go renaming World->aA,Value->aC,Addr->aJ,Calls->aG
open Go.RowKit renaming Below->aD,Hid->aH
open Go.Obj renaming cells->aI
section
open Go.RowKit Go.Lib Go.Shelf
variable{ts:List Tk}{W wp wx w5 w6 w w7:aA}{R:List Int}{od p:Int}{n g i m:Nat}{l:List Pt}{cs:Array aC}{B A:Option aJ}{F:Nat->Prop}{y:La}
section
def lA(ts:List Tk)(od:Int)(k:Nat):Lb:=⟨ts.take k,od,sM ts od,λ_=>0,0,(ts.take k).map λt=>kB t.pe,List.replicate ts.length 0,List.replicate ts.length 0, [], []⟩
def UI(ts:List Tk)(od:Int)(m:Nat):Lb:={lA ts od ts.length with ce:=λl=>if l<m then mT ts od (l:Nat) else 0}
def kD(ts:List Tk)(od:Int):Lb:={lA ts od ts.length with ce:=λl=>if l<8 then mT ts od (l:Nat) else 0}
theorem SZ(od:Int)(h:mI ts=true):kT (kD ts od) 0:=by
 obtain⟨f,a⟩:=X4 h;have b:ts.take ts.length=ts:=aaS (Zw _);refine⟨by simp[kD,lA,b];exact f,by simp[kD,lA,CD],by simp[kD,lA],by simp[kD,lA],by simp[kD,lA],⟨ab3 _,by simp[kD,lA]⟩,λt hm=>a t (by simpa[kD,lA,b] using hm),λi s hs=>?_,λi v k=>?_,λj l=>by simp[kD,lA] at l,by simp[kD,lA],by simp[kD,lA]⟩
 .have d:(ts.map λt=>kB t.pe)[i]?=some s:=by simpa[kD,lA,b] using hs
  obtain⟨t,hm,rfl⟩:=acL.1 (abV d);exact Gs (a t hm).pe.1 (a t hm).pe.2
 .have e:(List.replicate ts.length (0:Int))[i]?=some v:=k;have:=abK (abV e);omega
def uO(n:Nat):Obj:= .cells (madeCells (Value.int .i64 0).cells (n *1)) 3
def W6(od:Int)(n k u v:Nat):Array aC:=#[bH,od, .slice k n n,aU,aU,aU,aU,aU,aU,aU,aU,aU,bH, .slice u n n, .slice v n n,bH,bH]
structure zA(W wx:aA)(R:List Int)(od:Int)(n g k u v:Nat):Prop where
 b:bF wx g 193 (W6 od n k u v)
 Zu:bI eI 1 wx 0 3 k n R
 ru:bI eI 1 wx 0 3 u n (List.replicate n 0)
 rv:bI eI 1 wx 0 3 v n (List.replicate n 0)
 lg:W.heap.size<=g
 lk:W.heap.size<=k
 lu:W.heap.size<=u
 lv:W.heap.size<=v
 gk:g≠k
 gu:g≠u
 gv:g≠v
 ku:k≠u
 kv:k≠v
 uv:u≠v
theorem jU(W:aA)(n:Nat)(d:n<=1000){B v:Nat}(a:v=W.heap.size)(b:B<=W.heap.size):bI eI 1 (W.alloc (uO n)) B 3 v n (List.replicate n 0):=by
 subst a;unfold bI;rw[acN,<-DT];exact World.ownsRow_lit W _ n b dI (size_madeCells _ _)
theorem zA.of{k v:Nat}(b:g=wp.heap.size)(hk:bI eI 1 wp W.heap.size 3 k n R)(hu:bI eI 1 wp W.heap.size 3 i n (List.replicate n 0))(a:bI eI 1 wp W.heap.size 3 v n (List.replicate n 0))(ku:k≠i)(kv:k≠v)(uv:i≠v):zA W (wp.alloc (.cells (W6 od n k i v) 193)) R od n g k i v:=by
 have d:=hk.lt k rfl;have a2:=hu.lt i rfl;have a3:=a.lt v rfl;have a4:W.heap.size<=wp.heap.size:=aQ;exact⟨bF.fI wp _ _ b.symm,(hk.alloc _).from_ (aaH _),(hu.alloc _).from_ (aaH _),(a.alloc _).from_ (aaH _),aQ,d.1,a2.1,a3.1,aQ,aQ,aQ,ku,kv,uv⟩
def GW(g k u v:Nat):Nat->Nat:=λb=>if b=g then 1 else if b=k then 3 else if b=u then 6 else if b=v then 7 else 0
theorem zA.Aj{k v:Nat}(h:zA W wx R od n g k m v)(f:R.length=n)(hb:aD W W wx):bR (λb=>b<W.heap.size) wx g ⟨[],od,R,λ_=>0,0, [],List.replicate n 0,List.replicate n 0, [], []⟩ ⟨none,0, [],some ⟨k,0,none⟩,n,none,0, [],some ⟨m,0,none⟩,n,some ⟨v,0,none⟩,n,none,0,none,0⟩:=by
 obtain⟨b0,b1,b2,b3,lg,lk,lu,lv,gk,gu,gv,ku,kv,uv⟩:=h;have l:GW g k m v g=1:=Zz rfl;have o:GW g k m v k=3:=by unfold GW;rw[aaA (acT gk),Zz rfl]
 have eu:GW g k m v m=6:=by unfold GW;rw[aaA (acT gu),aaA (acT ku),Zz rfl]
 have ev:GW g k m v v=7:=by unfold GW;rw[aaA (acT gv),aaA (acT kv),aaA (acT uv),Zz rfl]
 refine⟨rfl,GW g k m v,λb a=>?_,λi p hp=>?_⟩
 .have a:b<W.heap.size:=a;refine⟨Zy a hb.size,?_⟩;unfold GW;rw[aaA aQ,aaA aQ,aaA aQ,aaA aQ]
 .have nil:∀{α:Type} (enc:α->List aC) (sz:Nat) (e:TypeId) (j:Nat),gP enc sz e none 0 ([]:List α) (Fo wx (GW g k m v) j) wx:=λenc sz e j=>gP.nil (Fo.ol _ _ _)
  match i,hp with
  |0,hp=>simp[jC] at hp;subst hp;exact PB.mk (by rw[show fO _ _=W6 od n k m v by simp[fO,W6,f]];exact b0) (Fo.ol _ _ _) (λhc=>hc.2 l)
  |1,hp=>simp[jC] at hp;subst hp;exact⟨bI.nil _ _ _,λx d=>by simp at d,Fo.ol _ _ _,λq hq=>by simp[aY] at hq,λx d=>by simp at d,λx d=>by simp at d⟩
  |2,hp=>simp[jC] at hp;subst hp;exact⟨b1,Fo.ol _ _ _,λq hq=>by simp[aY] at hq;subst hq;exact λhc=>hc.2 o⟩
  |3,hp=>simp[jC] at hp;subst hp;exact nil _ _ _ _
  |4,hp=>simp[jC] at hp;subst hp;exact⟨rfl,List.nodup_nil,λi hi=>by simp at hi,Fo.ol _ _ _,λq hq=>by simp at hq⟩
  |5,hp=>simp[jC] at hp;subst hp;exact⟨b2,Fo.ol _ _ _,λq hq=>by simp[aY] at hq;subst hq;exact λhc=>hc.2 eu⟩
  |6,hp=>simp[jC] at hp;subst hp;exact⟨b3,Fo.ol _ _ _,λq hq=>by simp[aY] at hq;subst hq;exact λhc=>hc.2 ev⟩
  |7,hp=>simp[jC] at hp;subst hp;exact nil _ _ _ _
  |8,hp=>simp[jC] at hp;subst hp;exact nil _ _ _ _
  |i+9,hp=>simp[jC] at hp
def EW(A:Option aJ)(c:Nat)(L:List Tm)(x:Tm):Pt:=⟨λF w=>M2 F w A c L/\Sl lP 3 w x.A x.t.se/\(∀q,aY x.A=some q->q<w.heap.size/\¬F q/\aY A≠some q),λF G H w w' h k hG fl hH=>⟨(OA A c L).cD F G H w w' h.1 k hG fl hH,h.2.1.kp k (λq hq=>hG q (h.2.2 q hq).1 (h.2.2 q hq).2.1),λq hq=>⟨Zy (h.2.2 q hq).1 k.size,hH q (h.2.2 q hq).1 (h.2.2 q hq).2.1,(h.2.2 q hq).2.2⟩⟩⟩
section
variable{F:Nat->Prop}{w w':aA}{g s c:Nat}{X:Lb}{y:La}{A:Option aJ}{x:Tm}
theorem bR.Qp(h:bR F w g X y)(hb:aD w w w')(d:∀q,aY A=some q->w.heap.size<=q/\q<w'.heap.size):bR (cE F A) w' g X y:=
 ⟨h.ts,Ob.cD _ F (λb=>b<w.heap.size) (cE F A) w w' h.o (Kp.cB hb λ_ h=>h) (λ_ f _=>f) (λb a=>a.elim (λh1=>Zy (h.fl b h1) hb.size) (λh1=>(d b h1).2)) (λr f i a=>a.elim i (λe=>by have:=d r e;omega))⟩
theorem bR.Sy(h:bR (cE F x.A) w g X y)(hs:Sl lP 3 w x.A x.t.se)(f:∀q,aY x.A=some q->q<w.heap.size/\¬F q):Ob ((jC g X y).set 1 (EW y.T y.cT y.L x)) F w:=by
 cases d:aY x.A with
 |none=>
  have e:cE F x.A=F:=by funext b;unfold cE;rw[d];exact propext ⟨λh=>h.elim id (λh=>by cases h), .inl⟩
  have h1:=h.o;rw[e] at h1;exact(h1.sC (w':=w) 1 (OA y.T y.cT y.L) (EW y.T y.cT y.L x) rfl rfl (λG i=>⟨⟨i,hs,λq hq=>by rw[d] at hq;cases hq⟩,Kp.refl _ _⟩)).1
 |some s=>
  have e:cE F x.A=Fb F s:=by funext b;unfold cE Fb;rw[d];exact propext ⟨λh=>h.imp id (λh=>by injection h with h;exact h.symm),λh=>h.imp id (λh=>by rw[h])⟩
  have h1:=h.o;rw[e] at h1;refine h1.Jo (f s d).2 1 (OA y.T y.cT y.L) (EW y.T y.cT y.L x) rfl (λG j i=>?_);have a:M2 (Fb G s) w y.T y.cT y.L:=i;refine⟨⟨a.o,a.sl,λb hb=>a.fl b (.inl hb),λq hq hf=>a.fA q hq (.inl hf),λz k q hq=>⟨(a.fS z k q hq).1,λhf=>(a.fS z k q hq).2 (.inl hf)⟩,a.cp⟩,hs,λq hq=>?_⟩;rw[d] at hq;injection hq with hq;subst hq;exact⟨(f s d).1,j,λl=>a.fA s l (.inr rfl)⟩
theorem bR.Pu(h:Ob ((jC g X y).set 1 (EW y.T y.cT y.L x)) F w5)(j:y.L.map Tm.t=X.ts)(l:x.t.se.length<=x.c)(m:∀z∈y.L,∀q,aY z.A=some q->aY y.T≠some q)(ho:bI pI 5 w6 0 125 A c (y.L++ [x]))(i:w5.grownBy w6 (aY y.T))(ha:aY A=aY y.T\/aY A=some w5.heap.size)(r:n=y.L.length):
 bR F (w6.setCell (g,0) (.slice A (n+1) c)) g {X with ts:=X.ts++ [x.t]} {y with T:=A,cT:=c,L:=y.L++ [x]}/\Kp F w5 (w6.setCell (g,0) (.slice A (n+1) c)):=by
 obtain⟨a,b⟩:=h.sC (w':=w6) (l':=(jC g X y).set 1 (OA A c (y.L++ [x]))) 1 (EW y.T y.cT y.L x) (OA A c (y.L++ [x])) rfl rfl (λG o=>by
  obtain⟨f,h1,p⟩:M2 G w5 y.T y.cT y.L/\Sl lP 3 w5 x.A x.t.se/\(∀q,aY x.A=some q->q<w5.heap.size/\¬G q/\aY y.T≠some q):=o;have k:Kp G w5 w6:=Kp.grown i λb hb=>⟨f.fl b hb,λe=>f.fA b e.symm hb⟩
  refine⟨⟨ho,λz d=>?_,f.fl.kp k,λq hq hf=>?_,λz d q hq=>?_,λz d=>?_⟩,k⟩
  .rcases aaO.1 d with d|d
   .exact(f.sl z d).grown i (λq hq e=>m z d q e hq)
   .rw[aaK.1 d];exact h1.grown i (λq hq e=>(p q e).2.2 hq)
  .rcases ha with ha|ha
   .exact f.fA q (by rw[<-ha];exact hq) hf
   .rw[ha] at hq;injection hq with hq;have:=f.fl q hf;omega
  .rcases aaO.1 d with d|d
   .exact⟨Zy (f.fS z d q hq).1 i.size,(f.fS z d q hq).2⟩
   .rw[aaK.1 d] at hq;exact⟨Zy (p q hq).1 i.size,(p q hq).2.1⟩
  .rcases aaO.1 d with d|d
   .exact f.cp z d
   .rw[aaK.1 d];exact l)
 obtain⟨a2,b2⟩:=a.sC (w':=w6.setCell ⟨g,0,none⟩ (.slice A (n+1) c)) (l':=jC g {X with ts:=X.ts++ [x.t]} {y with T:=A,cT:=c,L:=y.L++ [x]}) 0 (PB g 193 (fO X y)) (PB g 193 (fO {X with ts:=X.ts++ [x.t]} {y with T:=A,cT:=c,L:=y.L++ [x]})) rfl rfl (λG o=>o.set 0 _ (by simp[fO,r]));exact⟨⟨by simp[j],a2⟩,b.trans b2⟩
theorem bR.Lt(h:bR (Fb F s) w g X y)(hF:¬F s)(hs:Sh w s (kB p))(ho:bI xN 1 w' 0 194 A c (y.a++ [s]))(t:w.grownBy w' (aY y.S))(ha:aY A=aY y.S\/aY A=some w.heap.size)(u:n=y.a.length):
 bR F (w'.setCell (g,12) (.slice A (n+1) c)) g {X with sh:=X.sh++ [kB p]} {y with S:=A,cS:=c,a:=y.a++ [s]}/\Kp (Fb F s) w (w'.setCell (g,12) (.slice A (n+1) c)):=by
 obtain⟨a,b⟩:=h.o.sC (w':=w') (l':=(jC g X y).set 3 (PR xN 1 194 A c (y.a++ [s]))) 3 (PR xN 1 194 y.S y.cS y.a) (PR xN 1 194 A c (y.a++ [s])) rfl rfl (λG f=>gP.eQ f ho t ha);obtain⟨a2,b2⟩:=a.sC (w':=w'.setCell ⟨g,12,none⟩ (.slice A (n+1) c)) (l':=((jC g {X with sh:=X.sh++ [kB p]} {y with S:=A,cS:=c,a:=y.a++ [s]}).set 4 (N9 y.a X.sh))) 0 (PB g 193 (fO X y)) (PB g 193 (fO {X with sh:=X.sh++ [kB p]} {y with S:=A,cS:=c,a:=y.a++ [s]})) rfl rfl (λG f=>f.set 12 _ (by simp[fO,u]));have k:=b.trans b2;have j:Sh (w'.setCell (g,12) (.slice A (n+1) c)) s (kB p):=k.aY hs (.inr rfl);have a3:=a2.Jo hF 4 (N9 y.a X.sh) (N9 (y.a++ [s]) (X.sh++ [kB p])) rfl (λG l f=>by
  have d:EH (Fb G s) (w'.setCell (g,12) (.slice A (n+1) c)) y.a X.sh:=f;refine⟨by simp[d.len],?_,λi hi m=>?_,λb hb=>d.fl b (.inl hb),λq hq=>?_⟩
  .rw[List.nodup_append];refine⟨d.nd,aT,λa ha b hb=>?_⟩;rw[aaK.1 hb];exact λe=>(d.fa a ha).2 (.inr e)
  .by_cases hl:i<y.a.length
   .rw[List.getElem_append_left hl,List.getElem_append_left (by rw[<-d.len];exact hl)];exact d.sh i hl _
   .have r:i=y.a.length:=by simp at hi;omega
    subst r;have v:(y.a++ [s])[y.a.length]'hi=s:=aT;have z:(X.sh++ [kB p])[y.a.length]'m=kB p:=by rw[List.getElem_append_right (by rw[d.len];exact Zw _)];simp
    rw[v,z];exact j
  .rcases aaO.1 hq with hq|hq
   .exact⟨(d.fa q hq).1,λhf=>(d.fa q hq).2 (.inl hf)⟩
   .rw[aaK.1 hq];exact⟨j.lt,l⟩)
 exact⟨⟨h.ts,a3⟩,k⟩
theorem Ob.Qw{t:TypeId}(h:Ob l F w)(j:l[0]?=some (PB g t cs))(i:Nat)(p:Pt)(hp:l[i+1]?=some p)(a:∀G,p.X G w->∀q,aY B=some q->¬G q)(k:w.grownBy w' (aY B)):bF w' g t cs:=by
 obtain⟨f,h1⟩:=h;have d:oF g t cs (Fo w f 1) w:=h1.get 0 j;refine d.b.grown k (λe=>?_);have m:f g=1:=aaW λhc=>d.nf ⟨d.b.lt,hc⟩
 exact a _ (h1.get (i+1) hp) g e.symm ⟨d.b.lt,aQ⟩
theorem Ob.Qu{t:TypeId}(h:Ob l F w)(a:l[0]?=some (PB g t cs)):bF w g t cs:=by
 obtain⟨d,h1⟩:=h;exact(h1.get 0 a:oF g t cs _ w).b
end
theorem Xm:jS prog 190 194 1 8:=fU (z:= .pointer none) underlying190 aV rfl aQ
theorem G9(hF:∀b,b<w.heap.size->F b)(hb:aD w w w5)(k:Kp F w5 w7):aD w w w7:=⟨k.os.trans hb.os,k.tape.trans hb.tape,k.output.trans hb.output,aaC hb.size k.size,λi hi=>(k.block i (hF i hi)).trans (hb.block i hi)⟩
theorem bR.Vj{x:Lb}(h:bR F w g x y)(hm:m<8)(v:Int):bR F (w.setCell (g,3+m) v) g {x with ce:=λl=>if l=m then v else x.ce l} y/\Kp F w (w.setCell (g,3+m) v):=by
 refine h.cell (3+m) _ ?_ h.ts rfl;rcases(by omega:m=0\/m=1\/m=2\/m=3\/m=4\/m=5\/m=6\/m=7) with rfl|rfl|rfl|rfl|rfl|rfl|rfl|rfl <;> simp[fO]
theorem bR.Ru{x:Lb}(h:bR F w g x y):qK w y.T y.L:=by
 obtain⟨b,h1⟩:=h.o;have a:M2 (Fo w b 2) w y.T y.cT y.L:=h1.get 1 (p:=OA y.T y.cT y.L) rfl;exact⟨a.o.sl lK,a.sl,a.cp⟩
theorem Er(ts:List Tk)(od:Int)(m:Nat):UI ts od (m+1)={UI ts od m with ce:=λl=>if l=m then mT ts od (m:Nat) else(UI ts od m).ce l}:=by
 have e:(λl:Nat=>if l<m+1 then mT ts od (l:Nat) else 0)=λl:Nat=>if l=m then mT ts od (m:Nat) else if l<m then mT ts od (l:Nat) else 0:=by
  funext l
  by_cases h:l=m
  .rw[Zz h,Zz aQ,h]
  .rw[aaA h];by_cases a:l<m
   .rw[Zz a,Zz aQ]
   .rw[aaA a,aaA aQ]
 show({lA ts od ts.length with ce:=λl:Nat=>if l<m+1 then mT ts od (l:Nat) else 0}:Lb)=_;rw[e];rfl
theorem Co{k:Nat}(hk:k<ts.length):lA ts od (k+1)={lA ts od k with ts:=(lA ts od k).ts++ [ts[k]],sh:=(lA ts od k).sh++ [kB (ts[k]).pe]}:=by
 unfold lA;rw[<-aa3 hk,adU];rfl
theorem QJ{L:List Tm}(h:qK w A L)(hl:L.length<=1000)(h8:∀x∈L,x.t.se.length<=1000000)(c:Nat)(od:Int):
 aG prog 24 #[(A,L.length,c),od] w λe w'=>if mI (L.map Tm.t)=true/\(od=0\/od=1) then(∃g y,e= .returned (.tuple #[.pointer (some ⟨g,0,none⟩),aU])/\bR (λb=>b<w.heap.size) w' g (kD (L.map Tm.t) od) y/\aD w w w') else e= .returned (.tuple #[pH, .int .i64 1])/\aD w w w':=by
 have HA:=aP (Ia h hl h8 c);have HS:=aP h;have H8:=aP h8;clear h h8;by_cases hc:mI (L.map Tm.t)=true/\(od=0\/od=1)
 .simp only[Zz hc];obtain⟨ha,ho⟩:=hc;rw[ha] at HA;have HTI:=aP (X4 ha);have hn8:L.length<=8:=by have:=HTI.o.1;simpa using this
  have HR:=aP (λW (hW:qK W A L)=>JO hW aQ c od);clear ha;go_enter func24,ntmps24
  go_upto_region 1 with(fail)
  go_cut [22] (λs22 wx=>s22= .bool false/\aD w w wx)
  case first=>
   rcases ho with rfl|rfl
   .go_wp2_with fail
    refine aR HA ?_;rintro e w2 ⟨rfl,hb⟩;have HB:=aP hb;clear hb HA;go_wp2_with fail
    go_meet
    exact⟨rfl,HB.o⟩
   .go_wp2_with fail
    refine aR HA ?_;rintro e w2 ⟨rfl,hb⟩;have HB:=aP hb;clear hb HA;go_wp2_with fail
    go_meet
    exact⟨rfl,HB.o⟩
  case rest=>
  obtain⟨rfl,hbc⟩:=hcut;have D:=aP hbc;have HR2:=aP (λW (hb:aD wc wc W)=>HR.o W ((HS.o.keep hbc).keep hb));obtain⟨i0,hi0,hz0,hz1,hz2⟩:=info_parts IF;clear hbc ho;go_upto_region 3 with(fail)
  go_cut [6] (λs6 wx=>∃g k u v,s6= .pointer (some ⟨g,0,none⟩)/\zA w wx (sM (L.map Tm.t) od) od L.length g k u v/\aD w w wx)
  case first=>
   have hBx:=(Below.refl wc wc).drew;have hmk:∀W:aA,(Instr.makeSlice 35 (.int .i64 (L.length:Int)) (.int .i64 (L.length:Int))).run prog W= .ok (.slice W.heap.size L.length L.length) (W.alloc (uO L.length)):=λW=>by
    have h:=run_make (P:=prog) W 35 3 i0 (.int .i64 0) underlying35 hi0 hz0 .i64 .i64 L.length L.length aQ (ab3 _) (by rw[hz2];omega) aQ;simp only[aaG] at h;rw[h,hz1];rfl
   have hB1:aD wc wc (wc.alloc (uO L.length)).drew:=(aX wc _).drew;have hB2:aD wc wc ((wc.alloc (uO L.length)).alloc (uO L.length)).drew:=((aX wc _).alloc aT _).drew;go_region_held3 (λ_=>True) (exact trivial) ((first|(go_at_call 51;(with_reducible refine(HR2.o _ hBx).mono ?_);rintro e I ⟨q,rfl,f,j⟩)|(go_at_call 51;(with_reducible refine(HR2.o _ hB1).mono ?_);rintro e I ⟨q,rfl,f,j⟩)|(go_at_call 51;(with_reducible refine(HR2.o _ hB2).mono ?_);rintro e I ⟨q,rfl,f,j⟩)))
   all_goals
    have z26:=f.lt q rfl;have s4:=j.size;have dz:∀W:aA,W.drew.heap.size=W.heap.size:=λ_=>rfl
    (try rw[dz] at z26 s4)
    (try simp only[World.size_alloc] at z26 s4)
    have sw:=D.o.size;clear hmk;go_wp2_with fail
    go_meet
    first
     |(refine⟨_,q,I.heap.size,I.heap.size+1,rfl,zA.of aT (((f.from_ bT).alloc _).alloc _) ((jU I L.length aQ rfl aQ).alloc _) (jU (I.alloc (uO L.length)) L.length aQ aT bT) aQ aQ aQ,D.o.trans (Below.mono ?_ sw)⟩)
     |(refine⟨_,q,I.heap.size+1,I.heap.size,rfl,zA.of aT (((f.from_ bT).alloc _).alloc _) (jU (I.alloc (uO L.length)) L.length aQ aT bT) ((jU I L.length aQ rfl aQ).alloc _) aQ aQ aQ,D.o.trans (Below.mono ?_ sw)⟩)
     |(refine⟨_,q,wc.heap.size,I.heap.size,rfl,zA.of aT ((f.from_ bT).alloc _) (((jU wc L.length aQ rfl aQ).drew.keep j).alloc _) (jU I L.length aQ rfl aQ) aQ aQ aQ,D.o.trans (Below.mono ?_ sw)⟩)
     |(refine⟨_,q,I.heap.size,wc.heap.size,rfl,zA.of aT ((f.from_ bT).alloc _) (jU I L.length aQ rfl aQ) (((jU wc L.length aQ rfl aQ).drew.keep j).alloc _) aQ aQ aQ,D.o.trans (Below.mono ?_ sw)⟩)
     |(refine⟨_,q,wc.heap.size,wc.heap.size+1,rfl,zA.of aT (f.from_ bT) (((jU wc L.length aQ rfl aQ).alloc _).drew.keep j) ((jU (wc.alloc (uO L.length)) L.length aQ aT bT).drew.keep j) aQ aQ aQ,D.o.trans (Below.mono ?_ sw)⟩)
     |(refine⟨_,q,wc.heap.size+1,wc.heap.size,rfl,zA.of aT (f.from_ bT) ((jU (wc.alloc (uO L.length)) L.length aQ aT bT).drew.keep j) (((jU wc L.length aQ rfl aQ).alloc _).drew.keep j) aQ aQ aQ,D.o.trans (Below.mono ?_ sw)⟩)
    first
     |exact(((hBx.trans j).alloc (by first|omega|(simp only[World.size_alloc];omega)|(rw[dz];simp only[World.size_alloc];omega)) _).alloc (by first|omega|(simp only[World.size_alloc];omega)|(rw[dz];simp only[World.size_alloc];omega)) _).alloc (by first|omega|(simp only[World.size_alloc];omega)|(rw[dz];simp only[World.size_alloc];omega)) _
     |exact((hB1.trans (j.mono (by first|omega|(simp only[World.size_alloc];omega)|(rw[dz];simp only[World.size_alloc];omega)))).alloc (by first|omega|(simp only[World.size_alloc];omega)|(rw[dz];simp only[World.size_alloc];omega)) _).alloc (by first|omega|(simp only[World.size_alloc];omega)|(rw[dz];simp only[World.size_alloc];omega)) _
     |exact(hB2.trans (j.mono (by first|omega|(simp only[World.size_alloc];omega)|(rw[dz];simp only[World.size_alloc];omega)))).alloc (by first|omega|(simp only[World.size_alloc];omega)|(rw[dz];simp only[World.size_alloc];omega)) _
  case rest=>
  obtain⟨g,k0,u0,v0,rfl,hnb,hbc2⟩:=hcut;have R:=hnb.Aj (by rw[CD,abB]) hbc2;obtain⟨ts,hts⟩:∃ts,ts=L.map Tm.t:=⟨_,rfl⟩
  have htl:ts.length=L.length:=by rw[hts,abB]
  have hst:lA ts od 0=⟨[],od,sM ts od,λ_=>0,0, [],List.replicate L.length 0,List.replicate L.length 0, [], []⟩:=by unfold lA;rw[htl];rfl
  rw[<-hts,<-hst] at R;obtain⟨F,hF⟩:∃F:Nat->Prop,F=λb=>b<w.heap.size:=⟨_,rfl⟩
  rw[<-hF] at R;have HFF:aH (∀b,F b->b<w.heap.size):=λb hb=>by rw[hF] at hb;exact hb
  have HF:=aP hF;have HTS:=aP hts;have HTL:=aP htl;rw[<-hts] at HTI;have H0:aH (∃y,bR F wc g (lA ts od 0) y/\aD w w wc/\(∀z∈y.L,∀q,aY z.A=some q->aY y.T≠some q)/\y.L.length=0):=⟨_,R,hbc2,λz J=>by simp at J,rfl⟩
  clear hnb hbc2 R hst HR2 HR hF hts htl D hi0 hz0 hz1 hz2;go_wp2_with fail
  go_loopw [8,9,10,37] (λ_ _ _ v37 wr=>∃k:Nat,k<=L.length/\v37= .int .i64 k/\aH (∃y,bR F wr g (lA ts od k) y/\aD w w wr/\(∀z∈y.L,∀q,aY z.A=some q->aY y.T≠some q)/\y.L.length=k)) (λ_ _ _ v37 _=>L.length - (intOf v37).toNat)
  case atStart=>exact⟨0,aaH _,rfl,H0.o⟩
  case round=>
   clear H0;obtain⟨k,hk,rfl,HQ⟩:=hrel;by_cases hlt:k<L.length
   .obtain⟨y,hA,hB,hap,hyl⟩:=HQ.o;obtain⟨b,off,hAd,t0,t1,t2,t3,t4⟩:=(HS.o.keep hB).at_ hlt;have j0:(0:Int)<=k:=aQ;have j1:(k:Int)<(L.length:Int):=aQ;have hsl:=(HS.o.keep hB).sl _ (aaF hlt);have h8x:=H8.o _ (aaF hlt);have hktl:k<ts.length:=by rw[HTL.o];exact hlt
    have hxt:ts[k]=L[k].t:=by simp only[HTS.o,List.getElem_map]
    have HNX:aH (lA ts od (k+1)={lA ts od k with ts:=(lA ts od k).ts++ [L[k].t],sh:=(lA ts od k).sh++ [kB (L[k].t).pe]}):=by unfold aH;rw[<-hxt];exact Co hktl
    have hti:=HTI.o.2 _ (aaF hktl);rw[hxt] at hti;generalize L[k]=x at *;have hb1:=aX wr (aI #[x.t.co,x.t.pe,x.t.de,(x.A,x.t.se.length,x.c),x.t.po] 125);have bx:=bF.new wr 125 #[x.t.co,x.t.pe,x.t.de,(x.A,x.t.se.length,x.c),x.t.po];have x1:=bx.cell 1 x.t.pe rfl;have hA1:=hA.boxed hb1 (Zw _) aT;have hsl1:=hsl.keep hb1;have HN:=aP (ZJ x.t.pe (wr.alloc (aI #[x.t.co,x.t.pe,x.t.de,(x.A,x.t.se.length,x.c),x.t.po] 125)) hti.pe.1 hti.pe.2);have M:=aP (And.intro hA1 (And.intro bx (And.intro hsl1 (hB.trans (hb1.mono hB.size)))));have HSZ:aH (w.heap.size<=wr.heap.size):=hB.size;have E:aH (y.L.length=k/\(∀z∈y.L,∀q,aY z.A=some q->aY y.T≠some q)/\y.L.map Tm.t=(lA ts od k).ts/\x.t.se.length<=1000000):=⟨hyl,hap,hA.ts,h8x⟩
    clear hA hB hap hyl hsl hxt hti hb1 bx hA1 hsl1 hktl HQ;rw[hAd];go_upto_region 7 with(fail)
    clear t0 t1 t2 t3 t4;generalize wr.alloc (aI #[x.t.co,x.t.pe,x.t.de,(x.A,x.t.se.length,x.c),x.t.po] 125)=w1 at *;generalize wr.heap.size=b8 at *;go_wp2_with fail
    refine aR HN ?_;rintro e w2 ⟨s2,rfl,hsg,hsh,hb2⟩;have hA2:=M.o.1.boxed hb2 hsg hsh.lt;have bx2:=M.o.2.1.keep hb2;have x3:=bx2.cell 3 (.slice x.A x.t.se.length x.c) rfl;have HC:=aP (P2 x.A x.t.se x.c w2 (M.o.2.2.1.keep hb2) (by have:=E.o.2.2.2;omega));have HLE:aH (b8<s2/\s2<w2.heap.size/\b8<w2.heap.size/\(∀b,F b->b<b8)):=⟨Zy M.o.2.1.lt hsg,hsh.lt,bx2.lt,λb hb=>Zy (HFF.o b hb) HSZ.o⟩
    have HNS:aH (¬Fb F b8 s2):=λhf=>by
     have l:=HLE.o;rcases hf with hf|hf
     .have:=l.2.2.2 s2 hf;omega
     .omega
    have N:=aP (And.intro hA2 (And.intro bx2 (And.intro hsh (M.o.2.2.2.trans (hb2.mono (by have:=M.o.2.2.2.size;omega))))));clear hA2 bx2 hsh hb2 hsg M HN x1;go_wp2_with fail
    refine aR HC ?_;rintro e w3 ⟨B,d,rfl,own,V⟩;have hA3:=N.o.1.Qp (A:=B) V (λq hq=>own.lt q hq);have bx3:=N.o.2.1.keep V;have f3:=bx3.frozen 3;have x3':=bx3.cell 3 (.slice x.A x.t.se.length x.c) rfl;have O:=aZ (bK w3 b8) 3 (.slice B x.t.se.length d);have bx4:=bx3.bX 3 (.slice B x.t.se.length d);have hsl4:=(own.sl BR).grown O (λq hq e=>by injection hq with hq;have:=(own.lt q e).1;have:=HLE.o.2.2.1;omega);have hsh4:Sh (w3.setCell (b8,3) (.slice B x.t.se.length d)) s2 (kB x.t.pe):=bF.grown (N.o.2.2.1.keep V) O (λe=>by injection e with e;have:=HLE.o.1;omega);have hA4:bR (cE (Fb (Fb F b8) s2) B) (w3.setCell (b8,3) (.slice B x.t.se.length d)) g (lA ts od k) y:=⟨hA3.ts,dN.gr (Ob.cD _) hA3.o O (λq hq=>by injection hq with hq;subst hq;exact .inl (.inl (.inr rfl))) (λb hb=>Zy (hA3.fl b hb) O.size) (λb _ h=>h)⟩
    obtain⟨i,Y⟩:∃i:Tm,i=⟨x.t,B,d⟩:=⟨_,rfl⟩
    have hcl:=bR.Sy (x:=i) (F:=Fb (Fb F b8) s2) (by rw[Y];exact hA4) (by rw[Y];exact hsl4) (λq hq=>by
     rw[Y] at hq;have h1:=own.lt q hq;refine⟨Zy h1.2 O.size,λhf=>?_⟩;have l:=HLE.o;rcases hf with(hf|hf)|hf
     .have:=l.2.2.2 q hf;omega
     .omega
     .omega)
    have HCP:aH (i.t.se.length<=i.c/\i.t=x.t):=by rw[Y];exact⟨own.cap,rfl⟩
    have HB4:aH (aD w w (w3.setCell (b8,3) (.slice B x.t.se.length d))):=(N.o.2.2.2.trans (V.mono (by have:=N.o.2.2.2.size;omega))).grown O (by have:=N.o.2.2.2.size;have:=V.size;omega) (λq hq=>by injection hq with hq;have:=HSZ.o;omega);have bx4':bF (w3.setCell (b8,3) (.slice B x.t.se.length d)) b8 125 #[i.t.co,i.t.pe,i.t.de,(i.A,i.t.se.length,i.c),i.t.po]:=by rw[Y];exact bx4
    have r:=dA hcl bx4' hsh4;clear hA3 bx3 bx4 bx4' O hsl4 hsh4 hA4 hcl own V N HC x3;go_upto_region 11 with(fail)
    clear f3 x3';generalize w3.setCell (b8,3) (.slice B x.t.se.length d)=I at *;clear Y;have e0:=r.o.1.Qu rfl |>.cell 0 (.slice y.T y.L.length y.cT) rfl;rw[E.o.1] at e0;have z0:=r.o.2.1.cell 0 i.t.co rfl;have z1:=r.o.2.1.cell 1 i.t.pe rfl;have z2:=r.o.2.1.cell 2 i.t.de rfl;have z3:=r.o.2.1.cell 3 (.slice i.A i.t.se.length i.c) rfl;have z4:=r.o.2.1.cell 4 i.t.po rfl;have HY:aH (∀(W:aA) t,Sl pI 5 (W.alloc (.cells #[i.t.co,i.t.pe,i.t.de,(i.A,i.t.se.length,i.c),i.t.po] t)) (some ⟨W.heap.size,0,none⟩) [i]):=λW t=>Sl.new lK W i _ rfl t
    have C:=bD e0;have aft_z0:=bD z0;have aft_z1:=bD z1;have aft_z2:=bD z2;have aft_z3:=bD z3;have aft_z4:=bD z4;refine bO (bS _) (λ_=>bS) [61] (λ_ v w=>LQ pI 5 i v w) [7,10] [[7,6,5]] 93 (bY _) (λ_ _ _ h J=>bU h J) (λ_ d hd _ v w w' _ h J=>h.keep J) aV aV bL ?_;repeat (first|(refine eA ?_)|(refine uG 61 [] bL bL bL bL (λγ w hC hT=>?_) ?_;(simp only[cO];go_simp;exact p5 (aX w _) ⟨_,rfl,HY.o w _⟩);(try refine dE ?_)))
    refine dC ?_;intro γ w5 H hT;clear C aft_z0 aft_z1 aft_z2 aft_z3 aft_z4;simp only[cO,Act.put,Zx,aaE,aaD];refine dP ?_;obtain⟨G,hv,hsl⟩:=hT 61 aT;rw[hv];have hO5:=r.o.1.below H;have hsh5:=r.o.2.2.keep H;have hB5:aD w w w5:=HB4.o.trans (H.mono HB4.o.size);have U:∃o:bI pI 5 w5 0 125 y.T y.cT y.L,True:=by
     obtain⟨ow,h1⟩:=hO5;have l:M2 (Fo w5 ow 2) w5 y.T y.cT y.L/\_:=h1.get 1 (p:=EW y.T y.cT y.L i) rfl;exact⟨l.1.o,trivial⟩
    have U:=U.1;have Z:=dA hO5 hsh5 hB5;clear hv hT HY e0 z0 z1 z2 z3 z4 hO5 hsh5 hB5 H r HB4;refine bP w5 rfl (.tmp 59) (.tmp 61) rfl Dw lK (base:=0) (xs:=y.L) U (n:=k) E.o.1 rfl (m:=1) rfl (ys:= [i]) rfl hsl dI aQ (aaH _) _ rfl (k+1) rfl ?_;intro A6 c6 w6 own6 hg6 Q;have hb6:=Z.o.1.Qw (w':=w6) (B:=y.T) rfl 0 (EW y.T y.cT y.L i) rfl (λG hG q hq=>hG.1.fA q hq) hg6;refine dS w6 rfl 102 _ _ rfl g 0 (.slice A6 (k+1) c6) rfl rfl aV rfl (hb6.one (by simp[fO])) ?_;refine cI ?_;refine dE ?_;obtain⟨h7,k7⟩:=bR.Pu (X:=lA ts od k) (y:=y) Z.o.1 E.o.2.2.1 HCP.o.1 E.o.2.1 own6 hg6 Q (n:=k) E.o.1.symm;have hsh7:Sh (w6.setCell ⟨g,0,none⟩ (.slice A6 (k+1) c6)) s2 (kB x.t.pe):=k7.aY Z.o.2.1 (.inr rfl);have hap7:∀z∈y.L++ [i],∀q,aY z.A=some q->aY A6≠some q:=λz J q hq e=>by
     obtain⟨ow,h1⟩:=Z.o.1;have l:M2 (Fo w5 ow 2) w5 y.T y.cT y.L/\_/\(∀q,aY i.A=some q->q<w5.heap.size/\¬Fo w5 ow 2 q/\aY y.T≠some q):=h1.get 1 (p:=EW y.T y.cT y.L i) rfl;have h3:q<w5.heap.size/\aY y.T≠some q:=by
      rcases aaO.1 J with J|J
      .exact⟨(l.1.fS z J q hq).1,E.o.2.1 z J q hq⟩
      .rw[aaK.1 J] at hq;exact⟨(l.2.2 q hq).1,(l.2.2 q hq).2.2⟩
     rcases Q with Q|Q
     .exact h3.2 (Q ▸ e)
     .rw[Q] at e;injection e with e;omega
    have HB7:aH (aD w w (w6.setCell ⟨g,0,none⟩ (.slice A6 (k+1) c6))):=by
     exact G9 (λb hb=> .inl (.inl (by rw[HF.o];exact hb))) Z.o.2.2 k7
    have e12:=h7.c 12 (.slice y.S y.a.length y.cS) rfl;have HAL:aH (y.a.length=k):=by
     have h1:=h7.Oq;have l:(lA ts od k).sh.length=k:=by simp[lA];have:=HTL.o;omega
     exact h1.trans l
    rw[HAL.o] at e12;have H7:=dA h7 hsh7 hap7;clear h7 k7 hsh7 hap7 own6 hg6 Q hb6 U hsl Z;generalize w6.setCell ⟨g,0,none⟩ (.slice A6 (k+1) c6)=w7 at *;have H8':=aP (H7.o.1.below (aX w7 (aI #[.pointer s2] 194)));have own8:∃o:bI xN 1 (w7.alloc (aI #[.pointer s2] 194)) 0 194 y.S y.cS y.a,True:=by
     obtain⟨ow,h1⟩:=H8'.o.o;exact⟨(h1.get 3 (p:=PR xN 1 194 y.S y.cS y.a) rfl).o,trivial⟩
    have HO8:=aP own8.1;clear own8;go_wp2_with(at_builtin;refine bP _ rfl _ _ rfl Xm EG (base:=0) (xs:=y.a) HO8.o (n:=k) HAL.o rfl (m:=1) rfl (ys:= [s2]) rfl (Sl.new EG w7 s2 _ rfl _) dI aQ (aaH _) _ rfl (k+1) rfl ?_;intro A9 c9 w9 own9 hg9 at9;(have b9:=H8'.o.o.Qw (w':=w9) (B:=y.S) rfl 2 (PR xN 1 194 y.S y.cS y.a) rfl (λG hG q hq=>hG.nf q hq) hg9);(have f12:=b9.frozen 12);(have d12:=b9.cell 12 _ rfl);(obtain⟨h10,k10⟩:=bR.Lt H8'.o HNS.o (H7.o.2.1.alloc _) own9 hg9 at9 (n:=k) HAL.o.symm);(have HB10:=aP (G9 (λb hb=> .inl (.inl (by rw[HF.o];exact hb))) (HB7.o.alloc HB7.o.size _) k10));(have H10:=aP h10.less);clear h10 k10 own9 hg9 at9 b9)
    have HFIN:aH (∃y',bR F (w9.setCell ⟨g,12,none⟩ (.slice A9 (k+1) c9)) g (lA ts od (k+1)) y'/\aD w w (w9.setCell ⟨g,12,none⟩ (.slice A9 (k+1) c9))/\(∀z∈y'.L,∀q,aY z.A=some q->aY y'.T≠some q)/\y'.L.length=k+1):=by
     have h1:=H10.o;rw[HCP.o.2] at h1;rw[HNX.o];exact⟨_,h1,HB10.o,H7.o.2.2,by simp[E.o.1]⟩
    try rw[<-hAd]
    refine⟨⟨k+1,aQ,rfl,HFIN.o⟩,by simp only[intOf];omega⟩
   .obtain rfl:k=L.length:=aQ;have H0:aH (∃y,bR F wr g (UI ts od 0) y/\aD w w wr/\y.L.map Tm.t=ts):=by
     obtain⟨y,h1,l,_,_⟩:=HQ.o;rw[<-HTL.o] at h1;exact⟨y,h1,l,by rw[h1.ts];simp[lA]⟩
    clear HQ;go_wp2_with fail
    go_loopw [11,76] (λ_ v76 wr=>∃m:Nat,m<=8/\v76= .int .i64 m/\aH (∃y,bR F wr g (UI ts od m) y/\aD w w wr/\y.L.map Tm.t=ts)) (λ_ v76 _=>8 - (intOf v76).toNat)
    case atStart=>exact⟨0,aQ,rfl,H0.o⟩
    case round=>
     clear H0;obtain⟨m,hm,rfl,HM⟩:=hrel;by_cases hm8:m<8
     .obtain⟨y,h1,l,h3⟩:=HM.o;have hll:y.L.length=L.length:=by have:=HTL.o;rw[<-h3,abB] at this;exact this
      have e0:=h1.c 0 (.slice y.T y.L.length y.cT) rfl;rw[hll] at e0;have m0:(0:Int)<=m:=aQ;have m1:(m:Int)<8:=aQ;have HCE:aH (∀n:CW (bS wr),aG prog 54 #[(y.T,L.length,y.cT),od,m] n.w λe w'=>e= .returned (.int .i64 (mT ts od (m:Nat)))/\bS n.w w'):=λn=>by
       have h4:=Bh (h1.Ru.keep n.ok) aQ (λx hx=>by have:=(HTI.o.2 x.t (by rw[<-h3];exact acL.2 ⟨x,hx,rfl⟩)).se;omega) y.cT od m;rw[h3,hll] at h4;exact h4
      have HST:=aP (Er ts od m);have H1:=dA h1 l h3;clear h1 l h3 hll HM;go_upto_region 17 with(fail)
      have C:=bD e0;refine bO (bS _) (λ_=>bS) [] (λ_ _ _=>True) [12] [] 93 (bY _) (λ_ _ _ h J=>bU h J) (λ_ d hd _ v w w' _ h J=>by cases hd) aV aV bL ?_;repeat (first|(refine K9 bL ?_;(try refine dE ?_))|(refine FY bL bL bL bL bL (λK hK=>?_);go_big_quiet_op;refine hK _ ?_;clear hK K)|(refine VP bL bL bL bL bL bL (λK hK=>?_);go_big_quiet_op;refine hK _ ?_;clear hK K)|(refine OU bL bL bL ?_;(try refine dE ?_))|(refine FX bL bL bL bL bL (λK hK=>?_);go_simp;(try simp only[KZ,ab7]);first|(apply Exists.intro;refine⟨λn=>?_,hK _ ?_⟩;(with_reducible exact HCE.o _);clear hK K;(try refine dE ?_))|(apply Exists.intro;refine⟨λn=>rfl,hK _ ?_⟩;clear hK K;(try refine dE ?_))))
      refine dC ?_;intro γ w5 H hT;clear C;simp only[cO,Act.put,Zx,aaE,aaD];refine dP ?_;have h5:=H1.o.1.below H;have hb6:=h5.bk;refine dS w5 rfl 3 _ _ rfl g (3+m) (.int .i64 (mT ts od (m:Nat))) rfl rfl aV rfl (hb6.one (by simp[fO];omega)) ?_;refine cI ?_;refine dE ?_;obtain⟨h7,k7⟩:=h5.Vj hm8 (mT ts od (m:Nat));have H7:aH (∃y,bR F (w5.setCell ⟨g,3+m,none⟩ (.int .i64 (mT ts od (m:Nat)))) g (UI ts od (m+1)) y/\aD w w (w5.setCell ⟨g,3+m,none⟩ (.int .i64 (mT ts od (m:Nat))))/\y.L.map Tm.t=ts):=by
       rw[HST.o];exact⟨y,h7,G9 (λb hb=>by rw[HF.o];exact hb) (H1.o.2.1.trans (H.mono H1.o.2.1.size)) k7,H1.o.2.2⟩
      clear h5 hb6 h7 k7 H H1 HST HCE;generalize w5.setCell ⟨g,3+m,none⟩ (.int .i64 (mT ts od (m:Nat)))=w7 at *;go_wp2_with fail
      refine⟨⟨m+1,aQ,rfl,H7.o⟩,by simp only[intOf];omega⟩
     .obtain rfl:m=8:=aQ;have HE:aH (∃y,bR (λb=>b<w.heap.size) wr g (kD (L.map Tm.t) od) y/\aD w w wr):=by
       obtain⟨y,h1,l,_⟩:=HM.o;rw[HF.o,HTS.o] at h1;exact⟨y,h1,l⟩
      clear HM;go_wp2_with fail
      go_ret2
      obtain⟨y,h1,l⟩:=HE.o;exact⟨g,y,rfl,h1,l⟩
 .simp only[aaA hc];cases ha:mI (L.map Tm.t)
  .rw[ha] at HA;clear hc;go_enter func24,ntmps24
   go_wp2_with fail
   refine aR HA ?_;rintro e w2 ⟨rfl,hb⟩;have HB:=aP hb;clear hb HA;go_wp2_with fail
   go_ret2
   exact⟨rfl,HB.o⟩
  .rw[ha] at HA;have h0:¬od=0:=λh=>hc ⟨ha, .inl h⟩
   have h1:¬od=1:=λh=>hc ⟨ha, .inr h⟩
   have l:(od !=0)=true:=by simpa using h0
   have h3:(od !=1)=true:=by simpa using h1
   clear hc;go_enter func24,ntmps24
   go_wp2_with fail
   refine aR HA ?_;rintro e w2 ⟨rfl,hb⟩;have HB:=aP hb;clear hb HA;go_wp2_with fail
   go_ret2
   exact⟨rfl,HB.o⟩
end
end
section
open Go.RowKit Go.Lib Go.Shelf dF Fr Up Nt
def P1:List Bool:=List.replicate 8 false
theorem U2(w:aA)(c:Int)(hc:1<=c/\c<=64):aG prog 69 #[.agg #[.int .i64 6, .int .i64 2, .int .i64 4],c] w λe w'=>∃m g p0,e= .returned (.tuple #[.pointer (some ⟨m,0,none⟩),aU])/\gF (λb=>b<w.heap.size) w' m g c (oK p0)/\aD w w w':=by
 have f:=aX w (aI #[.int .i64 6, .int .i64 2, .int .i64 4] 60);have t:=bF.new w 60 #[.int .i64 6, .int .i64 2, .int .i64 4];have n:aH (Ob [] (λb=>b<w.heap.size) (w.alloc (aI #[.int .i64 6, .int .i64 2, .int .i64 4] 60))):=Ob.none (λb hb=>Zy hb f.size) (λb hb=>Zy hb f.size);have k:=aP f;have z0:=t.cell 0 (.int .i64 6) rfl;have A:=t.cell 1 (.int .i64 2) rfl;have z2:=t.cell 2 (.int .i64 4) rfl;obtain⟨c1,c2⟩:=hc;clear f t;go_enter func69,ntmps69
 go_upto_region 3 with(fail)
 generalize w.alloc (aI #[.int .i64 6, .int .i64 2, .int .i64 4] 60)=z at *;generalize hq:w.heap.size=q at *;have v:=aP (Iu z);go_wp2_with fail
 refine aR v ?_;rintro e j ⟨g,p0,rfl,⟨a,hk⟩,hb2⟩;have r:aH (Ob [An g a (oK p0)] (λb=>b<q) j):=n.o.add (p:=An g a (oK p0)) hk hb2;have l:aH (aD q w j):=k.o.trans (hb2.mono (by have:=k.o.size;omega));have d:=aX j (aI (BL g c P1).toArray 142);have u:aH (Ob (Qe j g c P1 a (oK p0)) (λb=>b<q) (j.alloc (aI (BL g c P1).toArray 142))):=by
  have h:=r.o.add (p:=PB j.heap.size 142 (BL g c P1).toArray) (PB.mk (bF.new j _ _) (λb hb=>Zy hb d.size) (abX _)) d;refine h.reorder (λi=>1 - i) (λi=>1 - i) ?_;intro i p hp;match i,hp with
  |0,hp=>exact⟨hp,rfl⟩
  |1,hp=>exact⟨hp,rfl⟩
  |i+2,hp=>simp[Qe] at hp
 have s:aH (aD q w (j.alloc (aI (BL g c P1).toArray 142))):=l.o.trans (d.mono (by have:=l.o.size;omega));have x:(BL g c P1).toArray=(#[.pointer (some ⟨g,0,none⟩),c,false,false,false,false,false,false,false,false]:Array aC):=rfl;rw[x] at s d;clear hk hb2 n r v k l d;go_wp2_with fail
 go_ret2
 have y:=u.o;rw[x] at y;rw[hq];exact⟨_,g,p0,rfl,⟨P1,a,y,rfl⟩,s.o⟩
end
section
open Go.RowKit Go.Lib Go.Shelf
variable{i j g:Nat}{v:aC}{F G:Nat->Prop}{w:aA}{x:Lb}{y:La}
section
structure Rm where
 l:Option Lb
 g:Nat
 sv:aC
 od:Int
 sn:Int
 cA:Option aJ
 cc:Nat
 C:List Int
 R:List Int
 pc:Int
 ru:Bool
def Jh:List Int:=List.replicate 8 0
def pK:Rm:=⟨none,0, .slice none 0 0,0,0,none,0, [],Jh,0,false⟩
def pZ(l:Option Lb)(g:Nat):aC:= .pointer (l.map λ_=>⟨g,0,none⟩)
def fZ(r:Rm):List aC:= [pZ r.l r.g,r.sv, .int .i64 r.od, .int .i64 r.sn, .slice r.cA r.C.length r.cc]++(r.R.map (Value.int .u64)++ [.int .i64 r.pc, .bool r.ru])
def NB(m:Nat)(c:Int)(rs:List Rm):List aC:= [pA m, .int .i64 c]++rs.flatMap fZ
structure pW(r:Rm):Prop where
 rg:Pa.Cp.EY r.R
 cl:r.C.length<=256
 cr:∀v∈r.C,0<=v/\v<18446744073709551616
def GN(r:Rm)(F:Nat->Prop)(w:aA):Prop:=Ol F w/\∀x,r.l=some x->∃y,bR F w r.g x y
def S1(r:Rm)(F:Nat->Prop)(w:aA):Prop:=Ol F w/\Sl eU 1 w r.cA r.C/\∀q,aY r.cA=some q->(∃cs,bF w q 75 cs)/\¬F q
theorem GN.cD(r:Rm):dN (GN r):=λF G H w w' h k b fl hH=>⟨fl,λx d=>by
 obtain⟨y,a⟩:=h.2 x d;exact⟨y,a.ts,Ob.cD _ F G H w w' a.o k b fl hH⟩⟩
theorem S1.cD(r:Rm):dN (S1 r):=λF G H w w' h k b fl hH=>⟨fl,h.2.1.kp k λq hq=>by
 obtain⟨⟨cs,hb⟩,a⟩:=h.2.2 q hq;exact b q hb.lt a,λq hq=>by
 obtain⟨⟨cs,hb⟩,a⟩:=h.2.2 q hq;exact⟨⟨cs,k.aY hb (b q hb.lt a)⟩,hH q hb.lt a⟩⟩
def jB(r:Rm):Pt:=⟨GN r,GN.cD r⟩
def tP(r:Rm):Pt:=⟨S1 r,S1.cD r⟩
def NL(m g:Nat)(c:Int)(k:Kv):Pt:=⟨λF w=>gF F w m g c k,gF.cD m g c k⟩
def iB(m:Nat)(c:Int)(rs:List Rm):Array aC:=(NB m c rs).toArray
def wT(hb m g:Nat)(c:Int)(k:Kv)(rs:List Rm):List Pt:= [PB hb 139 (iB m c rs),NL m g c k]++(rs.map jB++rs.map tP)
structure bV(F:Nat->Prop)(w:aA)(hb m g:Nat)(c:Int)(k:Kv)(rs:List Rm):Prop where
 o:Ob (wT hb m g c k rs) F w
 l8:rs.length=8
 ok:∀r∈rs,pW r
theorem bV.cD(hb m g:Nat)(c:Int)(k:Kv)(rs:List Rm):dN (λF w=>bV F w hb m g c k rs):=λF G H w w' h x a fl hH=>⟨Ob.cD _ F G H w w' h.o x a fl hH,h.l8,h.ok⟩
theorem pR{r:Rm}(h:pW r):(fZ r).length=15:=by
 have:=h.rg.1;simp[fZ,this]
variable{rs:List Rm}
theorem WG(m:Nat)(c:Int)(h:∀r∈rs,pW r)(hi:i<rs.length)(b:j<15):(iB m c rs)[2+i *15+j]?=(fZ rs[i])[j]?:=by
 have d:∃v,(fZ rs[i])[j]?=some v:=⟨_,Zv (by rw[pR (h _ (aaF hi))];exact b)⟩
 obtain⟨v,a⟩:=d;rw[a];unfold iB NB;rw[aaR,aaJ bT];have e:2+i *15+j - [pA m,Value.int .i64 c].length=i *15+j:=bT;rw[e];clear e;induction rs generalizing i with
 |nil=>simp at hi
 |cons r rs f=>
  have hl:=pR (h r aT);rw[aa0];cases i with
  |zero=>
   simp only[abL] at a;rw[aaV aQ,adO,aa8,a]
  |succ i=>
   rw[aaJ aQ,hl,show(i+1) *15+j - 15=i *15+j by omega];exact f (λr l=>h r (by simp[l])) (by simpa using hi) (by simpa using a)
variable{r':Rm}
theorem Bt(m:Nat)(c:Int)(h:∀r∈rs,pW r)(hi:i<rs.length)(d:j<15)(a:fZ r'=(fZ rs[i]).set j v):(iB m c rs).setIfInBounds (2+i *15+j) v=iB m c (rs.set i r'):=by
 unfold iB NB;rw[Zx,aaQ _ _ bT];have e:2+i *15+j - [pA m,Value.int .i64 c].length=i *15+j:=bT;rw[e];clear e;congr 2
 induction rs generalizing i with
 |nil=>simp at hi
 |cons r rs b=>
  have hl:=pR (h r aT);rw[aa0];cases i with
  |zero=>
   simp only[abL] at a;rw[acA _ _ aQ,adO,aa8,aaE,aa0,a]
  |succ i=>
   rw[aaQ _ _ aQ,hl,show(i+1) *15+j - 15=i *15+j by omega,aaD,aa0];congr 1
   exact b (λr a=>h r (by simp[a])) (by simpa using hi) (by simpa using a)
theorem bR.sub(h:bR F w g x y)(a:∀b,G b->F b):bR G w g x y:=⟨h.ts,Ob.cD _ F (λ_=>True) G w w h.o (Kp.refl _ _) (λ_ _ _=>trivial) (λb hb=>h.fl b (a b hb)) (λr _ d hf=>d (a r hf))⟩
section
variable{F:Nat->Prop}{w w':aA}{hb m g:Nat}{c:Int}{k:Kv}{rs:List Rm}
theorem bV.fl(h:bV F w hb m g c k rs):Ol F w:=h.o.fl
theorem bV.below(h:bV F w hb m g c k rs)(b:aD w w w'):bV F w' hb m g c k rs/\Kp F w w':=⟨⟨h.o.below b,h.l8,h.ok⟩,h.o.QC b⟩
theorem bV.less(h:bV F w hb m g c k rs)(a:∀b,G b->F b):bV G w hb m g c k rs:=⟨Ob.cD _ F (λ_=>True) G w w h.o (Kp.refl _ _) (λ_ _ _=>trivial) (λb hb=>h.fl b (a b hb)) (λr _ d hf=>d (a r hf)),h.l8,h.ok⟩
theorem bV.bk(h:bV F w hb m g c k rs):bF w hb 139 (iB m c rs):=Ob.Qu h.o rfl
theorem bV.fz(h:bV F w hb m g c k rs)(i:Nat):w.frozen? (hb,i)=false:=h.bk.frozen i
theorem bV.c0(h:bV F w hb m g c k rs):w.cell? (hb,0)=some (pA m):=h.bk.cell 0 _ rfl
theorem bV.c1(h:bV F w hb m g c k rs):w.cell? (hb,1)=some (.int .i64 c):=h.bk.cell 1 _ rfl
theorem bV.rc(h:bV F w hb m g c k rs)(hi:i<rs.length)(a:j<15)(b:(fZ rs[i])[j]?=some v):w.cell? (hb,2+i *15+j)=some v:=h.bk.cell _ _ (by rw[WG m c h.ok hi a];exact b)
theorem bV.st(h:bV F w hb m g c k rs):∃G,gF G w m g c k/\(∀(k':Kv) (w':aA),gF G w' m g c k'->Kp G w w'->bV F w' hb m g c k' rs/\Kp F w w'):=by
 obtain⟨G,d,back⟩:=h.o.use 1 _ rfl;exact⟨G,d,λk' w' a b=>⟨⟨(back (NL m g c k') w' a b).1,h.l8,h.ok⟩,(back (NL m g c k') w' a b).2⟩⟩
theorem ES(hb m g:Nat)(c:Int)(k:Kv)(hi:i<rs.length):(wT hb m g c k rs)[2+i]?=some (jB rs[i]):=by
 unfold wT;rw[aaJ aT,aaV bT];simp[hi]
theorem J0(hb m g:Nat)(c:Int)(k:Kv)(hi:i<rs.length):(wT hb m g c k rs)[2+rs.length+i]?=some (tP rs[i]):=by
 unfold wT;rw[aaJ bT,aaJ bT];simp[hi,show 2+rs.length+i - 2 - rs.length=i by omega]
theorem bV.UD(h:bV F w hb m g c k rs)(hi:i<rs.length)(hl:rs[i].l=some x):∃G y,bR G w rs[i].g x y:=by
 obtain⟨b,h1⟩:=h.o;obtain⟨y,a⟩:=(h1.get (2+i) (ES hb m g c k hi):GN rs[i] _ w).2 x hl;exact⟨_,y,a⟩
theorem bV.Yj(h:bV F w hb m g c k rs)(hi:i<rs.length):Sl eU 1 w rs[i].cA rs[i].C/\∀q,aY rs[i].cA=some q->∃cs,bF w q 75 cs:=by
 obtain⟨d,h1⟩:=h.o;obtain⟨e,a,b⟩:=(h1.get (2+rs.length+i) (J0 hb m g c k hi):S1 rs[i] _ w)
 exact⟨a,λq hq=>(b q hq).1⟩
theorem bV.lb(h:bV F w hb m g c k rs)(hi:i<rs.length)(hl:rs[i].l=some x):∃G y,bR G w rs[i].g x y/\(∀(a:Lb) (w':aA),(∃d,bR G w' rs[i].g a d)->Kp G w w'->bV F w' hb m g c k (rs.set i {rs[i] with l:=some a})/\Kp F w w'):=by
 obtain⟨G,t,back⟩:=h.o.use (2+i) (jB rs[i]) (ES hb m g c k hi);obtain⟨y,u⟩:=t.2 x hl;refine⟨G,y,u,λa w' ⟨d,b⟩ kk=>?_⟩;have e:wT hb m g c k (rs.set i {rs[i] with l:=some a})=(wT hb m g c k rs).set (2+i) (jB {rs[i] with l:=some a}):=by
  have A:iB m c (rs.set i {rs[i] with l:=some a})=iB m c rs:=by
   rw[<-Bt m c h.ok hi (j:=0) aQ (v:=pZ rs[i].l rs[i].g) (by rw[hl];rfl)];refine Array.ext aT λn h1 s=>?_
   rw[Array.getElem_setIfInBounds];split
   .rename_i f;subst f;have:=WG m c h.ok hi (j:=0) aQ;rw[abO s] at this;simp only[fZ,List.cons_append,List.getElem?_cons_zero,aeB] at this;exact this.symm
   .rfl
  unfold wT;rw[A,aaQ _ _ aT,ab6,ab6];simp only[aa9,abM,aa8,ad8];rw[acA _ _ (by simpa using hi)];congr 3
  have:tP {rs[i] with l:=some a}=tP rs[i]:=rfl;rw[this];refine ab8 aT λn h1 s=>?_
  rw[abA];split
  .rename_i f;subst f;simp
  .rfl
 obtain⟨b1,b2⟩:=back (jB {rs[i] with l:=some a}) w' ⟨(show bR G w' _ _ _ from b).fl,λz p=>by injection p with p;exact⟨d,p ▸ b⟩⟩ kk;refine⟨⟨by rw[e];exact b1,by simp[h.l8],λr q=>?_⟩,b2⟩;rcases abC q with q|rfl
 .exact h.ok r q
 .have:=h.ok _ (aaF hi);exact⟨this.rg,this.cl,this.cr⟩
theorem bV.put(h:bV F w hb m g c k rs){i:Nat}(hi:i<rs.length){j:Nat}(l:j<15)(v:aC)(a:Rm)(b:fZ a=(fZ rs[i]).set j v)(ok:pW a)(h1:jB a=jB rs[i])(d:tP a=tP rs[i]):bV F (w.setCell (hb,2+i *15+j) v) hb m g c k (rs.set i a)/\Kp F w (w.setCell (hb,2+i *15+j) v):=by
 obtain⟨G,p,back⟩:=h.o.use 0 _ rfl;obtain⟨s1,s2⟩:=oF.set (cs':=iB m c (rs.set i a)) p (2+i *15+j) v (Bt m c h.ok hi l b).symm;obtain⟨b1,b2⟩:=back (PB hb 139 (iB m c (rs.set i a))) _ s1 s2;have e:wT hb m g c k (rs.set i a)=(wT hb m g c k rs).set 0 (PB hb 139 (iB m c (rs.set i a))):=by
  unfold wT;rw[ab6,ab6,h1,d];simp only[List.cons_append,aaE,adF];congr 3
  .refine ab8 aT λn h1 d=>?_
   rw[abA];split
   .rename_i f;subst f;simp
   .rfl
  .refine ab8 aT λn h1 d=>?_
   rw[abA];split
   .rename_i f;subst f;simp
   .rfl
 refine⟨⟨by rw[e];exact b1,by simp[h.l8],λr b=>?_⟩,b2⟩;rcases abC b with b|rfl
 .exact h.ok r b
 .exact ok
end
end
end
section
open Go.RowKit Go.Lib Go.Shelf dF Fr Up Nt
variable{w:aA}{hb m g n:Nat}
section
theorem DY(h:w.cell? (hb,0)=some (.pointer m)):aG prog 10 #[.pointer hb] w λr w'=>r= .returned (.pointer m)/\w=w':=by
 go_enter func10,ntmps10
 go_wp2_with fail
 go_ret
 exact⟨rfl,rfl⟩
theorem mS(h:w.cell? (m,0)=some (.pointer g)):aG prog 11 #[.pointer m] w λr w'=>r= .returned (.pointer g)/\w=w':=by
 go_enter func11,ntmps11
 go_wp2_with fail
 go_ret
 exact⟨rfl,rfl⟩
def VK(hb:Nat)(e:Int):Option aJ:=if 0<=e/\e<4 then some ⟨hb,2+e.toNat *15,none⟩ else none
theorem oP(hb:Nat)(h:n<4):VK hb n=some ⟨hb,2+n *15,none⟩:=Zz aQ
theorem lR(hb:Nat){e:Int}(h:¬(0<=e/\e<4)):VK hb e=none:=aaA h
section
variable{F:Nat->Prop}{w w':aA}{hb m g:Nat}{c:Int}{k:Kv}{rs:List Rm}
theorem bV.kn(h:bV F w hb m g c k rs):∃G a,bQ G w g a k/\w.cell? (m,0)=some (.pointer g)/\(∀(k':Kv) (w':aA),KM G w' g k'->Kp G w w'->bV F w' hb m g c k' rs/\Kp F w w'):=by
 obtain⟨f,⟨b,a,hs⟩,b1⟩:=h.st;obtain⟨d,hk,b2⟩:=hs.kn;refine⟨d,a,hk,hs.c0,λk' w' ⟨a',e⟩ kk=>?_⟩;obtain⟨s1,s2⟩:=b2 a' k' w' e kk;exact b1 k' w' ⟨b,a',s1⟩ s2
theorem bV.sd(h:bV F w hb m g c k rs):∃G gs,lS G w gs k.s/\w.cell? (m,0)=some (.pointer g)/\w.cell? (g,6)=some (.pointer (some ⟨gs,0,none⟩))/\(∀(s':Sd) (w':aA),lS G w' gs s'->Kp G w w'->(bV F w' hb m g c {k with s:=s'} rs/\Kp F w w')/\w'.cell? (m,0)=some (.pointer g)/\w'.cell? (g,6)=some (.pointer (some ⟨gs,0,none⟩))):=by
 obtain⟨j,⟨d,a,b⟩,b1⟩:=h.st;obtain⟨l,hk,b2⟩:=b.kn;obtain⟨e,hs,b3⟩:=hk.sd;refine⟨e,a.gs,hs,b.c0,hk.ps,λs' w' f i=>?_⟩;obtain⟨s1,s2⟩:=b3 s' w' f i;obtain⟨t1,t2⟩:=b2 a _ w' s1 s2;exact⟨b1 _ w' ⟨d,a,t1⟩ t2,t1.c0,s1.ps⟩
theorem oM(h:bV F w hb m g c k rs)(e:Int):aG prog 55 #[.pointer hb,e] w λr w'=>r= .returned (.pointer (VK hb e))/\aD w w w':=by
 obtain⟨G,a,hk,d0,_⟩:=h.kn;have c0:=h.c0;unfold pA at c0;have i:=aP (MU hk);have j:=Below.refl w w;clear h hk;by_cases h1:e<0
 .rw[lR hb aQ];clear c0 d0 i;go_enter func55,ntmps55
  go_wp2_with fail
  go_ret
  exact⟨rfl,j⟩
 .obtain⟨n,rfl⟩:=aaB (by omega:0<=e);by_cases p:n<4
  .rw[oP hb p];have q:(n:Int)<4:=aQ;have s:(n:Int)<8:=aQ;go_enter func55,ntmps55
   go_wp2_with(first|(go_at_call 10;(refine aS (DY c0) ?_);rintro x d ⟨rfl,rfl⟩)|(go_at_call 11;(refine aS (mS d0) ?_);rintro x d ⟨rfl,rfl⟩))
   refine aR i ?_;rintro x d ⟨rfl,b⟩;have l:=CB d;have f:=aP b;clear c0 d0 i b;go_wp2_with fail
   go_ret
   exact⟨rfl,f.o⟩
  .rw[lR hb aQ];have q:(4:Int)<=(n:Int):=aQ;go_enter func55,ntmps55
   go_wp2_with(first|(go_at_call 10;(refine aS (DY c0) ?_);rintro x d ⟨rfl,rfl⟩)|(go_at_call 11;(refine aS (mS d0) ?_);rintro x d ⟨rfl,rfl⟩))
   refine aR i ?_;rintro x d ⟨rfl,b⟩;have l:=CB d;have f:=aP b;clear c0 d0 i b;go_wp2_with fail
   go_ret
   exact⟨rfl,f.o⟩
end
end
end
end Go.Proofs.YtacgiflhgdaeaaaGreat
