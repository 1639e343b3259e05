/- Texts laid as one. -/
import Derived.Test.YtacgiflhgdaeaaaGreatZ2
import Derived.Test.YtacgiflhgdaeaaaGreatZ6
import Derived.Test.YtacgiflhgdaeaaaGreatZ7
set_option linter.unusedVariables false
set_option linter.unusedSimpArgs false
set_option maxRecDepth 100000
set_option maxHeartbeats 20000000
namespace Go.Proofs.YtacgiflhgdaeaaaGreat
open Go.Proofs.Tryz
open Go renaming World->aA,Value->aC,Addr->aJ,TypeId->aN,Calls->aG
open Go.RowKit renaming Below->aD,Hid->aH,intOf->aL
section
structure Sc where
 lk:Int
 fr:Int
 gZ:Int
structure Tk where
 co:Int
 pe:Int
 de:Int
 se:List Sc
 po:Int
structure Jb where
 tk:Int
 nu:Int
 ca:Int
 de:Int
 ra:Int
 dm:Int
 lf:Int
 bg:Bool
 bh:Bool
 rs:Int
 lt:Bool
structure Ev where
 kd:Int
 tk:Int
 jb:Int
 at_:Int
structure Lb where
 ts:List Tk
 od:Int
 rk:List Int
 ce:Nat->Int
 nw:Int
 sh:List iY
 nu:List Int
 wt:List Int
 jb:List Jb
 lg:List Ev
def Wy:Jb:=⟨0,0,0,0,0,0,0,false,false,0,false⟩
def nO:Tk:=⟨0,0,0, [],0⟩
def Zc:iY:=⟨1,0,false,0,0⟩
def BQ(t:Tk)(lock bY:Int):Bool:=t.se.any λs=>decide (s.lk=lock/\s.fr<=bY/\bY<s.gZ)
def gT(x:Lb)(i:Int):Tk:=x.ts.getD i.toNat nO
def zJ(x:Lb)(i:Int):Int:=x.rk.getD i.toNat 0
def jA(x:Lb)(i:Int):iY:=x.sh.getD i.toNat Zc
def dN(x:Lb)(i:Nat):Jb:=x.jb.getD i Wy
def BP(x:Lb)(j:Jb)(lock:Int):Bool:=j.bg&&decide (j.rs=0)&&BQ (gT x j.tk) lock j.ra
def L5(x:Lb)(MS:Int)(j:Jb)(lock:Nat):Bool:=!(decide (x.ce lock<=MS)&&BP x j lock)
def FX(x:Lb)(place:Nat)(i:Nat):Bool:=decide (i=place) || (List.range 8).all (L5 x (zJ x (dN x place).tk) (dN x i))
def JN(x:Lb)(place:Nat):Bool:=(List.range x.jb.length).all (FX x place)
def pU(x:Lb)(a b:Jb):Bool:=
 if a.bh !=b.bh then b.bh
 else if x.od=1/\zJ x a.tk≠zJ x b.tk then decide (zJ x a.tk<zJ x b.tk)
 else if a.de≠b.de then decide (a.de<b.de)
 else if a.tk≠b.tk then decide (a.tk<b.tk)
 else decide (a.nu<b.nu)
def zE(x:Lb)(o:Option Nat)(i:Nat):Bool:=match o with
 |none=>true
 |some f=>pU x (dN x i) (dN x f)
def fP(x:Lb):Nat->Option Nat×Option Nat
 |0=>(none,none)
 |k+1=>if x.nw<(dN x k).ca then fP x k else
  (if zE x (fP x k).1 k then some k else(fP x k).1,if(dN x k).bg&&zE x (fP x k).2 k then some k else(fP x k).2)
def nF(x:Lb):Option Nat:=match(fP x x.jb.length).1 with
 |none=>none
 |some f=>if(dN x f).bg || JN x f then some f else(fP x x.jb.length).2
def iK(x:Lb)(kd:Int)(j:Jb):Lb:={x with lg:=x.lg++ [⟨kd,j.tk,j.nu,x.nw⟩]}
def rU(x:Lb)(task demand:Int):Jb:=⟨task,x.nu.getD task.toNat 0+1,x.nw,x.nw+(gT x task).de,0,demand,(gT x task).co,false,false,0,false⟩
def sV(x:Lb)(task demand:Int):Lb:=iK {x with nu:=x.nu.set task.toNat (x.nu.getD task.toNat 0+1),jb:=x.jb++ [rU x task demand]} 1 (rU x task demand)
def dX(x:Lb)(i:Int)(s:iY):Lb:={x with sh:=x.sh.set i.toNat s}
def cC(x:Lb)(i:Nat)(j:Jb):Lb:={x with jb:=x.jb.set i j}
def EF(x:Lb)(task:Int):iY×Bool×Int:=rR (jA x task) x.nw
def oN(x:Lb)(task demand:Int):Int×Lb:=
 if task<0\/x.ts.length<=task\/demand<1\/1048576<demand then(1,x) else
 if(EF x task).2.2≠0 then((EF x task).2.2,dX x task (EF x task).1) else
 if(EF x task).2.1 then(0,sV (dX x task (EF x task).1) task demand) else
 (0,{dX x task (EF x task).1 with wt:=x.wt.set task.toNat demand})
def xK(x:Lb)(kd:Int)(i:Nat):Lb:={iK x kd (dN x i) with jb:=x.jb.eraseIdx i}
def gH(j:Jb):Jb:={j with bg:=true,ra:=j.ra+1,lf:=if j.bh then j.lf else j.lf - 1}
def tR(x:Lb)(i:Nat):Lb:=
 let j:=gH (dN x i)
 let y:=cC x i j
 if j.ra=j.dm then xK y 2 i else
 if 0<j.lf then y else
 if(gT x j.tk).po=0 then xK y 3 i else
 if(gT x j.tk).po=1 then
  (if j.bh then y else let k:Jb:={j with bh:=true,rs:=j.rs+1};iK (cC y i k) 4 k)
 else
  let p:=jD (jA x j.tk) x.nw
  let k:Jb:={j with ca:=p.2,de:=p.2+(gT x j.tk).de,lf:=(gT x j.tk).co,rs:=j.rs+1,bg:=false,lt:=false}
  iK (cC (dX y j.tk p.1) i k) 5 k
def GK(x:Lb)(i:Nat):Lb:=
 let j:=dN x i
 if j.bh=false/\j.lt=false/\j.de<=x.nw then iK (cC x i {j with lt:=true}) 6 {j with lt:=true} else x
def eX(x:Lb):Nat->Lb
 |0=>x
 |k+1=>GK (eX x k) k
def MU(x:Lb)(i:Nat):Lb:=if(l6 (jA x i) x.nw).2 then sV (dX x i (l6 (jA x i) x.nw).1) i (x.wt.getD i 0) else x
def eQ(x:Lb):Nat->Lb
 |0=>x
 |k+1=>MU (eQ x k) k
def oM(x:Lb)(given:Bool):Option Nat:=if given then nF x else none
def sM(x:Lb)(given:Bool):Lb:=match oM x given with
 |none=>{x with nw:=x.nw+1}
 |some i=>tR {x with nw:=x.nw+1} i
def jF(x:Lb)(given:Bool):Lb:=eQ (eX (sM x given) (sM x given).jb.length) x.ts.length
end
section
open Go.RowKit Go.Lib Go.Shelf
def qP(s:Sc):List aC:= [.int .i64 s.lk, .int .i64 s.fr, .int .i64 s.gZ]
theorem R1:eY qP 3:=⟨λ_=>rfl,λx u hu=>by simp[qP] at hu;rcases hu with rfl|rfl|rfl <;> rfl⟩
structure Tm where
 t:Tk
 A:Option aJ
 c:Nat
def sI(x:Tm):List aC:= [.int .i64 x.t.co, .int .i64 x.t.pe, .int .i64 x.t.de, .slice x.A x.t.se.length x.c, .int .i64 x.t.po]
theorem oI:eY sI 5:=⟨λ_=>rfl,λx u hu=>by simp[sI] at hu;rcases hu with rfl|rfl|rfl|rfl|rfl <;> rfl⟩
def jI(j:Jb):List aC:= [.int .i64 j.tk, .int .i64 j.nu, .int .i64 j.ca, .int .i64 j.de, .int .i64 j.ra, .int .i64 j.dm, .int .i64 j.lf, .bool j.bg, .bool j.bh, .int .i64 j.rs, .bool j.lt]
theorem jR:eY jI 11:=⟨λ_=>rfl,λx u hu=>by simp[jI] at hu;rcases hu with rfl|rfl|rfl|rfl|rfl|rfl|rfl|rfl|rfl|rfl|rfl <;> rfl⟩
def rD(x:Ev):List aC:= [.int .i64 x.kd, .int .i64 x.tk, .int .i64 x.jb, .int .i64 x.at_]
theorem wU:eY rD 4:=⟨λ_=>rfl,λx u hu=>by simp[rD] at hu;rcases hu with rfl|rfl|rfl|rfl <;> rfl⟩
def xS(a:Nat):List aC:= [.pointer a]
theorem D3:eY xS 1:=⟨λ_=>rfl,λx u hu=>by simp[xS] at hu;subst hu;rfl⟩
structure ND(F:Nat->Prop)(w:aA)(A:Option aJ)(c:Nat)(L:List Tm):Prop where
 o:bB sI 5 w 0 125 A c L
 sl:∀x∈L,Sl qP 3 w x.A x.t.se
 fl:Ol F w
 fA:∀q,aZ A=some q->¬F q
 fS:∀x∈L,∀q,aZ x.A=some q->q<w.heap.size/\¬F q
 cp:∀x∈L,x.t.se.length<=x.c
def NC(A:Option aJ)(c:Nat)(L:List Tm):Pt:=⟨λF w=>ND F w A c L,λ_ _ _ _ _ h k hG fl hH=>⟨h.o.kp k (λq hq=>hG q (h.o.lt q hq).2 (h.fA q hq)),λx hx=>(h.sl x hx).kp k (λq hq=>hG q (h.fS x hx q hq).1 (h.fS x hx q hq).2),fl,λq hq=>hH q (h.o.lt q hq).2 (h.fA q hq),λx hx q hq=>⟨aaJ (h.fS x hx q hq).1 k.size,hH q (h.fS x hx q hq).1 (h.fS x hx q hq).2⟩,h.cp⟩⟩
structure EI(F:Nat->Prop)(w:aA)(a:List Nat)(l:List iY):Prop where
 len:a.length=l.length
 nd:a.Nodup
 sh:∀(i:Nat) (h:i<a.length) (h':i<l.length),Sh w a[i] l[i]
 fl:Ol F w
 fa:∀q∈a,q<w.heap.size/\¬F q
def OB(a:List Nat)(l:List iY):Pt:=⟨λF w=>EI F w a l,λ_ _ _ _ _ h k hG fl hH=>⟨h.len,h.nd,λi hi hi'=>k.aZ (h.sh i hi hi') (hG _ (h.fa _ (aaM hi)).1 (h.fa _ (aaM hi)).2),fl,λq hq=>⟨aaJ (h.fa q hq).1 k.size,hH q (h.fa q hq).1 (h.fa q hq).2⟩⟩⟩
section
variable{F:Nat->Prop}{w w':aA}{a:List Nat}{l:List iY}{i:Nat}
theorem EI.eV(h:EI F w a l)(hi:i<a.length)(f:i<l.length){s:iY}(hs:Sh w' a[i] s)(d:w.grownBy w' (some a[i])):EI F w' a (l.set i s)/\Kp F w w':=by
 have hm:=h.fa _ (aaM hi);have k:=h.fl.self hm.2 d;refine⟨⟨by rw[aaV];exact h.len,h.nd,λj g b=>?_,h.fl.kp k,λq hq=>⟨aaJ (h.fa q hq).1 k.size,(h.fa q hq).2⟩⟩,k⟩;rw[abF];rw[aaV] at b;split
 .rename_i e;subst e;exact hs
 .rename_i e;exact bC.grown (h.sh j g b) d (λc=>e (by
   injection c with c;exact((List.getElem_inj h.nd).1 c.symm)))
end
structure La where
 T:Option aJ
 cT:Nat
 L:List Tm
 K:Option aJ
 cK:Nat
 S:Option aJ
 cS:Nat
 a:List Nat
 U:Option aJ
 cU:Nat
 V:Option aJ
 cV:Nat
 J:Option aJ
 cJ:Nat
 G:Option aJ
 cG:Nat
def fL(x:Lb)(y:La):Array aC:=#[(y.T,y.L.length,y.cT),x.od,(y.K,x.rk.length,y.cK), .int .i64 (x.ce 0), .int .i64 (x.ce 1), .int .i64 (x.ce 2), .int .i64 (x.ce 3), .int .i64 (x.ce 4), .int .i64 (x.ce 5), .int .i64 (x.ce 6), .int .i64 (x.ce 7),x.nw,(y.S,y.a.length,y.cS),(y.U,x.nu.length,y.cU),(y.V,x.wt.length,y.cV),(y.J,x.jb.length,y.cJ),(y.G,x.lg.length,y.cG)]
def iM(g:Nat)(x:Lb)(y:La):List Pt:= [PB g 193 (fL x y),NC y.T y.cT y.L,PR eI 1 3 y.K y.cK x.rk,PR xS 1 194 y.S y.cS y.a,OB y.a x.sh,PR eI 1 3 y.U y.cU x.nu,PR eI 1 3 y.V y.cV x.wt,PR jI 11 209 y.J y.cJ x.jb,PR rD 4 165 y.G y.cG x.lg]
variable{F G:Nat->Prop}{w w':aA}{sz i m:Nat}{A:Option aJ}
section
theorem Ob.use{l:List Pt}(h:Ob l F w)(i:Nat)(p:Pt)(hp:l[i]?=some p):∃G,p.X G w/\(∀(a:Pt) (w':aA),a.X G w'->Kp G w w'->Ob (l.set i a) F w'/\Kp F w w'):=by
 obtain⟨c,h⟩:=h;exact⟨_,h.get i hp,λa w' b k=>⟨⟨_,(h.eV i a b k).1⟩,(h.eV i a b k).2⟩⟩
theorem Ob.NH{l:List Pt}(h:Ob l F w)(a:aD w w w'):Kp F w w':=h.fl.below a
theorem Ob.Qz{l:List Pt}{α:Type}{enc:α->List aC}{e:aN}{c:Nat}{xs:List α}(h:Ob l F w)(i:Nat)(hp:l[i]?=some (PR enc sz e A c xs)):Ob (l.set i (PR enc sz e Option.none 0 ([]:List α))) (λb=>F b\/aZ A=some b) w:=by
 obtain⟨d,hF,s⟩:=h;have t:fT enc sz e A c xs (Fo w d (i+1)) w:=s i _ hp;have hq:∀q,aZ A=some q->q<w.heap.size/\d q=i+1:=λq hq=>by
  have h1:=(t.o.lt q hq).2;exact⟨h1,aa4 λhc=>t.nf q hq ⟨h1,hc⟩⟩
 refine⟨λb=>if aZ A=some b then 0 else d b,λb a=>?_,λm p hm=>?_⟩
 .rcases a with a|a
  .refine⟨(hF b a).1,?_⟩;simp only;split
   .rfl
   .exact(hF b a).2
  .exact⟨(hq b a).1,aaK a⟩
 .rw[adA] at hm;split at hm
  .split at hm
   .injection hm with hm;subst hm;exact fT.nil (Fo.ol _ _ _)
   .cases hm
  .rename_i f;refine p.bX _ (λ_=>True) _ w w (s m p hm) (Kp.refl _ _) (λ_ _ _=>trivial) (Fo.ol _ _ _) (λr j u v=>?_);have h1:d r=m+1:=aa4 λhc=>u ⟨j,hc⟩
   have k:=v.2;simp only at k;split at k
   .rename_i x;have:=(hq r x).2;exact f aQ
   .exact k h1
structure Du where
 at_:Int
 hd:Int
 wh:Int
instance:Inhabited Du:=⟨⟨0,0,0⟩⟩
def vJ(x:Du):List aC:= [.int .i64 x.at_, .int .i64 x.hd, .int .i64 x.wh]
theorem rZ:eY vJ 3:=⟨λ_=>rfl,λx u hu=>by simp[vJ] at hu;rcases hu with rfl|rfl|rfl <;> rfl⟩
def zP(x:Du):aC:= .agg #[x.at_,x.hd,x.wh]
structure Hr where
 A:Option aJ
 c:Nat
 xs:List Int
structure Wa where
 nw:Int
 hs:Int
 M:Nat
 f:Int->Option Du
 R:List Hr
def Md(M:Nat)(f:Int->Option Du)(F:Nat->Prop)(w:aA):Prop:=gV zP w M f/\Ol F w/\¬F M
theorem Md.bX(M:Nat)(f:Int->Option Du):dV (Md M f):=λ_ _ _ _ _ ⟨h,_,a⟩ k b fl hH=>⟨h.same (k.block M (b M h.lt a)),fl,hH M h.lt a⟩
def Me(M:Nat)(f:Int->Option Du):Pt:=⟨Md M f,Md.bX M f⟩
def sF(r:Hr):aC:= .slice r.A r.xs.length r.c
def vO(y:Wa):List aC:= [.bool true, .int .i64 y.nw, .int .i64 y.hs, .map (some y.M)]++y.R.map sF
def Q0(r:Hr):Pt:=PR eI 1 3 r.A r.c r.xs
def RX(g:Nat)(y:Wa):List Pt:= [PB g 339 (vO y).toArray,Me y.M y.f]++y.R.map Q0
def gQ(R:List Hr):Nat:=(R.map λr=>r.xs.length).sum
structure Wr(y:Wa)(n:Nat):Prop where
 nw:0<=y.nw/\y.nw<=1048576
 hs:0<=y.hs/\y.hs<=n
 len:y.R.length=256
 sum:gQ y.R<=n
 ok:∀x d,y.f x=some d->(0<=d.wh/\d.wh<4)/\0<=d.at_/\d.at_<=2097152
structure dJ(F:Nat->Prop)(w:aA)(g n:Nat)(y:Wa):Prop where
 o:Ob (RX g y) F w
 i:Wr y n
def B7(F:Nat->Prop)(w:aA)(g n:Nat):Prop:=∃y,dJ F w g n y
theorem B7.bX(g n:Nat):dV (λF w=>B7 F w g n):=λF G H w w' ⟨y,h⟩ k a fl hH=>⟨y,Ob.bX _ F G H w w' h.o k a fl hH,h.i⟩
theorem CD{R:List Hr}(hi:i<R.length)(r:Hr):gQ (R.set i r)+R[i].xs.length=gQ R+r.xs.length:=by
 unfold gQ;induction R generalizing i with
 |nil=>simp at hi
 |cons x R a=>
  cases i with
  |zero=>simp;omega
  |succ i=>
   simp only[aaN,adL,adM,ac4];have:=a (i:=i) (by simpa using hi);omega
theorem yM{R:List Hr}(hi:i<R.length):R[i].xs.length<=gQ R:=by
 have:=CD hi ⟨none,0, []⟩;simp at this;omega
section
variable{F:Nat->Prop}{w w':aA}{g n:Nat}{y:Wa}
theorem dJ.below(h:dJ F w g n y)(a:aD w w w'):dJ F w' g n y/\Kp F w w':=⟨⟨h.o.below a,h.i⟩,h.o.fl.below a⟩
theorem dJ.fl(h:dJ F w g n y):Ol F w:=h.o.fl
theorem dJ.bk(h:dJ F w g n y):bC w g 339 (vO y).toArray:=by
 obtain⟨a,h1⟩:=h.o;exact(h1.get 0 (p:=PB g 339 (vO y).toArray) rfl).b
theorem dJ.mp(h:dJ F w g n y):gV zP w y.M y.f:=by
 obtain⟨a,h1⟩:=h.o;exact(h1.get 1 (p:=Me y.M y.f) rfl).1
theorem GD(hi:i<y.R.length):(RX g y)[2+i]?=some (Q0 y.R[i]):=by
 rw[RX,aaS aT];simp[hi]
theorem dJ.row(h:dJ F w g n y)(hi:i<y.R.length):bB eI 1 w 0 3 y.R[i].A y.R[i].c y.R[i].xs:=by
 obtain⟨a,h1⟩:=h.o;exact(h1.get (2+i) (GD hi)).o
theorem dJ.c0(h:dJ F w g n y):w.cell? (g,0)=some (.bool true):=h.bk.cell 0 _ rfl
theorem dJ.c1(h:dJ F w g n y):w.cell? (g,1)=some (.int .i64 y.nw):=h.bk.cell 1 _ rfl
theorem dJ.c2(h:dJ F w g n y):w.cell? (g,2)=some (.int .i64 y.hs):=h.bk.cell 2 _ rfl
theorem dJ.c3(h:dJ F w g n y):w.cell? (g,3)=some (.map (some y.M)):=h.bk.cell 3 _ rfl
theorem dJ.cr(h:dJ F w g n y)(hi:i<y.R.length):w.cell? (g,4+i)=some (sF y.R[i]):=by
 refine h.bk.cell (4+i) _ ?_;rw[aaY,vO,aaS aT];simp[hi]
theorem dJ.fz(h:dJ F w g n y)(i:Nat):w.frozen? (g,i)=false:=h.bk.frozen i
theorem dJ.PD(h:dJ F w g n y){v:Int}(b:0<=v/\v<=1048576):dJ F (w.setCell (g,1) v) g n {y with nw:=v}/\Kp F w (w.setCell (g,1) v):=by
 obtain⟨G,a,back⟩:=Ob.use h.o 0 _ rfl;obtain⟨b1,b2⟩:=back (PB g 339 (vO {y with nw:=v}).toArray) _ (a.set 1 (.int .i64 v) rfl).1 (a.set 1 (.int .i64 v) rfl).2;exact⟨⟨b1,⟨b,h.i.hs,h.i.len,h.i.sum,h.i.ok⟩⟩,b2⟩
theorem dJ.Wb(h:dJ F w g n y){v:Int}(b:n<=m)(c:0<=v/\v<=m):dJ F (w.setCell (g,2) v) g m {y with hs:=v}/\Kp F w (w.setCell (g,2) v):=by
 obtain⟨G,a,back⟩:=Ob.use h.o 0 _ rfl;obtain⟨b1,b2⟩:=back (PB g 339 (vO {y with hs:=v}).toArray) _ (a.set 2 (.int .i64 v) rfl).1 (a.set 2 (.int .i64 v) rfl).2;exact⟨⟨b1,⟨h.i.nw,c,h.i.len,aaR h.i.sum b,h.i.ok⟩⟩,b2⟩
theorem dJ.YM(h:dJ F w g n y){f:Int->Option Du}(hm:gV zP w' y.M f)(c:w.grownBy w' (some y.M))(e:∀x d,f x=some d->(0<=d.wh/\d.wh<4)/\0<=d.at_/\d.at_<=2097152):dJ F w' g n {y with f:=f}/\Kp F w w':=by
 obtain⟨G,j,back⟩:=Ob.use h.o 1 _ rfl;obtain⟨k,a,b⟩:=j;obtain⟨b1,b2⟩:=back (Me y.M f) w' ⟨hm,a.kp (a.self b c),b⟩ (a.self b c);exact⟨⟨b1,⟨h.i.nw,h.i.hs,h.i.len,h.i.sum,e⟩⟩,b2⟩
theorem M2(r:Hr):(RX g y).set (2+i) (Q0 r)= [PB g 339 (vO y).toArray,Me y.M y.f]++(y.R.set i r).map Q0:=by
 rw[RX,aa6 _ _ aT,ab1];simp
theorem dJ.setRow(h:dJ F w g n y)(hi:i<y.R.length){c:Nat}{xs:List Int}(ho:bB eI 1 w' 0 3 A c xs)(e:w.grownBy w' (aZ y.R[i].A))(f:aZ A=aZ y.R[i].A\/aZ A=some w.heap.size)(hm:n<=m)(hs:gQ (y.R.set i ⟨A,c,xs⟩)<=m):
 dJ F (w'.setCell (g,4+i) (.slice A xs.length c)) g m {y with R:=y.R.set i ⟨A,c,xs⟩}/\Kp F w (w'.setCell (g,4+i) (.slice A xs.length c)):=by
 obtain⟨G,j,back⟩:=Ob.use h.o (2+i) _ (GD hi);have b:fT eI 1 3 y.R[i].A y.R[i].c y.R[i].xs G w:=j;obtain⟨t1,t2⟩:=b.eV ho e f;obtain⟨b1,b2⟩:=back (Q0 ⟨A,c,xs⟩) w' t1 t2;rw[M2] at b1;obtain⟨k,d,a⟩:=Ob.use b1 0 _ rfl;obtain⟨s1,s2⟩:=mI.set (cs':=(vO {y with R:=y.R.set i ⟨A,c,xs⟩}).toArray) d (4+i) (.slice A xs.length c) (by
  rw[aaI];congr 1
  unfold vO;rw[aa6 _ _ aT,ab1];simp[sF])
 obtain⟨d1,d2⟩:=a (PB g 339 (vO {y with R:=y.R.set i ⟨A,c,xs⟩}).toArray) _ s1 s2;exact⟨⟨d1,⟨h.i.nw,⟨h.i.hs.1,by have:=h.i.hs.2;show y.hs<=_;omega⟩,by rw[aaV];exact h.i.len,hs,h.i.ok⟩⟩,b2.trans d2⟩
theorem dJ.take(h:dJ F w g n y)(hi:i<y.R.length):dJ (λb=>F b\/aZ y.R[i].A=some b) (w.setCell (g,4+i) (.slice none 0 0)) g n {y with R:=y.R.set i ⟨none,0, []⟩}/\Kp (λb=>F b\/aZ y.R[i].A=some b) w (w.setCell (g,4+i) (.slice none 0 0))/\gQ (y.R.set i ⟨none,0, []⟩)+y.R[i].xs.length=gQ y.R:=by
 have b1:=Ob.Qz h.o (2+i) (GD hi);have b2:Ob ((RX g y).set (2+i) (Q0 ⟨none,0, []⟩)) (λb=>F b\/aZ y.R[i].A=some b) w:=b1;rw[M2] at b2;obtain⟨d,c,a⟩:=Ob.use b2 0 _ rfl;obtain⟨s1,s2⟩:=mI.set (cs':=(vO {y with R:=y.R.set i ⟨none,0, []⟩}).toArray) c (4+i) (.slice none 0 0) (by
  rw[aaI];congr 1
  unfold vO;rw[aa6 _ _ aT,ab1];simp[sF])
 obtain⟨d1,d2⟩:=a (PB g 339 (vO {y with R:=y.R.set i ⟨none,0, []⟩}).toArray) _ s1 s2;have:=CD hi ⟨none,0, []⟩;exact⟨⟨d1,⟨h.i.nw,h.i.hs,by rw[aaV];exact h.i.len,by have:=h.i.sum;simp at *;omega,h.i.ok⟩⟩,d2,by simpa using this⟩
theorem dJ.less(h:dJ F w g n y)(a:∀b,G b->F b):dJ G w g n y:=by
 exact⟨Ob.bX _ F (λ_=>True) G w w h.o (Kp.refl _ _) (λ_ _ _=>trivial) (λb c=>h.o.fl b (a b c)) (λr _ d e=>d (a r e)),h.i⟩
end
end
variable{q:Nat}
section
structure Ch(x:Lb)(n:Nat)(j:Jb):Prop where
 t0:0<=j.tk
 t1:j.tk<x.ts.length
 r0:0<=j.ra
 r1:j.ra<=x.nw
 l0: -x.nw<=j.lf
 l1:j.lf<=1048576
 c0:0<=j.ca
 c1:j.ca<=1048576 *(2+(n:Int))
 d0:0<=j.de
 d1:j.de<=1048576 *(3+(n:Int))
 s0:0<=j.rs
 s1:j.rs<=n
structure Xf(t:Tk):Prop where
 c0:1<=t.co
 c1:t.co<=1048576
 p0:1<=t.pe
 p1:t.pe<=1048576
 d0:1<=t.de
 d1:t.de<=1048576
 sl:t.se.length<=8
 o0:0<=t.po
 o1:t.po<=2
structure IV(x:Lb)(n m:Nat):Prop where
 lr:x.rk.length=x.ts.length
 ls:x.sh.length=x.ts.length
 lu:x.nu.length=x.ts.length
 lw:x.wt.length=x.ts.length
 tl:x.ts.length<=8
 tk:∀t∈x.ts,Xf t
 n0:0<=x.nw
 n1:x.nw<=1048576
 sh:∀s∈x.sh,lT s n
 nu:∀v∈x.nu,0<=v/\v<=n
 jl:x.jb.length<=n
 jo:∀j∈x.jb,Ch x n j
 gl:x.lg.length<=m
structure bP(F:Nat->Prop)(w:aA)(g:Nat)(x:Lb)(y:La):Prop where
 ts:y.L.map Tm.t=x.ts
 o:Ob (iM g x y) F w
structure wB(w:aA)(q o:Nat)(j:Jb):Prop where
 c0:w.cell? (q,o)=some (.int .i64 j.tk)
 c1:w.cell? (q,o+1)=some (.int .i64 j.nu)
 c2:w.cell? (q,o+2)=some (.int .i64 j.ca)
 c3:w.cell? (q,o+3)=some (.int .i64 j.de)
 c4:w.cell? (q,o+4)=some (.int .i64 j.ra)
 c5:w.cell? (q,o+5)=some (.int .i64 j.dm)
 c6:w.cell? (q,o+6)=some (.int .i64 j.lf)
 c7:w.cell? (q,o+7)=some (.bool j.bg)
 c8:w.cell? (q,o+8)=some (.bool j.bh)
 c9:w.cell? (q,o+9)=some (.int .i64 j.rs)
 vD:w.cell? (q,o+10)=some (.bool j.lt)
theorem wB.keep{o:Nat}{j:Jb}(h:wB w q o j)(a:aD w w w'):wB w' q o j:=
 ⟨bD a h.c0,bD a h.c1,bD a h.c2,bD a h.c3,bD a h.c4,bD a h.c5,bD a h.c6,bD a h.c7,bD a h.c8,bD a h.c9,bD a h.vD⟩
theorem wC{α:Type}{enc:α->List aC}{base:Nat}{e:aN}{c:Nat}{xs:List α}(h:bB enc sz w base e A c xs)(a:0<xs.length):∃q,A=some ⟨q,0,none⟩:=by
 rcases h.shape with⟨_,b,_⟩|h
 .rw[b] at a;simp at a
 .exact h
section
variable{F:Nat->Prop}{w w':aA}{g:Nat}{x:Lb}{y:La}{n:Nat}
theorem bP.fl(h:bP F w g x y):Ol F w:=h.o.fl
theorem bP.below(h:bP F w g x y)(a:aD w w w'):bP F w' g x y:=⟨h.ts,h.o.below a⟩
theorem bP.bk(h:bP F w g x y):bC w g 193 (fL x y):=by
 obtain⟨a,h1⟩:=h.o;exact(h1.get 0 (p:=PB g 193 (fL x y)) rfl).b
theorem bP.len(h:bP F w g x y):y.L.length=x.ts.length:=by rw[<-h.ts,abT]
theorem bP.task(h:bP F w g x y)(d:n<x.ts.length):∃q A c,y.T=some ⟨q,0,none⟩/\w.cell? ⟨q,n *5,none⟩=some (.int .i64 (gT x n).co)/\w.cell? ⟨q,n *5+1,none⟩=some (.int .i64 (gT x n).pe)/\w.cell? ⟨q,n *5+2,none⟩=some (.int .i64 (gT x n).de)/\w.cell? ⟨q,n *5+3,none⟩=some (.slice A (gT x n).se.length c)/\w.cell? ⟨q,n *5+4,none⟩=some (.int .i64 (gT x n).po)/\Sl qP 3 w A (gT x n).se:=by
 obtain⟨f,h1⟩:=h.o;have b:ND (Fo w f 2) w y.T y.cT y.L:=h1.get 1 (p:=NC y.T y.cT y.L) rfl;have a:n<y.L.length:=by rw[h.len];exact d
 obtain⟨q,hq⟩:=wC b.o aQ;have ho:=b.o;rw[hq] at ho;have e:gT x (n:Int)=y.L[n].t:=by
  unfold gT;rw[aaW,aaU,<-h.ts,ab7,aaG a];rfl
 rw[e];refine⟨q,y.L[n].A,y.L[n].c,hq,?_,?_,?_,?_,?_,b.sl _ (aaM a)⟩
 .simpa using bG oI ho a (j:=0) rfl
 .exact bG oI ho a (j:=1) rfl
 .exact bG oI ho a (j:=2) rfl
 .exact bG oI ho a (j:=3) rfl
 .exact bG oI ho a (j:=4) rfl
theorem MH{base:Nat}{e:aN}{c:Nat}{xs:List Int}(h:bB eI 1 w base e A c xs)(a:n<xs.length):∃q,A=some ⟨q,0,none⟩/\w.cell? ⟨q,n,none⟩=some (.int .i64 (xs.getD n 0)):=by
 obtain⟨q,hq⟩:=wC h aQ;subst hq;refine⟨q,rfl,?_⟩;have:=bG fX h a (j:=0) (v:= .int .i64 xs[n]) rfl;rw[aaU,aaG a];simpa using this
theorem bP.MS(h:bP F w g x y)(a:n<x.rk.length):∃q,y.K=some ⟨q,0,none⟩/\w.cell? ⟨q,n,none⟩=some (.int .i64 (zJ x n)):=by
 obtain⟨b,h1⟩:=h.o;have c:fT eI 1 3 y.K y.cK x.rk (Fo w b 3) w:=h1.get 2 (p:=PR eI 1 3 y.K y.cK x.rk) rfl;exact MH c.o a
theorem bP.num(h:bP F w g x y)(a:n<x.nu.length):∃q,y.U=some ⟨q,0,none⟩/\w.cell? ⟨q,n,none⟩=some (.int .i64 (x.nu.getD n 0)):=by
 obtain⟨b,h1⟩:=h.o;have c:fT eI 1 3 y.U y.cU x.nu (Fo w b 6) w:=h1.get 5 (p:=PR eI 1 3 y.U y.cU x.nu) rfl;exact MH c.o a
theorem bP.wait(h:bP F w g x y)(a:n<x.wt.length):∃q,y.V=some ⟨q,0,none⟩/\w.cell? ⟨q,n,none⟩=some (.int .i64 (x.wt.getD n 0)):=by
 obtain⟨b,h1⟩:=h.o;have c:fT eI 1 3 y.V y.cV x.wt (Fo w b 7) w:=h1.get 6 (p:=PR eI 1 3 y.V y.cV x.wt) rfl;exact MH c.o a
theorem Ti{base:Nat}{e:aN}{c:Nat}{xs:List Jb}(h:bB jI 11 w base e q c xs)(a:n<xs.length):wB w q (n *11) (xs.getD n Wy):=by
 rw[aaU,aaG a];have b:=bG jR h a (j:=0) rfl;rw[aa3] at b;exact⟨b,bG jR h a (j:=1) rfl,bG jR h a (j:=2) rfl,bG jR h a (j:=3) rfl,bG jR h a (j:=4) rfl,bG jR h a (j:=5) rfl,bG jR h a (j:=6) rfl,bG jR h a (j:=7) rfl,bG jR h a (j:=8) rfl,bG jR h a (j:=9) rfl,bG jR h a (j:=10) rfl⟩
theorem bP.l9(h:bP F w g x y)(b:n<x.jb.length):∃q,y.J=some ⟨q,0,none⟩/\wB w q (n *11) (dN x n):=by
 obtain⟨c,h1⟩:=h.o;have a:fT jI 11 209 y.J y.cJ x.jb (Fo w c 8) w:=h1.get 7 (p:=PR jI 11 209 y.J y.cJ x.jb) rfl;obtain⟨q,hq⟩:=wC a.o aQ;have ho:=a.o;rw[hq] at ho;exact⟨q,hq,Ti ho b⟩
theorem IV.l9(h:IV x n m)(hi:i<x.jb.length):Ch x n (dN x i):=by
 unfold dN;rw[aaU,aaG hi];exact h.jo _ (aaM hi)
end
theorem Sl.LB{xs:List Sc}(h:Sl qP 3 w A xs)(hi:i<xs.length):
 ∃b off,A=some ⟨b,off,none⟩/\w.cell? ⟨b,off+i *3,none⟩=some (.int .i64 xs[i].lk)/\w.cell? ⟨b,off+i *3+1,none⟩=some (.int .i64 xs[i].fr)/\w.cell? ⟨b,off+i *3+2,none⟩=some (.int .i64 xs[i].gZ):=by
 obtain⟨b,off,a,hc⟩:=h.at_ hi;exact⟨b,off,a,by simpa using hc 0 _ (show(qP xs[i])[0]?=some (.int .i64 xs[i].lk) from rfl),by simpa[abV] using hc 1 _ (show(qP xs[i])[1]?=some (.int .i64 xs[i].fr) from rfl),by simpa[abV] using hc 2 _ (show(qP xs[i])[2]?=some (.int .i64 xs[i].gZ) from rfl)⟩
def D4(lock bY:Int)(s:Sc):Bool:=decide (s.lk=lock/\s.fr<=bY/\bY<s.gZ)
theorem YJ(t:Tk)(A:Option aJ)(c:Nat)(hs:Sl qP 3 w A t.se)(D:t.se.length<=8)(lock bY:Int):aG prog 182 #[.agg #[t.co,t.pe,t.de,(A,t.se.length,c),t.po],lock,bY] w λr w'=>r= .returned (.bool (BQ t lock bY))/\aD w w w':=by
 have e:=aX w (Obj.cells #[t.co,t.pe,t.de,(A,t.se.length,c),t.po] 125);have l:=bC.new w 125 #[t.co,t.pe,t.de,(A,t.se.length,c),t.po];have u:=l.cell 3 _ rfl;have f:=aP e;have v:aH (Sl qP 3 w A t.se):=hs;clear l hs e;go_enter func182,ntmps182
 go_upto_region 1 with(fail)
 generalize w.alloc (Obj.cells #[t.co,t.pe,t.de,(A,t.se.length,c),t.po] 125)=w1 at *;go_wp2_with fail
 go_loopw [12] (λv12 wr=>∃k:Nat,k<=t.se.length/\v12= .int .i64 k/\aH ((t.se.take k).any (D4 lock bY)=false)/\aH (aD w w wr)) (λv12 _=>t.se.length - (aL v12).toNat)
 case atStart=>exact⟨0,aaQ _,rfl,rfl,f.o⟩
 case round=>
  obtain⟨k,hk,rfl,i,a⟩:=hrel;clear u;by_cases d:k<t.se.length
  .obtain⟨b,off,rfl,c0,c1,c2⟩:=(v.o.keep a.o).LB d;have j:aH ((t.se.take (k+1)).any (D4 lock bY)=D4 lock bY t.se[k]):=by
    unfold aH;rw[<-abS d,List.any_append,i.o];simp
   have z:aH (D4 lock bY t.se[k]=true->BQ t lock bY=true):=λh=>adI.2 ⟨_,aaM d,h⟩
   have E:(0:Int)<=k:=aQ;have B:(k:Int)<(t.se.length:Int):=aQ;generalize t.se[k]=s at *;by_cases h1:s.lk=lock
   .by_cases m:s.fr<=bY
    .by_cases p:bY<s.gZ
     .go_wp2_with fail
      go_ret
      rw[z.o (by simp[D4,h1,m,p])];exact⟨rfl,a.o.alloc a.o.size _⟩
     .go_wp2_with fail
      refine⟨⟨k+1,aQ,rfl,by rw[j.o];simp[D4,p,aH],a.o.alloc a.o.size _⟩,by simp only[aL];omega⟩
    .go_wp2_with fail
     refine⟨⟨k+1,aQ,rfl,by rw[j.o];simp[D4,m,aH],a.o.alloc a.o.size _⟩,by simp only[aL];omega⟩
   .go_wp2_with fail
    refine⟨⟨k+1,aQ,rfl,by rw[j.o];simp[D4,h1,aH],a.o.alloc a.o.size _⟩,by simp only[aL];omega⟩
  .have q:t.se.take k=t.se:=aa7 aQ;have C:aH (BQ t lock bY=false):=by
    have:=i.o;rw[q] at this;exact this
   have B:¬(k:Int)<(t.se.length:Int):=aQ;clear i q;go_wp2_with fail
   go_ret
   rw[C.o];exact⟨rfl,a.o⟩
end
variable{g n q2 o2:Nat}{x:Lb}{y:La}
section
theorem bP.c(h:bP F w g x y)(i:Nat)(v:aC)(a:(fL x y)[i]?=some v):w.cell? (g,i)=some v:=h.bk.cell i v a
theorem XC(h:bP F w g x y)(J:IV x n m){o:Nat}{j:Jb}(E:wB w q o j)(I:Ch x n j)(lock:Int):aG prog 127 #[.pointer g, .pointer (some ⟨q,o,none⟩),lock] w λr w'=>r= .returned (.bool (BP x j lock))/\aD w w w':=by
 obtain⟨i,hi⟩:=aaO I.t0;have C:i<x.ts.length:=by have:=I.t1;omega
 obtain⟨b,A,c,K,t0,t1,t2,t3,t4,hs⟩:=h.task C;have G:=h.c 0 (.slice y.T y.L.length y.cT) rfl;have c0:=E.c0;have c4:=E.c4;have c7:=E.c7;have c9:=E.c9;rw[hi] at c0;rw[K,h.len] at G;have O:(gT x i).se.length<=8:=by
  unfold gT;rw[aaW,aaU,aaG C];exact(J.tk _ (aaM C)).sl
 have D:aH (BP x j lock=(j.bg&&decide (j.rs=0)&&BQ (gT x i) lock j.ra)):=by
  unfold aH BP;rw[hi]
 have i0:(0:Int)<=i:=aQ;have i1:(i:Int)<(x.ts.length:Int):=aQ;have P:aH (∀n:bR w,aG prog 182 #[.agg #[.int .i64 (gT x i).co, .int .i64 (gT x i).pe, .int .i64 (gT x i).de, .slice A (gT x i).se.length c, .int .i64 (gT x i).po],lock,j.ra] n.w λr w'=>r= .returned (.bool (BQ (gT x i) lock j.ra))/\aD n.w.heap.size n.w w'):=λn=>YJ _ A c (hs.keep n.ok) O lock j.ra
 clear h J E I hs K hi;generalize gT x i=t at *;cases M:j.bg
 .rw[M] at c7 D;go_enter func127,ntmps127
  go_upto_region 1 with(fail)
  (have a:=bR.cell G;have d:=bR.cell c0;have e:=bR.cell c4;have f:=bR.cell c7;have k:=bR.cell c9;have l:=bR.cell t0;have p:=bR.cell t1;have s:=bR.cell t2;have u:=bR.cell t3;have v:=bR.cell t4;refine dA aV aV ?_;(repeat (go_big_quiet_step (fail)));refine wpQuiet_nil ?_;clear a d e f k l p s u v;intro N z;have B:=bR.below z;clear z)
  go_wp2_with fail
  go_ret
  rw[D.o];exact⟨rfl,B⟩
 .rw[M] at c7 D;by_cases H:j.rs=0
  .rw[H] at c9;rw[abD H] at D;go_enter func127,ntmps127
   go_upto_region 1 with(fail)
   (have a:=bR.cell G;have d:=bR.cell c0;have e:=bR.cell c4;have f:=bR.cell c7;have k:=bR.cell c9;have l:=bR.cell t0;have p:=bR.cell t1;have s:=bR.cell t2;have u:=bR.cell t3;have v:=bR.cell t4;refine dA aV aV ?_;(repeat (go_big_quiet_step ((go_at_call 182;with_reducible exact gR (P.o _)))));refine wpQuiet_nil ?_;clear a d e f k l p s u v;intro N z;have B:=bR.below z;clear z)
   go_wp2_with fail
   go_ret
   rw[D.o];exact⟨rfl,B⟩
  .rw[aa0 H] at D;have Q:(j.rs==0)=false:=by simpa using H
   go_enter func127,ntmps127
   go_upto_region 1 with(fail)
   (have a:=bR.cell G;have d:=bR.cell c0;have e:=bR.cell c4;have f:=bR.cell c7;have k:=bR.cell c9;have l:=bR.cell t0;have p:=bR.cell t1;have s:=bR.cell t2;have u:=bR.cell t3;have v:=bR.cell t4;refine dA aV aV ?_;(repeat (go_big_quiet_step (fail)));refine wpQuiet_nil ?_;clear a d e f k l p s u v;intro N z;have B:=bR.below z;clear z)
   go_wp2_with fail
   go_ret
   rw[D.o];exact⟨rfl,B⟩
theorem fC(w:aA)(n:Nat):aD w w (w.drewN n):=gJ (Below.refl _ _) n
theorem xZ(h:bP F w g x y)(A:IV x n m){o:Nat}{a b:Jb}(l:wB w q o a)(B:Ch x n a)(p:wB w q2 o2 b)(C:Ch x n b):aG prog 89 #[.pointer g, .pointer (some ⟨q,o,none⟩), .pointer (some ⟨q2,o2,none⟩)] w λr w'=>r= .returned (.bool (pU x a b))/\aD w w w':=by
 obtain⟨i,hi⟩:=aaO B.t0;obtain⟨k,hk⟩:=aaO C.t0;have D:i<x.rk.length:=by have:=B.t1;rw[A.lr];omega
 have E:k<x.rk.length:=by have:=C.t1;rw[A.lr];omega
 obtain⟨b1,hK,r1⟩:=h.MS D;obtain⟨b2,f,L⟩:=h.MS E;rw[hK] at f;injection f with f;injection f with f;subst f;have M:=h.c 1 (.int .i64 x.od) rfl;have I:=h.c 2 (.slice y.K x.rk.length y.cK) rfl;rw[hK] at I;have a0:=l.c0;have N:=l.c1;have a3:=l.c3;have u:=l.c8;have z0:=p.c0;have O:=p.c1;have z3:=p.c3;have J:=p.c8;rw[hi] at a0;rw[hk] at z0;have d:aH (pU x a b=if a.bh !=b.bh then b.bh else if x.od=1/\zJ x i≠zJ x k then decide (zJ x i<zJ x k) else if a.de≠b.de then decide (a.de<b.de) else if(i:Int)≠(k:Int) then decide ((i:Int)<(k:Int)) else decide (a.nu<b.nu)):=by
  unfold aH pU;rw[hi,hk]
 have i0:(0:Int)<=i:=aQ;have i1:(i:Int)<(x.rk.length:Int):=aQ;have P:(0:Int)<=k:=aQ;have Q:(k:Int)<(x.rk.length:Int):=aQ;clear h A l B p C hK hi hk;generalize zJ x i=v at *;generalize zJ x k=rk at *;by_cases h1:a.bh=b.bh
 .have n1:(a.bh !=b.bh)=false:=by rw[h1];simp
  rw[n1] at d;simp only[abB,ab4] at d;rw[h1] at u n1;by_cases j:x.od=1/\v≠rk
  .rw[aaK j] at d;obtain⟨j,G⟩:=j;go_enter func89,ntmps89
   go_upto_region 1 with(fail)
   go_quiet (fail)
   go_upto_region 3 with(fail)
   go_quiet (fail)
   go_upto_region 4 with(fail)
   go_quiet (fail)
   go_wp2_with fail
   go_ret
   rw[d.o];exact⟨aT,fC _ _⟩
  .rw[aaL j] at d;have z:aH (¬(x.od=1/\v≠rk)):=j;clear j;by_cases G:x.od=1
   .have R:v=rk:=by
     by_cases e:v=rk
     .exact e
     .exact absurd ⟨G,e⟩ z.o
    by_cases s:a.de=b.de
    .rw[aaL (by simpa using s)] at d;by_cases t:(i:Int)=(k:Int)
     .rw[aaL (by simpa using t)] at d;go_enter func89,ntmps89
      go_upto_region 1 with(fail)
      go_quiet (fail)
      go_upto_region 3 with(fail)
      go_quiet (fail)
      go_upto_region 5 with(fail)
      go_quiet (fail)
      go_upto_region 7 with(fail)
      go_quiet (fail)
      go_upto_region 9 with(fail)
      go_quiet (fail)
      go_wp2_with fail
      go_ret
      rw[d.o];exact⟨aT,fC _ _⟩
     .rw[aaK t] at d;go_enter func89,ntmps89
      go_upto_region 1 with(fail)
      go_quiet (fail)
      go_upto_region 3 with(fail)
      go_quiet (fail)
      go_upto_region 5 with(fail)
      go_quiet (fail)
      go_upto_region 7 with(fail)
      go_quiet (fail)
      go_upto_region 8 with(fail)
      go_quiet (fail)
      go_wp2_with fail
      go_ret
      rw[d.o];exact⟨aT,fC _ _⟩
    .rw[aaK s] at d;go_enter func89,ntmps89
     go_upto_region 1 with(fail)
     go_quiet (fail)
     go_upto_region 3 with(fail)
     go_quiet (fail)
     go_upto_region 5 with(fail)
     go_quiet (fail)
     go_upto_region 6 with(fail)
     go_quiet (fail)
     go_wp2_with fail
     go_ret
     rw[d.o];exact⟨aT,fC _ _⟩
   .skip
    by_cases s:a.de=b.de
    .rw[aaL (by simpa using s)] at d;by_cases t:(i:Int)=(k:Int)
     .rw[aaL (by simpa using t)] at d;go_enter func89,ntmps89
      go_upto_region 1 with(fail)
      go_quiet (fail)
      go_upto_region 3 with(fail)
      go_quiet (fail)
      go_upto_region 5 with(fail)
      go_quiet (fail)
      go_upto_region 7 with(fail)
      go_quiet (fail)
      go_upto_region 9 with(fail)
      go_quiet (fail)
      go_wp2_with fail
      go_ret
      rw[d.o];exact⟨aT,fC _ _⟩
     .rw[aaK t] at d;go_enter func89,ntmps89
      go_upto_region 1 with(fail)
      go_quiet (fail)
      go_upto_region 3 with(fail)
      go_quiet (fail)
      go_upto_region 5 with(fail)
      go_quiet (fail)
      go_upto_region 7 with(fail)
      go_quiet (fail)
      go_upto_region 8 with(fail)
      go_quiet (fail)
      go_wp2_with fail
      go_ret
      rw[d.o];exact⟨aT,fC _ _⟩
    .rw[aaK s] at d;go_enter func89,ntmps89
     go_upto_region 1 with(fail)
     go_quiet (fail)
     go_upto_region 3 with(fail)
     go_quiet (fail)
     go_upto_region 5 with(fail)
     go_quiet (fail)
     go_upto_region 6 with(fail)
     go_quiet (fail)
     go_wp2_with fail
     go_ret
     rw[d.o];exact⟨aT,fC _ _⟩
 .have n1:(a.bh !=b.bh)=true:=by simpa using h1
  rw[n1] at d;simp only[acY] at d;have z:a.bh=!b.bh:=by
   cases S:a.bh <;> cases H:b.bh <;> simp_all
  rw[z] at u;clear h1 n1 z;cases H:b.bh
  all_goals
   rw[H] at u J d;simp only[Bool.not_false,Bool.not_true] at u;go_enter func89,ntmps89
   go_upto_region 1 with(fail)
   go_quiet (fail)
   go_wp2_with fail
   go_ret
   rw[d.o];exact⟨rfl,fC _ _⟩
end
section
theorem I7(n:Nat)(p:Nat->Bool):(List.range (n+1)).all p=((List.range n).all p&&p n):=by
 rw[acT,List.all_append];simp
theorem Gq(x:Lb)(W:aA):∀(l:Nat),l<8->(Instr.index 62 (.agg #[.int .i64 (x.ce 0), .int .i64 (x.ce 1), .int .i64 (x.ce 2), .int .i64 (x.ce 3), .int .i64 (x.ce 4), .int .i64 (x.ce 5), .int .i64 (x.ce 6), .int .i64 (x.ce 7)]) (.int .i64 l)).run prog W= .ok (.int .i64 (x.ce l)) W:=λl a=>by
 match l,a with
 |0,_=>
  show(Instr.index 62 (.agg #[.int .i64 (x.ce 0), .int .i64 (x.ce 1), .int .i64 (x.ce 2), .int .i64 (x.ce 3), .int .i64 (x.ce 4), .int .i64 (x.ce 5), .int .i64 (x.ce 6), .int .i64 (x.ce 7)]) (.int .i64 ((0:Nat):Int))).run prog W= .ok (.int .i64 (x.ce 0)) W;kernel_rfl
 |1,_=>
  show(Instr.index 62 (.agg #[.int .i64 (x.ce 0), .int .i64 (x.ce 1), .int .i64 (x.ce 2), .int .i64 (x.ce 3), .int .i64 (x.ce 4), .int .i64 (x.ce 5), .int .i64 (x.ce 6), .int .i64 (x.ce 7)]) (.int .i64 ((1:Nat):Int))).run prog W= .ok (.int .i64 (x.ce 1)) W;kernel_rfl
 |2,_=>
  show(Instr.index 62 (.agg #[.int .i64 (x.ce 0), .int .i64 (x.ce 1), .int .i64 (x.ce 2), .int .i64 (x.ce 3), .int .i64 (x.ce 4), .int .i64 (x.ce 5), .int .i64 (x.ce 6), .int .i64 (x.ce 7)]) (.int .i64 ((2:Nat):Int))).run prog W= .ok (.int .i64 (x.ce 2)) W;kernel_rfl
 |3,_=>
  show(Instr.index 62 (.agg #[.int .i64 (x.ce 0), .int .i64 (x.ce 1), .int .i64 (x.ce 2), .int .i64 (x.ce 3), .int .i64 (x.ce 4), .int .i64 (x.ce 5), .int .i64 (x.ce 6), .int .i64 (x.ce 7)]) (.int .i64 ((3:Nat):Int))).run prog W= .ok (.int .i64 (x.ce 3)) W;kernel_rfl
 |4,_=>
  show(Instr.index 62 (.agg #[.int .i64 (x.ce 0), .int .i64 (x.ce 1), .int .i64 (x.ce 2), .int .i64 (x.ce 3), .int .i64 (x.ce 4), .int .i64 (x.ce 5), .int .i64 (x.ce 6), .int .i64 (x.ce 7)]) (.int .i64 ((4:Nat):Int))).run prog W= .ok (.int .i64 (x.ce 4)) W;kernel_rfl
 |5,_=>
  show(Instr.index 62 (.agg #[.int .i64 (x.ce 0), .int .i64 (x.ce 1), .int .i64 (x.ce 2), .int .i64 (x.ce 3), .int .i64 (x.ce 4), .int .i64 (x.ce 5), .int .i64 (x.ce 6), .int .i64 (x.ce 7)]) (.int .i64 ((5:Nat):Int))).run prog W= .ok (.int .i64 (x.ce 5)) W;kernel_rfl
 |6,_=>
  show(Instr.index 62 (.agg #[.int .i64 (x.ce 0), .int .i64 (x.ce 1), .int .i64 (x.ce 2), .int .i64 (x.ce 3), .int .i64 (x.ce 4), .int .i64 (x.ce 5), .int .i64 (x.ce 6), .int .i64 (x.ce 7)]) (.int .i64 ((6:Nat):Int))).run prog W= .ok (.int .i64 (x.ce 6)) W;kernel_rfl
 |7,_=>
  show(Instr.index 62 (.agg #[.int .i64 (x.ce 0), .int .i64 (x.ce 1), .int .i64 (x.ce 2), .int .i64 (x.ce 3), .int .i64 (x.ce 4), .int .i64 (x.ce 5), .int .i64 (x.ce 6), .int .i64 (x.ce 7)]) (.int .i64 ((7:Nat):Int))).run prog W= .ok (.int .i64 (x.ce 7)) W;kernel_rfl
theorem Kb(h:bP F w g x y)(D:IV x n m)(hn:n<=1000000){p:Nat}(hp:p<x.jb.length):aG prog 90 #[.pointer g,p] w λr w'=>r= .returned (.bool (JN x p))/\aD w w w':=by
 have R:=D.l9 hp;obtain⟨i,hi⟩:=aaO R.t0;have S:i<x.rk.length:=by have:=R.t1;rw[D.lr];omega
 obtain⟨b1,hK,r1⟩:=h.MS S;obtain⟨q,hq,hc⟩:=h.l9 hp;have e2:=h.c 2 (.slice y.K x.rk.length y.cK) rfl;have t:=h.c 15 (.slice y.J x.jb.length y.cJ) rfl;rw[hK] at e2;rw[hq] at t;have c0:=hc.c0;rw[hi] at c0;have hr:aH (zJ x (dN x p).tk=zJ x i):=by unfold aH;rw[hi]
 have i0:(0:Int)<=i:=aQ;have i1:(i:Int)<(x.rk.length:Int):=aQ;have p0:(0:Int)<=p:=aQ;have p1:(p:Int)<(x.jb.length:Int):=aQ;have Q:=aP h;have HI:=aP D;have HQ:=aP hq;have hjl:=D.jl;clear R hi hc hK hq h D;generalize zJ x i=r at *;go_enter func90,ntmps90
 go_upto_region 1 with(fail)
 go_quiet (fail)
 go_wp2_with fail
 have T:aH (aD w w (w.drewN nq)):=fC _ _;generalize w.drewN nq=w1 at *;go_loopw [29] (λu wr=>∃k:Nat,k<=x.jb.length/\u= .int .i64 k/\aH ((List.range k).all (FX x p)=true)/\aH (aD w w wr)) (λu _=>x.jb.length - (aL u).toNat)
 case atStart=>exact⟨0,aaQ _,rfl,rfl,T.o⟩
 case round=>
  obtain⟨k,hk,rfl,U,s⟩:=hrel;by_cases v:k<x.jb.length
  .have j1:(k:Int)<(x.jb.length:Int):=aQ;have j0:(0:Int)<=k:=aQ;by_cases E:k=p
   .subst E;have V:aH ((List.range (k+1)).all (FX x k)=true):=by unfold aH;rw[I7,U.o];simp[FX]
    go_wp2_with fail
    refine⟨⟨k+1,aQ,rfl,V.o,s.o⟩,by simp only[aL];omega⟩
   .have hkp':¬(k:Int)=(p:Int):=aQ;obtain⟨q',d,G⟩:=(Q.o.below s.o).l9 v;have H:=aP G;have X:=aP (HI.o.l9 v);rw[HQ.o] at d;injection d with d;injection d with d;subst d;have HM:aH (FX x p k=(List.range 8).all (L5 x r (dN x k))):=by unfold aH FX;rw[hr.o];simp[E]
    have a:=Q.o.below s.o;have E0:wr.cell? (g,3)=some (.int .i64 (x.ce 0)):=a.c 3 _ rfl;have E1:wr.cell? (g,4)=some (.int .i64 (x.ce 1)):=a.c 4 _ rfl;have E2:wr.cell? (g,5)=some (.int .i64 (x.ce 2)):=a.c 5 _ rfl;have E3:wr.cell? (g,6)=some (.int .i64 (x.ce 3)):=a.c 6 _ rfl;have E4:wr.cell? (g,7)=some (.int .i64 (x.ce 4)):=a.c 7 _ rfl;have E5:wr.cell? (g,8)=some (.int .i64 (x.ce 5)):=a.c 8 _ rfl;have E6:wr.cell? (g,9)=some (.int .i64 (x.ce 6)):=a.c 9 _ rfl;have E7:wr.cell? (g,10)=some (.int .i64 (x.ce 7)):=a.c 10 _ rfl;have HG:=aP a;clear a e2 t c0;go_upto_region 6 with(fail)
    go_wp2_with fail
    obtain⟨B,I⟩:∃z,z=wr:=⟨_,rfl⟩
    rw[<-I] at H s HG E0 E1 E2 E3 E4 E5 E6 E7⊢;clear I G wr;go_loopw [39] (λv39 ws=>∃l:Nat,l<=8/\v39= .int .i64 l/\aH ((List.range l).all (L5 x r (dN x k))=true)/\aH (aD B B ws)) (λv39 _=>8 - (aL v39).toNat)
    case atStart=>exact⟨0,aaQ _,rfl,rfl,Below.refl _ _⟩
    case round=>
     clear E0 E1 E2 E3 E4 E5 E6 E7;obtain⟨l,hl,rfl,L,b⟩:=hrel;by_cases M:l<8
     .have l1:(l:Int)<8:=aQ;have N:=λW=>Gq x W l M
      have f:aH (aD w w wr/\aD B B wr):=⟨s.o.trans (b.o.mono s.o.size),b.o⟩
      have O:aH ((List.range (l+1)).all (L5 x r (dN x k))=L5 x r (dN x k) l):=by unfold aH;rw[I7,L.o];simp
      have HD:aH (L5 x r (dN x k) l=!(decide (x.ce l<=r)&&BP x (dN x k) l)):=rfl;by_cases P:x.ce l<=r
      .have C:=aP (XC (Q.o.below f.o.1) HI.o (H.o.keep b.o) X.o l);have t:wr.cell? (g,15)=some (.slice q x.jb.length y.cJ):=by
        have:=(Q.o.below f.o.1).c 15 (.slice y.J x.jb.length y.cJ) rfl;rw[HQ.o] at this;exact this
       rw[abD P] at HD;generalize x.ce l=cl at *;cases hh:BP x (dN x k) l
       .rw[hh] at C HD;go_wp2_with fail
        refine aR C ?_;rintro e Y ⟨rfl,j⟩;have A:aH (aD B B Y):=b.o.trans (j.mono b.o.size);clear j C N;go_wp2_with fail
        refine⟨⟨l+1,aQ,rfl,by rw[O.o,HD.o];rfl,A.o⟩,by simp only[aL];omega⟩
       .rw[hh] at C HD;have Z:aH (JN x p=false):=by
         have h1:FX x p k=false:=by
          rw[HM.o,List.all_eq_false];exact⟨l,ab3.2 M,by rw[HD.o];simp⟩
         unfold aH JN;rw[List.all_eq_false];exact⟨k,ab3.2 v,by rw[h1];simp⟩
        go_wp2_with fail
        refine aR C ?_;rintro e Y ⟨rfl,j⟩;have A:aH (aD w w Y):=f.o.1.trans (j.mono f.o.1.size);clear j C N;go_wp2_with fail
        go_ret
        rw[Z.o];exact⟨rfl,A.o⟩
      .rw[aa0 P] at HD;generalize x.ce l=cl at *;go_wp2_with fail
       refine⟨⟨l+1,aQ,rfl,by rw[O.o,HD.o];rfl,b.o⟩,by simp only[aL];omega⟩
     .have l1:¬(l:Int)<8:=aQ;have a1:l=8:=aQ;have V:aH ((List.range (k+1)).all (FX x p)=true):=by
       unfold aH;rw[I7,U.o,HM.o,<-a1,L.o];rfl
      have f:aH (aD w w wr):=s.o.trans (b.o.mono s.o.size);go_wp2_with fail
      refine⟨⟨k+1,aQ,rfl,V.o,f.o⟩,by simp only[aL];omega⟩
  .have j1:¬(k:Int)<(x.jb.length:Int):=aQ;have a6:k=x.jb.length:=aQ;have Z:aH (JN x p=true):=by have:=U.o;rw[a6] at this;exact this
   go_wp2_with fail
   go_ret
   rw[Z.o];exact⟨rfl,s.o⟩
end
end
end Go.Proofs.YtacgiflhgdaeaaaGreat
