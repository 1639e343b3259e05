/- Texts laid as one. -/
import Derived.Test.YtacgiflhgdaeaaaGreatAZ5
import Derived.Test.YtacgiflhgdaeaaaGreatAZ8
import Derived.Test.YtacgiflhgdaeaaaGreatAZ13
import Derived.Test.YtacgiflhgdaeaaaGreatAZ14
import Derived.Test.YtacgiflhgdaeaaaGreatAZ16
set_option linter.unusedVariables false
set_option linter.unusedSimpArgs false
set_option maxRecDepth 100000
set_option maxHeartbeats 20000000
namespace Go.Proofs.YtacgiflhgdaeaaaGreat
open Go.Proofs.Tryz
open Go renaming World->aA,Value->aC,Ending->aM,Calls->aG
open Go.RowKit renaming Below->aD,Hid->aH,intOf->aL
open Go.Obj renaming cells->aI
section
open Go.RowKit Go.Lib Go.Shelf
variable{n:Nat}
section
def zW(n:Nat):Sd:=⟨List.replicate n ⟨none,false⟩,⟨0,0,λ_=>none, []⟩,0,0⟩
theorem gQ.new(h1:1<=n)(b:n<=8):gQ (zW n):=by
 have hl:(zW n).P.length=n:=acN;refine⟨by rw[hl];omega,λp hp v a=>?_,⟨λx v h=>(by cases h),λp hp=>(by cases hp),rfl,(by show(0:Int)<=4294967296;omega)⟩,(by show(0:Int)<=0/\(0:Int)<=1048576;omega),(by rw[hl];show(0:Int)<=0/\(0:Int)<n;omega),(by show(0:Int)<=0/\(0:Int)<=0;omega),?_,λi p hp=>?_,λi hi=>rfl⟩
 .have:=abK hp;subst this;cases a
 .show((0:Nat):Int)+((List.replicate n ⟨none,false⟩:List Pv).countP kU:Int)<=0;rw[List.countP_replicate];simp[kU]
 .have:=abK (abV hp);subst this;rfl
def Yo(n:Nat)(w:aA)(e:aM)(w':aA):Prop:=∃g,e= .returned (.tuple #[.pointer (some ⟨g,0,none⟩),aU])/\lS (λb=>b<w.heap.size) w' g (zW n)/\aD w w w'
theorem Oo:(prog.info? 219).map (λi=>(i.zero,i.size,i.bytes))=some (some (.agg #[pH,false]),2,16):=aV
theorem RW(w:aA):aG prog 139 #[.int .i64 4] w (Yo 4 w):=by
 obtain⟨t,g,j,k,l⟩:=info_parts Oo;go_enter func139,ntmps139
 go_wp2_with(at_make;refine wpList_make_full _ rfl _ _ 180 rfl w.heap.size 219 t _ 2 underlying180 g j k _ _ _ _ 4 rfl rfl aQ aQ (by rw[l];omega) dI (Zw _) ?_;intro c a d)
 go_ret2
 have ho:bI KA 2 c w.heap.size 219 (some ⟨w.heap.size,0,none⟩) 4 (List.replicate 4 ⟨none,false⟩):=by
  have e:(madeCells (Value.agg #[pH,false]).cells (4 *2)).toList=(List.replicate 4 (⟨none,false⟩:Pm)).flatMap KA:=aV;rw[e] at a;exact a
 have hb:aD w w c:=⟨d.os,d.tape,d.output,d.size,λi hi=>d.block i hi aT⟩
 have hq:w.heap.size<c.heap.size:=(ho.lt _ rfl).2;have f:=aX c (aI #[.slice w.heap.size 4 4,aU,bC, .map none,bH,aU,aU] 186);have u:=bF.new c 186 #[.slice w.heap.size 4 4,aU,bC, .map none,bH,aU,aU];have o:=hb.trans (f.mono hb.size);have m:=ho.keep f;refine⟨c.heap.size,rfl,⟨λb=>if b<w.heap.size then 0 else if b=w.heap.size then 2 else 1,w.heap.size,_,none,none,0,λb hb=>⟨Zy hb o.size,Zz hb⟩,⟨u,bI.nil _ _ _,⟨λ_ _=>rfl,λr n=>(by cases n)⟩,Fo.ol _ _ _,λh=>h.2 ?_,λq hq=>(by cases hq),λr n=>(by cases n)⟩,m.from_ (aaH _),?_,rfl,λi h1 y=>?_⟩,o⟩
 .show(if _ then _ else _)=_;rw[aaA aQ,aaA aQ]
 .show(if _ then _ else _)=_;rw[aaA aQ,Zz rfl]
 .have hp:∀(r:Pm) (p:Pv),r=⟨none,false⟩->p=⟨none,false⟩->∀W s,GB W s i r p:=by
   rintro r p rfl rfl W s;exact⟨rfl,λ_=>rfl,λv x=>(by cases x)⟩
  exact hp _ _ (aeE ..) (aeE ..) _ _
end
end
section
open Go.RowKit Go.Lib
variable{H F:Nat->Prop}{i j g q:Nat}{w:aA}
section
structure Ln where
 ra:Bool
 ma:Bool
 se:Bool
 dr:Int
def KD(s:Ln):List aC:= [.bool s.ra, .bool s.ma, .bool s.se, .int .i64 s.dr]
theorem EA:eL KD 4:=⟨λ_=>rfl,λx u hu=>by simp[KD] at hu;rcases hu with rfl|rfl|rfl|rfl <;> rfl⟩
structure Ir(F:Nat->Prop)(w:aA)(g q:Nat)(L:List Ln):Prop where
 b:bF w g 334 #[.slice q L.length L.length]
 o:bI KD 4 w 0 267 q L.length L
 n8:L.length<=8
 fl:Ol F w
 fg:¬F g
 fq:¬F q
 ne:g≠q
section
variable{F G:Nat->Prop}{w w':aA}{g q:Nat}{L:List Ln}
theorem Ir.kp(h:Ir F w g q L)(k:Kp G w w')(c:G g)(hq:G q)(fl:Ol H w')(fg:¬H g)(fq:¬H q):Ir H w' g q L:=⟨k.aY h.b c,h.o.kp k (λr a=>by injection a with a;rw[<-a];exact hq),h.n8,fl,fg,fq,h.ne⟩
theorem Ir.set(h:Ir F w g q L)(hi:i<L.length)(a:j<4)(x:Ln)(v:aC)(c:KD x=(KD L[i]).set j v):Ir F (w.setCell (q,i *4+j) v) g q (L.set i x)/\Kp F w (w.setCell (q,i *4+j) v):=by
 obtain⟨h1,d⟩:=qO EA.len h.o hi a x v c;have k:=h.fl.self h.fq d;exact⟨⟨by rw[aaL];exact h.b.rU (p:=⟨q,i *4+j,none⟩) h.ne v,by rw[aaL];exact h1,by rw[aaL];exact h.n8,h.fl.kp k,h.fg,h.fq,h.ne⟩,k⟩
theorem Ir.at_(h:Ir F w g q L)(hi:i<L.length):w.cell? (q,i *4)=some (.bool L[i].ra)/\w.cell? (q,i *4+1)=some (.bool L[i].ma)/\w.cell? (q,i *4+2)=some (.bool L[i].se)/\w.cell? (q,i *4+3)=some (.int .i64 L[i].dr):=
 ⟨bM EA h.o hi (j:=0) rfl,bM EA h.o hi (j:=1) rfl,bM EA h.o hi (j:=2) rfl,bM EA h.o hi (j:=3) rfl⟩
end
theorem FK{L:List Ln}(h:Ir F w g q L)(i:Nat)(hi:i<L.length):aG prog 102 #[.pointer g,i] w λe w'=>e= .returned (.pointer (some ⟨q,i *4,none⟩))/\w=w':=by
 have c0:=h.b.cell 0 _ rfl;have i0:¬(i:Int)<0:=aQ;have i2:(0:Int)<=i:=aQ;have i1:(i:Int)<(L.length:Int):=aQ;clear h;generalize L.length=n at *;go_enter func102,ntmps102
 go_wp2_with fail
 go_ret
 exact⟨aT,rfl⟩
theorem IJ{L:List Ln}(h:Ir F w g q L)(i:Int)(hi:i<0\/L.length<=i):aG prog 102 #[.pointer g,i] w λe w'=>e= .returned (.pointer none)/\w=w':=by
 have c0:=h.b.cell 0 _ rfl;clear h;generalize L.length=n at *;by_cases a:i<0
 .go_enter func102,ntmps102
  go_wp2_with fail
  go_ret
  exact⟨rfl,rfl⟩
 .have h1:(n:Int)<=i:=aQ;clear hi;go_enter func102,ntmps102
  go_wp2_with fail
  go_ret
  exact⟨rfl,rfl⟩
def ZM(F:Nat->Prop)(g q n:Nat)(w:aA)(e:aM)(w':aA):Prop:=∃(v:Int) (L:List Ln),e= .returned (.int .i64 v)/\L.length=n/\Ir F w' g q L/\Kp F w w'
section
variable{F:Nat->Prop}{w:aA}{g q:Nat}{L:List Ln}
theorem Ir.fz(h:Ir F w g q L)(hi:i<L.length):w.frozen? (q,i *4)=false/\w.frozen? (q,i *4+1)=false/\w.frozen? (q,i *4+2)=false/\w.frozen? (q,i *4+3)=false:=by
 have:=abU 4 (show i+1<=L.length from hi);exact⟨(cZ h.o _ aQ).2,(cZ h.o _ aQ).2,(cZ h.o _ aQ).2,(cZ h.o _ aQ).2⟩
theorem Ir.same(h:Ir F w g q L)(v:Int):ZM F g q L.length w (.returned (.int .i64 v)) w:=⟨v,L,rfl,rfl,h,Kp.refl _ _⟩
theorem Ir.done(h:Ir F w g q L)(v:Int)(hi:i<L.length)(a:j<4)(x:Ln)(u:aC)(b:KD x=(KD L[i]).set j u):ZM F g q L.length w (.returned (.int .i64 v)) (w.setCell (q,i *4+j) u):=⟨v,_,rfl,by rw[aaL],(h.set hi a x u b).1,(h.set hi a x u b).2⟩
end
theorem XS{L:List Ln}(h:Ir F w g q L)(i:Int):aG prog 74 #[.pointer g,i] w (ZM F g q L.length w):=by
 by_cases ho:i<0\/L.length<=i
 .have a:=aP (IJ h i ho);have c:=aP h.same;clear h ho;go_enter func74,ntmps74
  go_wp2_with fail
  refine aR a ?_;rintro e b ⟨rfl,rfl⟩;go_wp2_with fail
  go_ret
  exact c.o _
 .obtain⟨n,rfl⟩:=aaB (show 0<=i by omega);have hi:n<L.length:=aQ;have a:=aP (FK h n hi);obtain⟨c0,c1,c2,c3⟩:=h.at_ hi;have d:=aP (λv=>h.done v hi (j:=0) aQ {L[n] with ra:=true} (.bool true) rfl);have f:=aP (λv x=>h.done v hi (j:=3) aQ {L[n] with dr:=x} (.int .i64 x) rfl);obtain⟨f0,f1,f2,f3⟩:=h.fz hi;clear h ho;generalize L[n]=x at *;obtain⟨r1,k,l,m⟩:=x;simp only at c0 c1 c2 c3;cases r1
  .go_enter func74,ntmps74
   go_wp2_with fail
   refine aR a ?_;rintro e b ⟨rfl,rfl⟩;go_wp2_with fail
   go_ret
   exact d.o _
  .go_enter func74,ntmps74
   go_wp2_with fail
   refine aR a ?_;rintro e b ⟨rfl,rfl⟩;go_wp2_with fail
   go_ret
   exact f.o _ _
theorem PI{L:List Ln}(h:Ir F w g q L)(i:Int)(m:Bool):aG prog 195 #[.pointer g,i,m] w (ZM F g q L.length w):=by
 by_cases ho:i<0\/L.length<=i
 .have a:=aP (IJ h i ho);have b:=aP h.same;clear h ho;go_enter func195,ntmps195
  go_wp2_with fail
  refine aR a ?_;rintro e c ⟨rfl,rfl⟩;go_wp2_with fail
  go_ret
  exact b.o _
 .obtain⟨n,rfl⟩:=aaB (show 0<=i by omega);have hi:n<L.length:=aQ;have a:=aP (FK h n hi);obtain⟨c0,c1,c2,c3⟩:=h.at_ hi;obtain⟨f0,f1,f2,f3⟩:=h.fz hi;have d:=aP (λv=>h.done v hi (j:=1) aQ {L[n] with ma:=m} (.bool m) rfl);clear h ho;go_enter func195,ntmps195
  go_wp2_with fail
  refine aR a ?_;rintro e c ⟨rfl,rfl⟩;go_wp2_with fail
  go_ret
  exact d.o _
theorem S8{L:List Ln}(h:Ir F w g q L)(i:Int):aG prog 196 #[.pointer g,i] w (ZM F g q L.length w):=by
 by_cases ho:i<0\/L.length<=i
 .have a:=aP (IJ h i ho);have b:=aP h.same;clear h ho;go_enter func196,ntmps196
  go_wp2_with fail
  refine aR a ?_;rintro e c ⟨rfl,rfl⟩;go_wp2_with fail
  go_ret
  exact b.o _
 .obtain⟨n,rfl⟩:=aaB (show 0<=i by omega);have hi:n<L.length:=aQ;have a:=aP (FK h n hi);have b:=aP h.same;obtain⟨c0,c1,c2,c3⟩:=h.at_ hi;obtain⟨f0,f1,f2,f3⟩:=h.fz hi;have d:=aP (λv=>h.done v hi (j:=2) aQ {L[n] with se:=false} (.bool false) rfl);clear h ho;generalize L[n]=x at *;obtain⟨r1,k,f,l⟩:=x;simp only at c0 c1 c2 c3;cases f
  all_goals
   go_enter func196,ntmps196
   go_wp2_with fail
   refine aR a ?_;rintro e c ⟨rfl,rfl⟩;go_wp2_with fail
   go_ret
   first|exact d.o _|exact b.o _
theorem Ez{L:List Ln}(h:Ir F w g q L):aG prog 153 #[.pointer g] w λe w'=>e= .returned (.int .i64 L.length)/\w=w':=by
 have c0:=h.b.cell 0 _ rfl;clear h;go_enter func153,ntmps153
 go_wp2_with fail
 go_ret
 exact⟨rfl,rfl⟩
end
section
def BS(L:List Ln):Nat:=L.countP λx=>!x.se
theorem Lq{L:List Ln}(hi:i<L.length)(h:L[i].se=false){x:Ln}(a:x.se=true):BS (L.set i x)<BS L:=by
 have h1:0<BS L:=List.countP_pos_iff.2 ⟨L[i],aaF hi,by simp[h]⟩;unfold BS at *;rw[List.countP_set hi];simp[h,a];omega
def Wb(F:Nat->Prop)(g q:Nat)(L:List Ln)(w:aA)(e:aM)(w':aA):Prop:=∃L':List Ln,L'.length=L.length/\Ir F w' g q L'/\Kp F w w'/\((∃i:Nat,i<L.length/\e= .returned (.tuple #[i,true])/\BS L'<BS L)\/e= .returned (.tuple #[aU,false]))
theorem Hi{L:List Ln}(h:Ir F w g q L):aG prog 109 #[.pointer g] w (Wb F g q L w):=by
 have a:=aP h;have c:=aP (Ez h);have d:=h.n8;clear h;go_enter func109,ntmps109
 go_wp2_with fail
 refine aR c ?_;rintro e f ⟨rfl,rfl⟩;go_wp2_with fail
 go_loop [8] (λv8=>∃k:Nat,v8= .int .i64 k/\k<=L.length) (λv8=>L.length - (aL v8).toNat)
 case atStart=>exact⟨0,rfl,aaH _⟩
 case round=>
  obtain⟨k,rfl,hk⟩:=hrel;by_cases hi:k<L.length
  .have l:=aP (FK a.o k hi);obtain⟨c0,c1,c2,c3⟩:=a.o.at_ hi;obtain⟨f0,f1,f2,f3⟩:=a.o.fz hi;have h1:=a.o.set hi (j:=2) aQ {L[k] with se:=true} (.bool true) rfl;have b:=h1.1.set (i:=k) (by rw[aaL];exact hi) (j:=0) aQ {L[k] with se:=true,ra:=false} (.bool false) (by rw[List.getElem_set_self];rfl);rw[List.set_set] at b;have HD:aH (L[k].se=false->Wb F g q L w (.returned (.tuple #[k,true])) ((w.setCell (q,k *4+2) (.bool true)).setCell (q,k *4+0) (.bool false))):=λhs=>⟨_,by rw[aaL],b.1,h1.2.trans b.2, .inl ⟨k,hi,rfl,Lq hi hs rfl⟩⟩
   have p:(k:Int)<(L.length:Int):=aQ;clear h1 b;generalize L[k]=x at *;obtain⟨r1,m,n,r⟩:=x;simp only at c0 c1 c2 c3 HD;cases r1 <;> cases m <;> cases n
   all_goals
    go_wp2_with fail
    refine aR l ?_;rintro e f ⟨rfl,rfl⟩;go_wp2_with fail
    first
     |(go_round;(case rel=>exact⟨k+1,by go_num,aQ⟩);(case measure=>simp[aL];omega))
     |(go_ret2;exact HD.o trivial)
  .obtain rfl:k=L.length:=aQ;go_wp2_with fail
   go_ret2
   exact⟨L,rfl,a.o,Kp.refl _ _, .inr rfl⟩
end
end
section
open Go.RowKit Go.Lib Go.Shelf dF Fr Up Nt
structure Kv where
 c:Cf
 f:dX
 t:List En
 b:List Nt
 v:List Vc
 s:Sd
 n:Nat
 p:Nat×Nat
structure Ka where
 gf:Nat
 gt:Nat
 gc:Nat
 gi:Nat
 gr:Nat
 gb:Nat
 gs:Nat
 gw:Nat
 al:List Int
 bd:List Int
 iq:Nat
 ln:List Ln
def pA(g:Nat):aC:= .pointer g
def kL(a:Ka):List aC:= [pA a.gf,pA a.gt,pA a.gc,pA a.gi,pA a.gr,pA a.gb,pA a.gs, .int .i64 6, .int .i64 2, .int .i64 4,pA a.gw]++(a.al.map (Value.int .i64)++a.bd.map (Value.int .i64))
def TH(g:Nat)(s:dX):Pt:=⟨λF w=>C2 F w g s,C2.cD g s⟩
def Kh(g:Nat)(L:List En):Pt:=⟨λF w=>jK F w g L,jK.cD g L⟩
def TY(g:Nat)(C:Cf):Pt:=⟨λF w=>eG F w g C,eG.cD g C⟩
theorem Ir.cD(g q:Nat)(L:List Ln):dN (λF w=>Ir F w g q L):=λ_ _ _ _ _ h k c fl hH=>
 h.kp k (c g h.b.lt h.fg) (c q (h.o.lt q rfl).2 h.fq) fl (hH g h.b.lt h.fg) (hH q (h.o.lt q rfl).2 h.fq)
def ZL(g q:Nat)(L:List Ln):Pt:=⟨λF w=>Ir F w g q L,Ir.cD g q L⟩
def Jq(g:Nat):Pt:=⟨λF w=>uM F w g,uM.cD g⟩
def TK(g:Nat)(L:List Nt)(VS:List Vc):Pt:=⟨λF w=>uZ F w g L VS,uZ.cD g L VS⟩
def Ca(g:Nat)(s:Sd):Pt:=⟨λF w=>lS F w g s,lS.cD g s⟩
def Q1(g n:Nat):Pt:=⟨λF w=>BM F w g n,BM.cD g n⟩
def Jw(g:Nat)(a:Ka)(k:Kv):List Pt:= [PB g 64 (kL a).toArray,TH a.gf k.f,Kh a.gt k.t,TY a.gc k.c,ZL a.gi a.iq a.ln,Jq a.gr,TK a.gb k.b k.v,Ca a.gs k.s,Q1 a.gw k.n]
structure bQ(F:Nat->Prop)(w:aA)(g:Nat)(a:Ka)(k:Kv):Prop where
 o:Ob (Jw g a k) F w
 al:a.al.length=8
 bd:a.bd.length=8
 ln:a.ln.length=2
 pp:k.p=(a.gt,a.gf)
def KM(F:Nat->Prop)(w:aA)(g:Nat)(k:Kv):Prop:=∃a,bQ F w g a k
theorem bQ.cD(g:Nat)(a:Ka)(k:Kv):dN (λF w=>bQ F w g a k):=λF G H w w' h x b fl hH=>⟨Ob.cD _ F G H w w' h.o x b fl hH,h.al,h.bd,h.ln,h.pp⟩
variable{i:Nat}
section
variable{F:Nat->Prop}{w w':aA}{g:Nat}{a:Ka}{k:Kv}
theorem bQ.fl(h:bQ F w g a k):Ol F w:=h.o.fl
theorem bQ.below(h:bQ F w g a k)(hb:aD w w w'):bQ F w' g a k/\Kp F w w':=⟨⟨h.o.below hb,h.al,h.bd,h.ln,h.pp⟩,h.o.QC hb⟩
theorem bQ.bk(h:bQ F w g a k):bF w g 64 (kL a).toArray:=by
 obtain⟨c,h1⟩:=h.o;exact(h1.get 0 (p:=PB g 64 (kL a).toArray) rfl).b
theorem bQ.pf(h:bQ F w g a k):w.cell? (g,0)=some (pA a.gf):=h.bk.cell 0 _ rfl
theorem bQ.pt(h:bQ F w g a k):w.cell? (g,1)=some (pA a.gt):=h.bk.cell 1 _ rfl
theorem bQ.pc(h:bQ F w g a k):w.cell? (g,2)=some (pA a.gc):=h.bk.cell 2 _ rfl
theorem bQ.pi(h:bQ F w g a k):w.cell? (g,3)=some (pA a.gi):=h.bk.cell 3 _ rfl
theorem bQ.pr(h:bQ F w g a k):w.cell? (g,4)=some (pA a.gr):=h.bk.cell 4 _ rfl
theorem bQ.pb(h:bQ F w g a k):w.cell? (g,5)=some (pA a.gb):=h.bk.cell 5 _ rfl
theorem bQ.ps(h:bQ F w g a k):w.cell? (g,6)=some (pA a.gs):=h.bk.cell 6 _ rfl
theorem bQ.pw(h:bQ F w g a k):w.cell? (g,10)=some (pA a.gw):=h.bk.cell 10 _ rfl
theorem bQ.LO(h:bQ F w g a k):w.cell? (g,7)=some (.int .i64 6)/\w.cell? (g,8)=some (.int .i64 2)/\w.cell? (g,9)=some (.int .i64 4):=⟨h.bk.cell 7 _ rfl,h.bk.cell 8 _ rfl,h.bk.cell 9 _ rfl⟩
theorem bQ.fz(h:bQ F w g a k)(i:Nat):w.frozen? (g,i)=false:=h.bk.frozen i
theorem bQ.p7(h:bQ F w g a k)(hi:i<8):∃v:Int,w.cell? (g,11+i)=some (.int .i64 v):=by
 have hl:=h.al;refine⟨a.al[i]'(by omega),h.bk.cell (11+i) _ ?_⟩;rw[aaR,kL,aaJ aT,aaV bT];simp[show 11+i - 11=i by omega,hl,hi]
theorem bQ.Au(h:bQ F w g a k)(hi:i<8):∃v:Int,w.cell? (g,19+i)=some (.int .i64 v)/\a.bd.getD i 0=v:=by
 have hl:=h.al;have hm:=h.bd;refine⟨a.bd[i]'(by omega),h.bk.cell (19+i) _ ?_,by simp[hm,hi]⟩;rw[aaR,kL,aaJ bT,aaJ bT];simp[hl,hm,hi,show 19+i - 11 - 8=i by omega]
theorem bQ.bound(h:bQ F w g a k)(hi:i<8):∃v:Int,w.cell? (g,19+i)=some (.int .i64 v):=by
 obtain⟨v,h1,_⟩:=h.Au hi;exact⟨v,h1⟩
theorem bQ.store(h:bQ F w g a k)(i:Nat)(hi:11<=i/\i<27)(v:Int):(∃a',bQ F (w.setCell (g,i) v) g a' k)/\Kp F w (w.setCell (g,i) v):=by
 obtain⟨G,b,back⟩:=h.o.use 0 _ rfl;have hl:=h.al;have hm:=h.bd;by_cases c:i<19
 .obtain⟨b1,b2⟩:=back (PB g 64 (kL {a with al:=a.al.set (i - 11) v}).toArray) _ (b.set i (.int .i64 v) (by
   rw[Zx];congr 1
   unfold kL;rw[aaQ _ _ bT,acA _ _ bT,ab6];simp)).1 (b.set i (.int .i64 v) rfl).2
  exact⟨⟨_,b1,by simp[hl],hm,h.ln,h.pp⟩,b2⟩
 .obtain⟨b1,b2⟩:=back (PB g 64 (kL {a with bd:=a.bd.set (i - 19) v}).toArray) _ (b.set i (.int .i64 v) (by
   rw[Zx];congr 1
   unfold kL;rw[aaQ _ _ bT,aaQ _ _ bT,ab6];simp[hl,show i - 11 - 8=i - 19 by omega])).1 (b.set i (.int .i64 v) rfl).2
  exact⟨⟨_,b1,hl,by simp[hm],h.ln,h.pp⟩,b2⟩
theorem bQ.fr(h:bQ F w g a k):∃G,C2 G w a.gf k.f/\(∀(f:dX) (w':aA),C2 G w' a.gf f->Kp G w w'->bQ F w' g a {k with f:=f}/\Kp F w w'):=by
 obtain⟨G,c,back⟩:=h.o.use 1 _ rfl;exact⟨G,c,λf w' b k'=>⟨⟨(back (TH a.gf f) w' b k').1,h.al,h.bd,h.ln,h.pp⟩,(back (TH a.gf f) w' b k').2⟩⟩
theorem bQ.tb(h:bQ F w g a k):∃G,jK G w a.gt k.t/\(∀(t:List En) (w':aA),jK G w' a.gt t->Kp G w w'->bQ F w' g a {k with t:=t}/\Kp F w w'):=by
 obtain⟨G,c,back⟩:=h.o.use 2 _ rfl;exact⟨G,c,λf w' b k'=>⟨⟨(back (Kh a.gt f) w' b k').1,h.al,h.bd,h.ln,h.pp⟩,(back (Kh a.gt f) w' b k').2⟩⟩
theorem bQ.cp(h:bQ F w g a k):∃G,eG G w a.gc k.c/\(∀(c:Cf) (w':aA),eG G w' a.gc c->Kp G w w'->bQ F w' g a {k with c:=c}/\Kp F w w'):=by
 obtain⟨G,d,back⟩:=h.o.use 3 _ rfl;exact⟨G,d,λf w' b k'=>⟨⟨(back (TY a.gc f) w' b k').1,h.al,h.bd,h.ln,h.pp⟩,(back (TY a.gc f) w' b k').2⟩⟩
theorem bQ.ir(h:bQ F w g a k):∃G,Ir G w a.gi a.iq a.ln/\(∀(L:List Ln) (w':aA),L.length=a.ln.length->Ir G w' a.gi a.iq L->Kp G w w'->bQ F w' g {a with ln:=L} k/\Kp F w w'):=by
 obtain⟨G,c,back⟩:=h.o.use 4 _ rfl;exact⟨G,c,λL w' d b k'=>⟨⟨(back (ZL a.gi a.iq L) w' b k').1,h.al,h.bd,(by show L.length=2;rw[d];exact h.ln),h.pp⟩,(back (ZL a.gi a.iq L) w' b k').2⟩⟩
theorem bQ.rw(h:bQ F w g a k):∃G,uM G w a.gr/\(∀(w':aA),uM G w' a.gr->Kp G w w'->bQ F w' g a k/\Kp F w w'):=by
 obtain⟨G,c,back⟩:=h.o.use 5 _ rfl;exact⟨G,c,λw' b k'=>⟨⟨(back (Jq a.gr) w' b k').1,h.al,h.bd,h.ln,h.pp⟩,(back (Jq a.gr) w' b k').2⟩⟩
theorem bQ.bo(h:bQ F w g a k):∃G,uZ G w a.gb k.b k.v/\(∀(b:List Nt) (v:List Vc) (w':aA),uZ G w' a.gb b v->Kp G w w'->bQ F w' g a {k with b:=b,v:=v}/\Kp F w w'):=by
 obtain⟨G,d,back⟩:=h.o.use 6 _ rfl;exact⟨G,d,λb v w' c k'=>⟨⟨(back (TK a.gb b v) w' c k').1,h.al,h.bd,h.ln,h.pp⟩,(back (TK a.gb b v) w' c k').2⟩⟩
theorem bQ.sd(h:bQ F w g a k):∃G,lS G w a.gs k.s/\(∀(s:Sd) (w':aA),lS G w' a.gs s->Kp G w w'->bQ F w' g a {k with s:=s}/\Kp F w w'):=by
 obtain⟨G,c,back⟩:=h.o.use 7 _ rfl;exact⟨G,c,λf w' b k'=>⟨⟨(back (Ca a.gs f) w' b k').1,h.al,h.bd,h.ln,h.pp⟩,(back (Ca a.gs f) w' b k').2⟩⟩
theorem bQ.wh(h:bQ F w g a k):∃G,BM G w a.gw k.n/\(∀(n:Nat) (w':aA),BM G w' a.gw n->Kp G w w'->bQ F w' g a {k with n:=n}/\Kp F w w'):=by
 obtain⟨G,c,back⟩:=h.o.use 8 _ rfl;exact⟨G,c,λf w' b k'=>⟨⟨(back (Q1 a.gw f) w' b k').1,h.al,h.bd,h.ln,h.pp⟩,(back (Q1 a.gw f) w' b k').2⟩⟩
end
variable{k:Kv}{n m:Nat}
section
structure KI(k:Kv)(n:Nat):Prop where
 sd:gQ k.s
 p4:k.s.P.length=4
 cn:0<=k.c.n/\k.c.n<=n
 tl:k.t.length<=16
 tu:qD k.t
 bb:∀x∈k.b,(0<=x.dM/\x.dM<4)/\0<=x.eY/\x.eY<6
 bu:k.b.Pairwise λx y=>¬(x.dM=y.dM/\x.eY=y.eY)
 f6:k.f.n=6
 an:k.n<=n
theorem KI.mono(h:KI k n)(hm:n<=m):KI k m:=⟨h.sd,h.p4,⟨h.cn.1,by have:=h.cn.2;omega⟩,h.tl,h.tu,h.bb,h.bu,h.f6,aaC h.an hm⟩
theorem KI.p8(h:KI k n):k.s.P.length<=8:=by have:=h.p4;omega
def nY(e:Int):Bool:=decide (0<=e/\e<4)
def dL(k:Kv)(e:Int):Kv:=if nY e then {k with s:=jY k.s e true} else k
def FM(t:List En)(e o:Int):List En:=t.filter λx=>!(decide (x.frame=o/\x.env=e))
def xX(t:List En)(p:cM):List En:=if p.h.kd=1 then FM t p.e p.h.ob else t
def iF(t:List En)(l:List cM):List En:=l.foldl xX t
def rK(o:Int)(p:cM):Option Int:=if p.h.kd=1/\p.h.ob=o then some p.s else none
def eK(k:Kv)(e o:Int):List Int:=(sV k.c e).filterMap (rK o)
def kY(k:Kv)(o:Int):Bool:=(List.range 8).any λe=>decide (0<(eK k (e:Nat) o).length)
def qP(L:List Nt)(o:Int):Nat->List Nt
 |0=>L
 |n+1=>qH (qP L o n) (n:Nat) o
def FP(k:Kv)(o:Int)(L:List cM):Kv:={k with c:=gZ k.c (L.filter (nU 1 o)),t:=iF k.t (L.filter (nU 1 o)),b:=qP k.b o 8,f:=tZ k.f o}
def kC(k:Kv)(o:Int)(k':Kv):Prop:=∃L,L.Perm (lC k.c)/\k'=FP k o L
def iR(k:Kv)(num:Int)(self:Bool)(L:List cM):Kv:={k with c:=gZ k.c (cP num self L).2,t:=iF k.t (cP num self L).2}
def xI(k:Kv)(L:List cM):Prop:=L.Perm (lC k.c)/\L.Pairwise λx y=>x.h.nu<=y.h.nu
inductive fX:List cM->Kv->Kv->Prop
 |nil (k:Kv):fX [] k k
 |skip {p:cM} {l:List cM} {k k':Kv} (h:¬(p.h.kd=1/\kY k p.h.ob=false/\dH k.f p.h.ob=true)) (r:fX l k k'):fX (p::l) k k'
 |gI {p:cM} {l:List cM} {k k1 k':Kv} (h:p.h.kd=1/\kY k p.h.ob=false/\dH k.f p.h.ob=true) (r1:kC k p.h.ob k1) (r:fX l k1 k'):fX (p::l) k k'
inductive iZ (e:Int):List Int->Kv->Kv->Prop
 |nil (k:Kv):iZ e [] k k
 |no {s:Int} {l:List Int} {k k':Kv} (h:eO k.c e s=none) (r:iZ e l k k'):iZ e (s::l) k k'
 |drop {s:Int} {l:List Int} {k k':Kv} {i:Nat} (h:eO k.c e s=some i) (L:List cM) (hL:xI k L) (r:iZ e l (iR k (bJ k.c i).nu true L) k'):iZ e (s::l) k k'
inductive nH (e o:Int) (k k':Kv):Prop
 |no (h:eK k e o= []) (h':k'=k)
 |keep (h:eK k e o≠[]) (r:iZ e (eK k e o) k k') (h2:kY k' o=true)
 |gI (h:eK k e o≠[]) {k1:Kv} (r:iZ e (eK k e o) k k1) (h2:kY k1 o=false) (r2:kC k1 o k')
def dQ(k:Kv)(l:List Int):Kv:=l.foldl dL k
inductive kA:List Nt->Kv->Kv->Prop
 |nil (k:Kv):kA [] k k
 |cons {x:Nt} {l:List Nt} {k k1 k':Kv} (r1:nH x.dM x.eY k k1) (r:kA l (dL k1 x.dM) k'):kA (x::l) k k'
def kQ(k k':Kv):Prop:=∃(l1 l2:List Int) (T:List Nt) (k2:Kv),T.Perm (lO 0 (k.b.filter λx=>decide (x.dD<=k.s.nw)))/\
 kA T {dQ k l1 with b:=k.b.filter λx=>decide (k.s.nw<x.dD),v:=T.foldl mQ k.v} k2/\k'=dQ k2 l2
def gX(k:Kv)(e o gr:Int):Int×Kv:=
 if !(nY e)\/o<0\/6<=o then(1,k) else if eK k e o= [] then(23,k) else
 if(gT k.b e o k.s.nw gr).1≠0 then((gT k.b e o k.s.nw gr).1,k) else(0,dL {k with b:=(gT k.b e o k.s.nw gr).2} e)
def lH(k:Kv)(e s:Int):Int×Int×Kv:=
 if 16<=s then(0,1,k) else if(mH k.c e s).isSome then(0,7,k) else match jH k.f with
 |none=>(0,20,{k with f:=fQ k.f})
 |some i=>if(cY k.c e s 1 i 15 0).1≠0 then(0,(cY k.c e s 1 i 15 0).1,{k with f:=fQ k.f,c:=(cY k.c e s 1 i 15 0).2}) else(i,0,{k with f:=fQ k.f,c:=(cY k.c e s 1 i 15 0).2})
def rH(k:Kv)(e s E:Int)(k':Kv):Prop:=match jI k.c e s 1 8 with
 |none=>E=23/\k'=k
 |some h=>E=0/\kC k h.ob k'
def CM(k:Kv)(e s at_:Int):Int×Int:=match jI k.c e s 1 1 with
 |none=>(0,23)
 |some h=>(if fL k.f h.ob at_≠0 then 0 else IntKind.u64.wrap (rO k.f h.ob at_),fL k.f h.ob at_)
def nZ(k:Kv)(e s at_ v:Int):Int×Kv:=match jI k.c e s 1 2 with
 |none=>(23,k)
 |some h=>if 255<v then(1,k) else(fL k.f h.ob at_,{k with f:=iW k.f h.ob at_ (v%256)})
def mP(k:Kv)(e s pg wr:Int):Int×Kv:=if 1<wr then(1,k) else match jI k.c e s 1 (if wr=1 then 3 else 1) with
 |none=>(23,k)
 |some h=>(if lG ⟨e,pg,h.ob,decide (wr=1)⟩ then 0 else 1,{k with t:=xK k.t ⟨e,pg,h.ob,decide (wr=1)⟩})
def OV(t:List En)(e pg:Int):List En:=t.filter λx=>!(decide (x.env=e/\x.cN=pg))
def wC(k:Kv)(e s E:Int)(k':Kv):Prop:=match eO k.c e s with
 |none=>E=23/\k'=k
 |some i=>E=0/\∃L,xI k L/\fX (cP (bJ k.c i).nu true L).2 (iR k (bJ k.c i).nu true L) k'
def pV(k:Kv)(e s E:Int)(k':Kv):Prop:=match rY k.c e s with
 |none=>E=23/\k'=k
 |some i=>E=0/\∃L,xI k L/\k'=iR k (bJ k.c i).nu false L
def gS(k:Kv)(e op A B C D E:Int)(k':Kv):Prop:=
 if op=7 then(E,k')=((gU k.c e A e B C 0).1,{k with c:=(gU k.c e A e B C 0).2})
 else if op=8 then(if nY B then(E,k')=((gU k.c e A B C D 4).1,{k with c:=(gU k.c e A B C D 4).2}) else E=1/\k'=k)
 else if op=9 then pV k e A E k' else wC k e A E k'
def mR(k:Kv)(e op C D E:Int)(k':Kv):Prop:=
 if op=15 then E=yS k.s e C D/\k'={k with s:=qN k.s e C D}
 else if op=16 then E=yX k.s e/\k'={k with s:=r6 k.s e}
 else k'=k\/k'={k with s:=jY k.s e false}
inductive lF (k:Kv) (e op A B C D:Int):Int->Int->Kv->Prop
 |alloc (h:op=1):lF k e op A B C D (lH k e A).1 (lH k e A).2.1 (lH k e A).2.2
 |free (h:op=2) {E:Int} {k':Kv} (r:rH k e A E k'):lF k e op A B C D 0 E k'
 |read (h:op=3):lF k e op A B C D (CM k e A B).1 (CM k e A B).2 k
 |write (h:op=4):lF k e op A B C D 0 (nZ k e A B C).1 (nZ k e A B C).2
 |load (h:op=5):lF k e op A B C D 0 (mP k e A B C).1 (mP k e A B C).2
 |yR (h:op=6) {E:Int}:lF k e op A B C D 0 E {k with t:=OV k.t e A}
 |hand (h:7<=op/\op<=10) {E:Int} {k':Kv} (r:gS k e op A B C D E k'):lF k e op A B C D 0 E k'
 |line (h:11<=op/\op<=13) {E:Int}:lF k e op A B C D 0 E k
 |p7 (h:op=14) {E:Int} {m:Nat} (hm:k.n<=m/\m<=k.n+1):lF k e op A B C D 0 E {k with n:=m}
 |time (h:op=15\/op=16\/op=19) {E:Int} {k':Kv} (r:mR k e op C D E k'):lF k e op A B C D 0 E k'
 |send (h:op=17) {E:Int} {k':Kv} (r:k'=k\/∃o,k'=dL k o):lF k e op A B C D 0 E k'
 |next (h:op=18) {N E:Int} (hN:0<=N/\N<18446744073709551616):lF k e op A B C D N E k
 |null (h:op=0):lF k e op A B C D 0 0 k
end
variable{F:Nat->Prop}{w:aA}{g:Nat}
section
theorem BO{a:Ka}(h:bQ F w g a k)(e:Int):aG prog 103 #[.pointer g,e] w λr w'=>r= .returned (.bool (nY e))/\w=w':=by
 obtain⟨_,_,c9⟩:=h.LO;clear h;by_cases c:e<0
 .have b:aH (nY e=false):=by unfold aH nY;simp;omega
  go_enter func103,ntmps103
  go_wp2_with fail
  go_ret
  rw[b.o];exact⟨rfl,rfl⟩
 .have h1:0<=e:=aQ;clear c;by_cases d:e<4
  .have b:aH (nY e=true):=by unfold aH nY;simp;omega
   go_enter func103,ntmps103
   go_wp2_with fail
   go_ret
   rw[b.o];exact⟨rfl,rfl⟩
  .have b:aH (nY e=false):=by unfold aH nY;simp;omega
   go_enter func103,ntmps103
   go_wp2_with fail
   go_ret
   rw[b.o];exact⟨rfl,rfl⟩
def EX(a:Ka)(i:Int):Int:=if 0<=i/\i<2 then a.bd.getD i.toNat 0 else -1
theorem B8{a:Ka}(h:bQ F w g a k)(i:Int):aG prog 110 #[.pointer g,i] w λr w'=>r= .returned (.int .i64 (EX a i))/\w=w':=by
 obtain⟨_,c8,_⟩:=h.LO;by_cases c:i<0
 .have b:aH (EX a i= -1):=by unfold aH EX;rw[aaA aQ]
  clear h;go_enter func110,ntmps110
  go_wp2_with fail
  go_ret
  rw[b.o];exact⟨rfl,rfl⟩
 .by_cases d:2<=i
  .have b:aH (EX a i= -1):=by unfold aH EX;rw[aaA aQ]
   clear h;go_enter func110,ntmps110
   go_wp2_with fail
   go_ret
   rw[b.o];exact⟨rfl,rfl⟩
  .obtain⟨n,rfl⟩:=aaB (show 0<=i by omega);obtain⟨v,e,hd⟩:=h.Au (i:=n) aQ;have b:aH (EX a n=v):=by unfold aH EX;rw[Zz aQ,aaG];exact hd
   have n8:(n:Int)<8:=aQ;clear h hd;go_enter func110,ntmps110
   go_wp2_with fail
   go_ret
   rw[b.o];exact⟨rfl,rfl⟩
def gJ(F:Nat->Prop)(g:Nat)(k:Kv)(v:aC)(w:aA)(e:aM)(w':aA):Prop:=e= .returned v/\KM F w' g k/\Kp F w w'
theorem MR{a:Ka}(h:bQ F w g a k)(i v:Int):aG prog 194 #[.pointer g,i,v] w (gJ F g k (.tuple #[]) w):=by
 obtain⟨_,c8,_⟩:=h.LO;by_cases b:0<=i/\i<2
 .obtain⟨n,rfl⟩:=aaB b.1;have n8:(n:Int)<2:=b.2;obtain⟨u,hu⟩:=h.bound (i:=n) aQ;have f0:=h.fz (19+n);have c:aH (gJ F g k (.tuple #[]) w (.returned (.tuple #[])) (w.setCell (g,19+n) v)):=⟨rfl,(h.store (19+n) aQ v).1,(h.store (19+n) aQ v).2⟩
  clear h b;go_enter func194,ntmps194
  go_wp2_with fail
  go_end0
  exact c.o
 .have c:aH (gJ F g k (.tuple #[]) w (.returned (.tuple #[])) w):=⟨rfl,⟨a,h⟩,Kp.refl _ _⟩
  clear h;by_cases h1:i<0
  .go_enter func194,ntmps194
   go_wp2_with fail
   go_end0
   exact c.o
  .have d:0<=i:=aQ;have e:¬i<2:=aQ;clear b h1;go_enter func194,ntmps194
   go_wp2_with fail
   go_end0
   exact c.o
theorem tO{a:Ka}(h:bQ F w g a k)(W:k.s.P.length<=8)(e kd x b:Int)(hk:1<=kd/\kd<=8):
 aG prog 83 #[.pointer g,e, .agg #[kd,x, .int .u64 b]] w λr w'=>∃v:Int,r= .returned (.int .i64 v)/\bQ F w' g a (dL k e)/\Kp F w w':=by
 have fl:=h.fl;have h1:=(bQ.cD g a k).box h fl (aI #[kd,x, .int .u64 b] 248);have z:=fl.below (aX w (aI #[kd,x, .int .u64 b] 248));have C:=bF.new w 248 #[kd,x, .int .u64 b];have A:=aP (BO h1 e);have H1:=bN h1 z;have D:=aP (λ(w':aA) (k':Kv) (I:bQ (Fb F w) w' g a k')=>dN.less (bQ.cD g a k') I (λb hb=>I.fl b (.inl hb)));by_cases he:0<=e/\e<4
 .have E:aH (dL k e={k with s:=jY k.s e true}):=by unfold aH dL nY;rw[Zz (by simpa using he)]
  have m:aH (nY e=true):=by unfold aH nY;simpa using he
  rw[m.o] at A;clear h h1 z fl;go_enter func83,ntmps83
  go_upto_region 1 with(fail)
  generalize w.alloc (aI #[kd,x, .int .u64 b] 248)=w1 at *;generalize w.heap.size=q1 at *;go_wp2_with fail
  refine aR A ?_;rintro r J ⟨rfl,rfl⟩;obtain⟨G,hs,back⟩:=H1.o.1.sd;have ps:=H1.o.1.ps;have L:=aP (wP hs W e true);have n:=aP back;clear hs back;unfold pA at ps;go_wp2_with fail
  refine aR L ?_;rintro r J ⟨rfl,p,q⟩;obtain⟨M,H⟩:=n.o _ _ p q;have B:=bN M (H1.o.2.trans H.unbox);have c:=H.aY C (.inr rfl);clear M H p q n L C H1;have pr:=B.o.1.pr;unfold pA at pr;have X:=c.cell 0 kd rfl;have Y:=c.cell 1 x rfl;have Z:=c.cell 2 (.int .u64 b) rfl;go_upto_region 6 with(fail)
  have f:=bD pr;have i:=bD X;have j:=bD Y;have l:=bD Z;refine bO (bS _) (λ_=>bS) [] (λ_ _ _=>True) [6,7] [] 26 (bY _) (λ_ _ _ h N=>bU h N) (λ_ d hd _ v w w' _ h N=>by cases hd) aV aV bL ?_;repeat refine eA ?_
  refine dC ?_;intro γ w5 hb5 hT;clear f i j l;simp only[cO,Act.put,Zx,aaE,aaD];refine dP ?_;obtain⟨O,Q⟩:=B.o.1.below hb5;obtain⟨G,R,back⟩:=O.rw;have S:=aP (OD R e aQ kd x b hk);have n:=aP back;have T:=aP (B.o.2.trans Q.unbox);clear R back O Q hb5 hT B c;refine wpList_plain rfl (λK hK=>?_);go_wp2_with fail
  refine aR S ?_;rintro r w6 ⟨v,rfl,t,u⟩;obtain⟨U,V⟩:=n.o _ t u;have y:=bN (D.o _ _ U) (T.o.trans V.unbox);clear U V t u n S T;refine hK _ _ ?_;clear hK K;refine wpList_plain rfl (λK hK=>?_);go_simp
  refine hK _ _ ?_;clear hK K;refine cI ?_;try refine dE ?_
  go_wp2_with fail
  go_ret
  rw[E.o];exact⟨v,rfl,y.o.1,y.o.2⟩
 .have E:aH (dL k e=k):=by unfold aH dL nY;rw[aaA (by simpa using he)]
  have m:aH (nY e=false):=by unfold aH nY;simpa using he
  rw[m.o] at A;have y:=bN (D.o _ _ h1) z;clear h h1 z fl C H1 D;go_enter func83,ntmps83
  go_upto_region 1 with(fail)
  generalize w.alloc (aI #[kd,x, .int .u64 b] 248)=w1 at *;go_wp2_with fail
  refine aR A ?_;rintro r J ⟨rfl,rfl⟩;go_wp2_with fail
  go_ret
  rw[E.o];exact⟨1,rfl,y.o.1,y.o.2⟩
end
section
def Jz(L:List Int)(w:aA)(e:aM)(w':aA):Prop:=∃A c,e= .returned (.slice A L.length c)/\bI eI 1 w' w.heap.size 3 A c L/\aD w w w'
theorem VR(o:Int)(L:List cM)(p:cM):(L++ [p]).filterMap (rK o)=L.filterMap (rK o)++(if p.h.kd=1/\p.h.ob=o then [p.s] else []):=by
 rw[acG];congr 1
 simp only[aeL,List.filterMap_nil,rK];split
 .rename_i h;split at h
  .cases h
  .rename_i a;rw[aaA a]
 .rename_i h;split at h
  .rename_i a;injection h with h;rw[Zz a,h]
  .cases h
theorem B7{a:Ka}(h:bQ F w g a k)(e o:Int):aG prog 104 #[.pointer g,e,o] w (Jz (eK k e o) w):=by
 obtain⟨G,hc,_⟩:=h.cp;have Y:=aP (PN hc e);have Q:=DS k.c e;have pc:=h.pc;unfold eK;generalize sV k.c e=L at *;generalize a.gc=gc at *;clear h hc;unfold pA at pc;go_enter func104,ntmps104
 go_wp2_with fail
 refine aR Y ?_;rintro x K ⟨A,c,rfl,own,D⟩;obtain⟨n,M⟩:∃n,n=L.length:=⟨_,rfl⟩
 have C:=dA M own D;rw[<-M];rw[<-M] at Q;clear M own D pc Y;go_wp2_with fail
 go_loopw [7,17] (λv7 v17 wr=>∃(i m:Nat) (u:Option Addr) (c2:Nat) (R:List Int),v17= .int .i64 i/\v7= .slice u m c2/\i<=n/\m<=i/\aH (m=R.length/\R=(L.take i).filterMap (rK o)/\bI eI 1 wr K.heap.size 3 u c2 R/\aD K K wr)) (λ_ v17 _=>n - (aL v17).toNat)
 case atStart=>exact⟨0,0,none,0, [],rfl,rfl,aaH _,Zw _,rfl,rfl,bI.nil _ _ _,Below.refl _ _⟩
 case round=>
  obtain⟨i,m,u,c2,R,rfl,rfl,hi,hm,l⟩:=hrel;by_cases S:i<n
  .have b:i<L.length:=by rw[<-C.o.1];exact S
   have z:=C.o.2.1.keep l.o.2.2.2;obtain⟨q,rfl⟩:∃q,A=some ⟨q,0,none⟩:=by
    rcases z.shape with⟨_,T,_⟩|T
    .rw[T] at b;simp at b
    .exact T
   have Z:=bM fV z b (j:=0) (v:= .int .i64 L[i].e) rfl;have e1:=bM fV z b (j:=1) (v:= .int .i64 L[i].s) rfl;have e2:=bM fV z b (j:=2) (v:= .int .i64 L[i].h.kd) rfl;have e3:=bM fV z b (j:=3) (v:= .int .i64 L[i].h.ob) rfl;have e4:=bM fV z b (j:=4) (v:= .int .i64 L[i].h.rt) rfl;rw[aaU] at Z;have k0:(0:Int)<=i:=aQ;have k1:(i:Int)<(n:Int):=aQ;clear z;have E:L.take (i+1)=L.take i++ [L[i]]:=by rw[abE,Zv b];rfl
   have f:aH ((L.take (i+1)).filterMap (rK o)=R++(if L[i].h.kd=1/\L[i].h.ob=o then [L[i].s] else [])):=by unfold aH;rw[E,VR,<-l.o.2.1]
   clear E;generalize L[i]=y at *;obtain⟨N,p,r,B,O,y6,y7⟩:=y;simp only at Z e1 e2 e3 e4 f;have HB:=l.o.2.2.2.alloc l.o.2.2.2.size (aI #[N,p,r,B,O] 156);have HW:=l.o.2.2.1.alloc (aI #[N,p,r,B,O] 156);have d:=bN HB HW;clear HB HW;by_cases hc:r=1
   .by_cases hd:B=o
    .have H:aH ((L.take (i+1)).filterMap (rK o)=R++ [p]):=by unfold aH;rw[f.o,Zz ⟨hc,hd⟩]
     clear f;have I:(r==1)=true:=by simp[hc]
     have U:(B==o)=true:=by simp[hd]
     clear hc hd;have V:aH (K.heap.size<=(wr.alloc (aI #[N,p,r,B,O] 156)).heap.size):=d.o.1.size;go_wp2_with(at_builtin;refine bP _ rfl _ _ rfl Tg gK (d.o.2.alloc _) (n:=m) l.o.1.symm rfl (m:=1) rfl (ys:= [p]) rfl (Sl.fI gK (wr.alloc (aI #[N,p,r,B,O] 156)) p _ rfl _ aT) dI aQ (aaC V.o aT) _ rfl (m+1) rfl ?_;intro A9 c9 w9 t J W;(have P:=aP (And.intro t (K0 (d.o.1.alloc d.o.1.size _) J (λq hq=>(l.o.2.2.1.lt q hq).1))));clear t J W)
     go_roundw
     case rel=>exact⟨i+1,m+1,A9,c9,R++ [p],by go_num,rfl,aQ,aQ,by rw[aaM,<-l.o.1];rfl,H.o.symm,P.o.1,P.o.2⟩
     case measure=>simp[aL];omega
    .have H:aH ((L.take (i+1)).filterMap (rK o)=R):=by unfold aH;rw[f.o,aaA (λh=>hd h.2),ac7]
     clear f;have I:(r==1)=true:=by simp[hc]
     have U:(B==o)=false:=by simp[hd]
     clear hc hd;go_wp2_with fail
     go_roundw
     case rel=>exact⟨i+1,m,u,c2,R,by go_num,rfl,aQ,aQ,l.o.1,H.o.symm,d.o.2,d.o.1⟩
     case measure=>simp[aL];omega
   .have H:aH ((L.take (i+1)).filterMap (rK o)=R):=by unfold aH;rw[f.o,aaA (λh=>hc h.1),ac7]
    clear f;have I:(r==1)=false:=by simp[hc]
    clear hc;go_wp2_with fail
    go_roundw
    case rel=>exact⟨i+1,m,u,c2,R,by go_num,rfl,aQ,aQ,l.o.1,H.o.symm,d.o.2,d.o.1⟩
    case measure=>simp[aL];omega
  .obtain rfl:i=n:=aQ;have k1:¬(i:Int)<(i:Int):=aQ;have X:R=L.filterMap (rK o):=by rw[l.o.2.1,aaS (by rw[<-C.o.1];exact Zw _)]
   have P:aH (Jz (L.filterMap (rK o)) w (.returned (.slice u m c2)) wr):=⟨u,c2,by rw[<-X,<-l.o.1],by rw[<-X];exact l.o.2.2.1.from_ C.o.2.2.size,C.o.2.2.trans (l.o.2.2.2.mono C.o.2.2.size)⟩
   clear X;go_wp2_with fail
   go_ret
   exact P.o
theorem Rq{o:Int}(hi:i<8)(h:0<(eK k (i:Nat) o).length):kY k o=true:=by
 unfold kY;rw[adR];exact⟨i,ab1.2 hi,by simpa using h⟩
theorem Rb{o:Int}(h:∀i:Nat,i<8->¬0<(eK k (i:Nat) o).length):kY k o=false:=by
 unfold kY;rw[List.any_eq_false];intro i hi;have:=h i (ab1.1 hi);simpa using this
theorem PZ{a:Ka}(h:bQ F w g a k)(o:Int):aG prog 151 #[.pointer g,o] w λe w'=>e= .returned (.bool (kY k o))/\aD w w w':=by
 have u:=aP h;clear h;go_enter func151,ntmps151
 go_wp2_with fail
 go_loopw [6] (λv6 wr=>∃i:Nat,v6= .int .i64 i/\i<=8/\aH ((∀j:Nat,j<i->¬0<(eK k (j:Nat) o).length)/\aD w w wr)) (λv6 _=>8 - (aL v6).toNat)
 case atStart=>exact⟨0,rfl,aQ,λj l=>absurd l (acH _),Below.refl _ _⟩
 case round=>
  obtain⟨i,rfl,hi,b⟩:=hrel;by_cases m:i<8
  .have B:(i:Int)<8:=aQ;have r:=aP (B7 (u.o.below b.o.2).1 (i:Nat) o);have v:aH (∀j:Nat,j<i+1->(∀j:Nat,j<i->¬0<(eK k (j:Nat) o).length)->¬0<(eK k (i:Nat) o).length->¬0<(eK k (j:Nat) o).length):=λj l h1 y=>by
    by_cases he:j=i
    .rw[he];exact y
    .exact h1 j aQ
   have z:aH (0<(eK k (i:Nat) o).length->kY k o=true):=Rq m;generalize eK k (i:Nat) o=L at *;go_wp2_with fail
   refine aR r ?_;rintro x C ⟨A,c,rfl,own,hb⟩;clear own;have s:=aP (b.o.2.trans (hb.mono b.o.2.size));clear hb r;obtain⟨n,p⟩:∃n,n=L.length:=⟨_,rfl⟩
   rw[<-p];have d:=aP p;clear p;by_cases t:0<n
   .have q:(0:Int)<(n:Int):=aQ;have f:aH (kY k o=true):=z.o (by rw[<-d.o];exact t);go_wp2_with fail
    go_ret
    rw[f.o];exact⟨rfl,s.o⟩
   .have q:¬(0:Int)<(n:Int):=aQ;have f:aH (¬0<L.length):=by unfold aH;rw[<-d.o];exact t
    go_wp2_with fail
    go_roundw
    case rel=>exact⟨i+1,by go_num,aQ,λj l=>v.o j l b.o.1 f.o,s.o⟩
    case measure=>simp[aL];omega
  .obtain rfl:i=8:=aQ;have f:aH (kY k o=false):=Rb b.o.1;go_wp2_with fail
   go_ret
   rw[f.o];exact⟨rfl,b.o.2⟩
end
end
section
open Go.RowKit Go.Lib Go.Shelf dF
variable{sz q:Nat}{w:aA}{P:Program}
section
theorem aeR:∀(cur:Array aC) (o:Nat) (a:List aC) (j:Nat),j<o->(lay cur o a)[j]?=cur[j]?
 |_,_, [],_,_=>rfl
 |cur,o,v::r,j,hj=>by
  rw[lay,aeR _ (o+1) r j aQ,Array.getElem?_setIfInBounds_ne aQ]
theorem Dt{α:Type}{enc:α->List aC}{base:Nat}{e:TypeId}{c:Nat}{R:List α}(h:bI enc sz w base e q c R){o:Nat}(ho:R.length *sz<=o)(a:List aC):
 bI enc sz (w.setCells q o a) base e q c R/\w.grownBy (w.setCells q o a) (some q):=by
 obtain⟨cur,h1,b,d,f,g,i⟩:=eV h;refine⟨⟨h.1, .inr ⟨q,c,_,rfl,h1,iX q e a o w cur b,d,f,by rw[lay_size];exact g,?_⟩⟩,fJ q _ _ w w (bK w q)⟩;rw[<-i];apply adD;intro j;rw[aa7,aa7];split
 .rw[aaX,aaX];exact aeR cur o a j aQ
 .rfl
theorem MI(w:aA)(t e ty:TypeId)(z:aC)(f:P.underlying t=some (.slice e))(g:∀w,(zeroValue e).run P w= .ok z w)(n:Nat)(zs:List aC)(h:(Builtin.zeroCells z.cells (n+1)).toList=zs)(h1:∀u∈zs,u.oneCell'=true)(b o c:Nat)
 (hc:∀j,j<zs.length->(w.cell? ⟨b,o+j,none⟩).isSome=true/\w.frozen? ⟨b,o+j,none⟩=false):
 (Builtin.clear_ #[t] ty #[.slice (some ⟨b,o,none⟩) (n+1) c]).run P w= .ok (.tuple #[]) (w.setCells b o zs):=by
 have a:=run_storeCells_cells (P:=P) b o zs 0 w (λj d=>(hc j d).1) (λj d=>(hc j d).2) h1;simp only[aaU] at a;simp[Builtin.clear_,run_underlying f,g,h,a]
theorem Bu(n:Nat):∀u∈(Builtin.zeroCells (Value.agg #[aU,aU,aU,false]).cells n).toList,u.oneCell'=true:=by
 intro u hu;simp only[Builtin.zeroCells,Array.toList_map,acL] at hu;obtain⟨i,_,rfl⟩:=hu;have h:i%4=0\/i%4=1\/i%4=2\/i%4=3:=aQ;show(#[Value.int .i64 0,aU,aU,false][i%4]!).oneCell'=true;rcases h with h|h|h|h <;> rw[h] <;> rfl
theorem ZH(n:Nat):(Builtin.zeroCells (Value.agg #[aU,aU,aU,false]).cells n).toList.length=n *4:=by
 rw[ac6,size_zeroCells];rfl
structure R0(f:FuncId)(gz:En->Bool)(b1 b2:Nat)(v1 v2:aC):Prop where
 en:∀args w,(callFunc f args).run prog w= .ok (.enter f args) w
 run:∀(e:En) (w:aA),w.cell? (b1,0)=some v1->w.cell? (b2,0)=some v2->aG prog f #[.agg #[e.env,e.cN,e.frame,e.write], .pointer b1, .pointer b2] w λr w'=>r= .returned (.bool (gz e))/\aD w.heap.size w w'
namespace Df
def gz(a b:Int)(x:En):Bool:=decide (x.frame=b/\x.env=a)
theorem tH(a b:Int)(e:En)(b1 b2:Nat)(w:aA)(ha:0<=a)(c1:w.cell? (b1,0)=some (.int .i64 b))(c2:w.cell? (b2,0)=some (.int .i64 a)):
 aG prog 237 #[.agg #[e.env,e.cN,e.frame,e.write], .pointer b1, .pointer b2] w λr w'=>r= .returned (.bool (gz a b e))/\aD w w w':=by
 have h:=aX w (aI #[e.env,e.cN,e.frame,e.write] 396);have j:=aP h;replace c1:=bG h c1;replace c2:=bG h c2;clear h;obtain⟨r0,c⟩:∃r,gz a b e=r:=⟨_,rfl⟩
 rw[c];have k:=aP c;clear c;obtain⟨l,n,i,p⟩:=e;have a0:¬a<0:=aQ;by_cases h1:i=b
 .by_cases d:l=a
  .have f:aH (r0=true):=by unfold aH;rw[<-k.o];simp[gz,h1,d]
   have g:(i==b)=true:=by simp[h1]
   have m:(l==a)=true:=by simp[d]
   clear h1 d;go_enter func237,ntmps237
   go_wp2_with fail
   go_ret
   rw[f.o];exact⟨rfl,j.o⟩
  .have f:aH (r0=false):=by unfold aH;rw[<-k.o];simp[gz,h1,d]
   have g:(i==b)=true:=by simp[h1]
   have m:(l==a)=false:=by simp[d]
   clear h1 d;go_enter func237,ntmps237
   go_wp2_with fail
   go_ret
   rw[f.o];exact⟨rfl,j.o⟩
 .have f:aH (r0=false):=by unfold aH;rw[<-k.o];simp[gz,h1]
  have g:(i==b)=false:=by simp[h1]
  clear h1;go_enter func237,ntmps237
  go_wp2_with fail
  go_ret
  rw[f.o];exact⟨rfl,j.o⟩
theorem Tj(a b:Int)(ha:0<=a)(b1 b2:Nat):R0 237 (gz a b) b1 b2 (.int .i64 b) (.int .i64 a):=⟨enters_of func237 aV rfl,λe w=>tH a b e b1 b2 w ha⟩
end Df
namespace Dr
def gz(a b:Int)(x:En):Bool:=decide (x.env=a/\x.cN=b)
theorem tH(a b:Int)(e:En)(b1 b2:Nat)(w:aA)(c1:w.cell? (b1,0)=some (.int .i64 a))(c2:w.cell? (b2,0)=some (.int .i64 b)):
 aG prog 212 #[.agg #[e.env,e.cN,e.frame,e.write], .pointer b1, .pointer b2] w λr w'=>r= .returned (.bool (gz a b e))/\aD w w w':=by
 have h:=aX w (aI #[e.env,e.cN,e.frame,e.write] 396);have j:=aP h;replace c1:=bG h c1;replace c2:=bG h c2;clear h;obtain⟨r0,c⟩:∃r,gz a b e=r:=⟨_,rfl⟩
 rw[c];have k:=aP c;clear c;obtain⟨i,l,n,p⟩:=e;skip
 by_cases h1:i=a
 .by_cases d:l=b
  .have f:aH (r0=true):=by unfold aH;rw[<-k.o];simp[gz,h1,d]
   have g:(i==a)=true:=by simp[h1]
   have m:(l==b)=true:=by simp[d]
   clear h1 d;go_enter func212,ntmps212
   go_wp2_with fail
   go_ret
   rw[f.o];exact⟨rfl,j.o⟩
  .have f:aH (r0=false):=by unfold aH;rw[<-k.o];simp[gz,h1,d]
   have g:(i==a)=true:=by simp[h1]
   have m:(l==b)=false:=by simp[d]
   clear h1 d;go_enter func212,ntmps212
   go_wp2_with fail
   go_ret
   rw[f.o];exact⟨rfl,j.o⟩
 .have f:aH (r0=false):=by unfold aH;rw[<-k.o];simp[gz,h1]
  have g:(i==a)=false:=by simp[h1]
  clear h1;go_enter func212,ntmps212
  go_wp2_with fail
  go_ret
  rw[f.o];exact⟨rfl,j.o⟩
theorem Tj(a b:Int)(b1 b2:Nat):R0 212 (gz a b) b1 b2 (.int .i64 a) (.int .i64 b):=⟨enters_of func212 aV rfl,λe w=>tH a b e b1 b2 w⟩
end Dr
namespace Df
def AM(gz:En->Bool)(L:List En):Int:=match L.findIdx? (gz) with
 |some i=>(i:Int)
 |none=> -1
variable{L:List En}
theorem BX{gz:En->Bool}{k:Nat}(hk:k<L.length)(h:gz L[k]=true)(b:∀j,(a:j<k)->gz L[j]=false):AM gz L=k:=by
 unfold AM;rw[aaT.2 ⟨hk,h,λj a=>by rw[b j a];simp⟩]
theorem yL{gz:En->Bool}(h:∀j,(a:j<L.length)->gz L[j]=false):AM gz L= -1:=by
 unfold AM;rw[abH.2 (λx b=>by obtain⟨j,a,rfl⟩:=aa1 b;exact h j a)]
variable{f:FuncId}{v1 v2:aC}{b1 b2:Nat}
theorem tU{gz:En->Bool}(K:R0 f gz b1 b2 v1 v2)(w:aA)(A:Option Addr)(L:List En)(c:Nat)(hs:Sl eE 4 w A L)(hl:L.length<=1000)(c1:w.cell? (b1,0)=some v1)(c2:w.cell? (b2,0)=some v2):
 aG prog 274 #[(A,L.length,c), .func (.func f) #[] #[.pointer b1, .pointer b2]] w λe w'=>e= .returned (.int .i64 (AM gz L))/\aD w w w':=by
 have s:=K.en;go_enter func274,ntmps274
 go_wp2
 go_loopw [5,8] (λ_ p wr=>∃k:Nat,k<=L.length/\p= .int .i64 k/\aD w w wr/\aH (∀j,(a:j<L.length)->j<k->gz L[j]=false)) (λ_ i _=>L.length - (aL i).toNat)
 case atStart=>exact⟨0,aaH _,rfl,Below.refl _ w,λj a h=>absurd h (acH _)⟩
 case round=>
  obtain⟨k,hk,rfl,d,l⟩:=hrel;by_cases g:k<L.length
  .obtain⟨b,off,rfl,t,u,v,x⟩:=(hs.keep d).XG g;have z:(0:Int)<=k:=aQ;have B:(k:Int)<(L.length:Int):=aQ;have hc:=K.run L[k] wr (bG d c1) (bG d c2);have HQ:aH (gz L[k]=true->AM gz L=k):=λh=>BX g h (λj a=>l.o j aQ a)
   have q:aH (gz L[k]=false->∀j,(a:j<L.length)->j<k+1->gz L[j]=false):=λh j a r=>by
    by_cases he:j=k
    .subst he;exact h
    .exact l.o j a aQ
   clear l;generalize L[k]=y at *;cases hq:gz y with
   |true=>
    rw[hq] at hc;have m:=aP (HQ.o hq);go_wp2_with(go_at_fn (f);(with_reducible refine hc.mono ?_);rintro e w' ⟨rfl,hb⟩)
    go_ret
    exact⟨lT m.o.symm,fK d (Zw _) hb⟩
   |false=>
    rw[hq] at hc;have n:=aP (q.o hq);go_wp2_with(go_at_fn (f);(with_reducible refine hc.mono ?_);rintro e w' ⟨rfl,hb⟩)
    go_roundw
    case rel=>exact⟨k+1,aQ,by go_num,fK d (Zw _) hb,n.o⟩
    case measure=>simp[aL];omega
  .obtain rfl:k=L.length:=aQ;go_wp2
   go_ret
   exact⟨lT (yL (λj a=>l.o j a a)).symm,d⟩
def st(gz:En->Bool)(L:List En):List En:=L.filter λx=>!(gz x)
theorem Oj{gz:En->Bool}(h:L.findIdx? (gz)=none):st gz L=L:=by
 rw[abH] at h;exact List.filter_eq_self.2 λx a=>by rw[h x a];rfl
variable{i:Nat}
theorem Kr{gz:En->Bool}(h:L.findIdx? (gz)=some i):st gz (L.take (i+1))=L.take i:=by
 obtain⟨hi,h1,a⟩:=aaT.1 h;unfold st;rw[abE,Zv hi,acP];have b:(L.take i).filter (λx=>!(gz x))=L.take i:=List.filter_eq_self.2 λx c=>by
  obtain⟨j,d,rfl⟩:=aa1 c;rw[abJ] at d;rw[List.getElem_take];have:=a j aQ;simpa using this
 rw[b];simp[h1]
variable{j:Nat}
theorem T8{gz:En->Bool}(a:j<L.length):st gz (L.take (j+1))=st gz (L.take j)++(if gz L[j] then [] else [L[j]]):=by
 unfold st;rw[abE,Zv a,acP];cases h:gz L[j] <;> simp[h]
structure C0(gz:En->Bool)(L:List En)(w wr:aA)(base q c i j:Nat)(R:List En):Prop where
 len:R.length=L.length
 tk:R.take i=st gz (L.take j)
 dr:R.drop j=L.drop j
 o:bI eE 4 wr base 396 q c R
 g:w.grownBy wr (some q)
 il:i<j/\j<=L.length
variable{wr:aA}
theorem C0.at_{gz:En->Bool}{R:List En}{base c:Nat}(h:C0 gz L w wr base q c i j R)(b:j<L.length):∃a:j<R.length,R[j]=L[j]:=by
 have a:j<R.length:=by have:=h.len;omega
 refine⟨a,?_⟩;have:=congrArg (λl=>l[0]?) h.dr;simp only[abY,aaU] at this;rw[Zv a,Zv b] at this;exact Option.some.inj this
theorem C0.skip{gz:En->Bool}{L R:List En}{w wr w':aA}{base q c i j:Nat}(h:C0 gz L w wr base q c i j R)(a:j<L.length)(b:gz L[j]=true)(hb:aD wr wr w'):C0 gz L w w' base q c i (j+1) R:=by
 refine⟨h.len,?_,?_,h.o.keep hb,oR h.g hb,by have:=h.il;omega⟩
 .rw[T8 a,b,Zz rfl,ac7];exact h.tk
 .have:=congrArg (List.drop 1) h.dr;simpa[List.drop_drop] using this
variable{w':aA}
theorem C0.move{gz:En->Bool}{R:List En}{base c:Nat}(h:C0 gz L w wr base q c i j R)(b:j<L.length)(d:gz L[j]=false)(hb:aD wr wr w'):C0 gz L w (w'.setCells q (i *4) (eE L[j])) base q c (i+1) (j+1) (R.set i L[j]):=by
 have a:i<R.length:=by have:=h.il;have:=h.len;omega
 obtain⟨o1,o2⟩:=LL rM.len aQ (h.o.keep hb) a L[j];refine⟨by rw[aaL];exact h.len,?_,?_,o1,oV (oR h.g hb) o2,by have:=h.il;omega⟩
 .rw[T8 b,d,<-h.tk,abE,List.getElem?_set_self a,List.take_set_of_le (Zw _)];simp
 .rw[List.drop_set_of_lt (by have:=h.il;omega)];have:=congrArg (List.drop 1) h.dr;simpa[List.drop_drop] using this
def OY(gz:En->Bool)(L:List En)(q c base:Nat)(w:aA)(e:aM)(w':aA):Prop:=e= .returned (.slice q (st gz L).length c)/\bI eE 4 w' base 396 q c (st gz L)/\w.grownBy w' (some q)
theorem Eb{gz:En->Bool}(K:R0 f gz b1 b2 v1 v2)(w:aA)(q c base:Nat)(L:List En)(own:bI eE 4 w base 396 q c L)(hl:L.length<=1000)(H:b1≠q)(I:b2≠q)(c1:w.cell? (b1,0)=some v1)(c2:w.cell? (b2,0)=some v2):
 aG prog 247 #[.slice q L.length c, .func (.func f) #[] #[.pointer b1, .pointer b2]] w (OY gz L q c base w):=by
 have eg:=K.en;have a:=tU K w q L c (own.sl rM) hl c1 c2;have Z:=aP own;obtain⟨n,C⟩:∃n,n=L.length:=⟨_,rfl⟩
 have D:=aP C;rw[<-C] at a hl⊢;cases hf:L.findIdx? (gz) with
 |none=>
  have hp:AM gz L= -1:=by unfold AM;rw[hf]
  rw[hp] at a;have a:=aP a;have E:=aP (Oj hf);clear hf hp own C;go_enter func247,ntmps247
  go_wp2_with fail
  refine aR a ?_;rintro e w2 ⟨rfl,hb⟩;go_wp2_with fail
  go_ret
  unfold OY;rw[E.o];exact⟨by rw[D.o];rfl,Z.o.keep hb,oR (bK w q) hb⟩
 |some i=>
  have hp:AM gz L=(i:Int):=by unfold AM;rw[hf]
  rw[hp] at a;have a:=aP a;have hi:i<n:=by have:=(aaT.1 hf).1;omega
  have E:=aP (Kr hf);have r:aH (L.length<=c/\c<=maxLen):=by obtain⟨_,_,_,h3,h4,_,_⟩:=eV own;exact⟨h3,h4⟩
  clear hf hp C;go_enter func247,ntmps247
  go_wp2_with fail
  refine aR a ?_;rintro e w2 ⟨rfl,hb⟩;have s:aH (C0 gz L w w2 base q c i (i+1) L):=⟨rfl,E.o.symm,rfl,Z.o.keep hb,oR (bK w q) hb,aQ,by have:=D.o;omega⟩
  have i1:((i:Int)== -1)=false:=by rw[aeN];omega
  clear hb own E;go_wp2_with fail
  go_loopw [5,6] (λv5 v6 wr=>∃(i j:Nat) (R:List En),v5= .int .i64 i/\v6= .int .i64 j/\i<j/\j<=n/\aH (C0 gz L w wr base q c i j R)) (λ_ v6 _=>n - (aL v6).toNat)
  case atStart=>exact⟨i,i+1,L,rfl,by go_num,aQ,aQ,s⟩
  case round=>
   clear s;obtain⟨i,j,R,rfl,rfl,hij,hj,b⟩:=hrel;by_cases hlt:j<n
   .have h:j<L.length:=by have:=D.o;omega
    obtain⟨J,he⟩:=b.o.at_ h;have u:i<R.length:=aQ;obtain⟨y0,y1,y2,y3⟩:=DK b.o.o J;rw[he] at y0 y1 y2 y3;have M:wr.cell? (b1,0)=some v1:=by rw[World.cell?_of_block (w:=w) (b.o.g.block b1 (World.block_lt_of_cell? w _ c1) (λe=>H (by injection e)))];exact c1
    have N:wr.cell? (b2,0)=some v2:=by rw[World.cell?_of_block (w:=w) (b.o.g.block b2 (World.block_lt_of_cell? w _ c2) (λe=>I (by injection e)))];exact c2
    have F:=aX wr (aI #[.int .i64 L[j].env, .int .i64 L[j].cN, .int .i64 L[j].frame, .bool L[j].write] 396);have hc:=K.run L[j] _ (bG F M) (bG F N);have k:aH (gz L[j]=true->∀W,aD wr wr W->C0 gz L w W base q c i (j+1) R):=λO W hb=>b.o.skip h O hb
    have l:aH (gz L[j]=false->∀W,aD wr wr W->C0 gz L w (W.setCells q (i *4) (eE L[j])) base q c (i+1) (j+1) (R.set i L[j])):=λO W hb=>b.o.move h O hb
    have P:aH (∀W,aD wr wr W->(W.cell? (q,i *4)=some (.int .i64 R[i].env)/\W.cell? (q,i *4+1)=some (.int .i64 R[i].cN)/\W.cell? (q,i *4+2)=some (.int .i64 R[i].frame)/\W.cell? (q,i *4+3)=some (.bool R[i].write))/\W.frozen? (q,i *4)=false/\W.frozen? (q,i *4+1)=false/\W.frozen? (q,i *4+2)=false/\W.frozen? (q,i *4+3)=false):=λW hb=>by
     have ho:=b.o.o.keep hb;have Q:=r.o.1;have hc2:=b.o.len;exact⟨DK ho u,(cZ ho _ aQ).2,(cZ ho _ aQ).2,(cZ ho _ aQ).2,(cZ ho _ aQ).2⟩
    generalize R[i]=ri at *;have yb:=bF.new wr 396 #[.int .i64 L[j].env, .int .i64 L[j].cN, .int .i64 L[j].frame, .bool L[j].write];have j0:(0:Int)<=j:=aQ;have j1:(j:Int)<(n:Int):=aQ;have i0:(0:Int)<=i:=aQ;have i1:(i:Int)<(n:Int):=aQ;generalize L[j]=y at *;clear he b;obtain⟨G,z2,z3,z4⟩:=y;simp only at y0 y1 y2 y3 hc;have d:=aP F;clear F;cases hq:gz ⟨G,z2,z3,z4⟩ with
    |true=>
     rw[hq] at hc;have v:=aP (k.o hq);clear hq k l;go_wp2_with(go_at_fn (f);(with_reducible refine hc.mono ?_);rintro e w' ⟨rfl,hb⟩;(have S:=aP (v.o w' (d.o.trans (hb.mono aT))));clear hb)
     go_roundw
     case rel=>exact⟨i,j+1,R,rfl,by go_num,aQ,aQ,S.o⟩
     case measure=>simp[aL];omega
    |false=>
     rw[hq] at hc;have x:=aP (l.o hq);have z:aH (wr.heap.size<=(wr.alloc (aI #[G,z2,z3,z4] 396)).heap.size):=d.o.size;clear hq k l;go_wp2_with(go_at_fn (f);(with_reducible refine hc.mono ?_);rintro e w4 ⟨rfl,hb⟩;(have S:=aP (x.o w4 (d.o.trans (hb.mono z.o))));(have x0:=bG hb (yb.cell 0 G rfl));(have x1:=bG hb (yb.cell 1 z2 rfl));(have x2:=bG hb (yb.cell 2 z3 rfl));(have x3:=bG hb (yb.cell 3 (.bool z4) rfl));(obtain⟨⟨r0,r1,r2,r3⟩,f0,f1,f2,f3⟩:=P.o w4 (d.o.trans (hb.mono z.o)));clear hb yb)
     go_roundw
     case rel=>exact⟨i+1,j+1,R.set i ⟨G,z2,z3,z4⟩,by go_num,by go_num,aQ,aQ,S.o⟩
     case measure=>simp[aL];omega
   .obtain rfl:j=n:=aQ;have j1:¬(j:Int)<(j:Int):=aQ;have A:j=L.length:=D.o;have T:R.take i=st gz L:=by have:=b.o.tk;rw[A,ab9] at this;exact this
    have u:i<R.length:=by have:=b.o.len;omega
    have o1:=Nc rM.len b.o.o (n:=i) aQ;rw[T] at o1;have p:(st gz L).length=i:=by rw[<-T,abJ];omega
    have B:=ZH (j - i);have HZ:aH (OY gz L q c base w (.returned (.slice q i c)) (wr.setCells q (i *4) (Builtin.zeroCells (Value.agg #[aU,aU,aU,false]).cells (j - i)).toList)):=by
     obtain⟨t1,t2⟩:=Dt o1 (o:=i *4) (by rw[p];omega) (Builtin.zeroCells (Value.agg #[aU,aU,aU,false]).cells (j - i)).toList;exact⟨by rw[p],t1,oV b.o.g t2⟩
    obtain⟨m,hm⟩:∃m,j - i=m+1:=⟨j - i - 1,aQ⟩
    have U:∀ty V X,V=j - i->(Builtin.clear_ #[312] ty #[.slice (some ⟨q,i *4,none⟩) V X]).run prog wr= .ok (.tuple #[]) (wr.setCells q (i *4) (Builtin.zeroCells (Value.agg #[aU,aU,aU,false]).cells (j - i)).toList):=λty V X Y=>by
     rw[Y,hm];exact MI wr _ 396 ty _ underlying312 SY m _ rfl (Bu _) q (i *4) X (λt ht=>by
      rw[<-hm,B] at ht;have Q:=r.o.1;exact cZ b.o.o (i *4+t) aQ)
    have ic1:i<=c:=by have:=r.o.1;omega
    have jc1:j<=c:=by have:=r.o.1;omega
    have cm:c<=maxLen:=r.o.2;simp only[maxLen] at cm;have i0:(0:Int)<=i:=aQ;have i1:(i:Int)<=(j:Int):=aQ;clear T o1 p B b A;go_wp2_with(at_builtin;exact U _ _ _ aQ)
    go_ret
    have hh:=HZ.o;rw[hm] at hh;exact hh
def XM(F:Nat->Prop)(g:Nat)(gz:En->Bool)(L:List En)(w:aA)(e:aM)(w':aA):Prop:=∃v:Int,e= .returned (.int .i64 v)/\jK F w' g (st gz L)/\Kp F w w'
end Df
end
end
end Go.Proofs.YtacgiflhgdaeaaaGreat
