/- Texts laid as one. -/
import Derived.Shelf.Abstract
import Derived.Shelf.GgSortMore.Stable
import Derived.Ground.GgtProg
import Derived.Deep.QuietTactic
import Derived.BigQuiet
import Derived.OwnWalk
import Derived.Test.YtacgiflhgdaeaaaGreatWZ1
import Derived.Test.YtacgiflhgdaeaaaGreatWZ2
set_option linter.unusedVariables false
set_option linter.unusedSimpArgs false
set_option maxRecDepth 100000
set_option maxHeartbeats 20000000
namespace Go.Proofs.YtacgiflhgdaeaaaGreat
open Go.Proofs.Tryz
open Go renaming World->aA,Value->aC,Addr->aJ,Ending->aM,Calls->aG
open Go.RowKit renaming Below->aD,Hid->aH,intOf->aL
open Go.Obj renaming cells->aI
variable{i j:Nat}
section
section
structure Pv where
 sv:Option Sv
 rd:Bool
structure Sd where
 P:List Pv
 b:Bs
 nw:Int
 tu:Int
def kQ(p:Pv):Bool:=match p.sv with|some v=>BN v|none=>false
structure gS(s:Sd):Prop where
 n:1<=s.P.length/\s.P.length<=8
 sv:∀p∈s.P,∀v,p.sv=some v->rZ s.nw v
 bk:tO s.b
 nw:0<=s.nw/\s.nw<=1048576
 tu:0<=s.tu/\s.tu<s.P.length
 bn:0<=s.b.bn/\s.b.bn<=s.nw
 rH:(s.b.L.length+s.P.countP kQ:Int)<=s.nw
 has:∀(i:Nat) (p:Pv),s.P[i]?=some p->s.b.f i=p.sv.map λv=>jC v.bu v.pe
 o:∀(i:Nat),s.P.length<=i->s.b.f i=none
variable{s:Sd}
theorem gS.len(h:gS s):s.b.L.length<=1048576:=by
 have:=h.rH;have:=h.nw;omega
def FA(s:Sd)(i:Nat)(bu pe:Int):Sd:=if nV s.b i bu pe=0 then {s with b:=sE s.b i bu pe,P:=s.P.modify i λp=>{p with sv:=some (wQ bu pe)}} else s
def yV(s:Sd)(i:Nat)(v:Sv):Sd:={s with b:=tR s.b i (tG v),P:=s.P.modify i λp=>{p with sv:=none}}
def MV(s:Sd)(i:Nat)(r:Bool):Sd:={s with P:=s.P.modify i λp=>{p with rd:=r}}
theorem tH{l:List Pv}{f:Pv->Pv}{p:Pv}(h:l[i]?=some p):(l.modify i f).countP kQ+(if kQ p then 1 else 0)=l.countP kQ+(if kQ (f p) then 1 else 0):=by
 induction l generalizing i with
 |nil=>simp at h
 |cons x l a=>
  cases i with
  |zero=>
   simp at h;subst h;simp only[List.modify_zero_cons,List.countP_cons];omega
  |succ i=>
   have:=a (i:=i) (by simpa using h);simp only[List.modify_succ_cons,List.countP_cons];omega
theorem get_modify{l:List Pv}{f:Pv->Pv}{q:Pv}(h:(l.modify i f)[j]?=some q):∃p,l[j]?=some p/\q=if j=i then f p else p:=by
 rw[List.getElem?_modify] at h;cases hp:l[j]? with
 |none=>rw[hp] at h;simp at h
 |some p=>
  rw[hp] at h;simp at h;refine⟨p,rfl,?_⟩;rw[<-h];by_cases a:i=j
  .rw[abS a,abS a.symm]
  .rw[abT a,abT (λe=>a e.symm)]
theorem mem_modify{l:List Pv}{f:Pv->Pv}{q:Pv}(h:q∈l.modify i f):∃p∈l,q=p\/q=f p:=by
 obtain⟨j,a,rfl⟩:=acL h;obtain⟨p,hp,he⟩:=get_modify (abO a);refine⟨p,adI hp,?_⟩;rw[he];split
 .exact .inr rfl
 .exact .inl rfl
theorem gS.FI{s:Sd}(h:gS s)(i:Nat)(r:Bool):gS (MV s i r):=by
 have hl:(s.P.modify i λp=>{p with rd:=r}).length=s.P.length:=adM ..;refine⟨by simp only[MV];rw[hl];exact h.n,λq hq v a=>?_,h.bk,h.nw,by simp only[MV];rw[hl];exact h.tu,h.bn,?_,λj q hq=>?_,λj b=>h.o j (by simpa only[MV,hl] using b)⟩
 .obtain⟨p,hp,rfl|rfl⟩:=mem_modify hq
  .exact h.sv _ hp v a
  .exact h.sv p hp v a
 .simp only[MV];cases hp:s.P[i]? with
  |none=>rw[List.modify_eq_self (by rw[List.getElem?_eq_none_iff] at hp;exact hp)];exact h.rH
  |some p=>
   have:=tH (f:=λp:Pv=>{p with rd:=r}) hp;have hu:kQ {p with rd:=r}=kQ p:=rfl;rw[hu] at this;have:=h.rH;omega
 .obtain⟨p,hp,he⟩:=get_modify hq;have:=h.has j p hp;rw[he];split
  .exact this
  .exact this
theorem gS.res(h:gS s)(hi:i<s.P.length)(bu pe:Int):gS (FA s i bu pe):=by
 unfold FA;split
 .rename_i he;have hl:(s.P.modify i λp=>{p with sv:=some (wQ bu pe)}).length=s.P.length:=adM ..;have m:=h.n;have e:n9 bu pe=true/\s.b.f i=none:=by
   unfold nV at he;split at he
   .rename_i e;split at he
    .cases he
    .rename_i hf;exact⟨e,by cases k:s.b.f i with|none=>rfl|some v=>rw[k] at hf;simp at hf⟩
   .cases he
  have hp:=abO hi;have g:sE s.b i bu pe={s.b with f:=gG s.b.f i (some (jC bu pe)),us:=s.b.us+jC bu pe}:=by unfold sE;rw[abS he]
  have a:s.P[i].sv=none:=by
   have:=h.has i _ hp;rw[e.2] at this;cases c:s.P[i].sv with
   |none=>rfl
   |some v=>rw[c] at this;simp at this
  refine⟨by simp only;rw[hl];exact m,λq hq v c=>?_,h.bk.adm aQ,h.nw,by simp only;rw[hl];exact h.tu,by rw[g];exact h.bn,?_,λj q hq=>?_,λj d=>?_⟩
  .obtain⟨p,hp,rfl|rfl⟩:=mem_modify hq
   .exact h.sv _ hp v c
   .simp at c;rw[<-c];exact rZ.new (BD e.1) h.nw.1
  .have:=tH (f:=λp:Pv=>{p with sv:=some (wQ bu pe)}) hp;have hu:kQ {s.P[i] with sv:=some (wQ bu pe)}=false:=rfl;have l:kQ s.P[i]=false:=by unfold kQ;rw[a]
   rw[hu,l] at this;have hc:=h.rH;rw[g];simp only[acJ,acI] at this⊢;omega
  .obtain⟨p,hp,he⟩:=get_modify hq;rw[g,he];simp only[gG];by_cases d:j=i
   .subst d;rw[abS rfl,abS rfl];rfl
   .rw[abT aQ,abT d];exact h.has j p hp
  .rw[g];simp only[gG];simp only[hl] at d;rw[abT aQ];exact h.o j d
 .exact h
theorem gS.rel(h:gS s){p:Pv}{v:Sv}(hp:s.P[i]?=some p)(k:p.sv=some v):gS (yV s i v):=by
 have hl:(s.P.modify i λp=>{p with sv:=none}).length=s.P.length:=adM ..;have hf:s.b.f i=some (jC v.bu v.pe):=by rw[h.has i p hp,k];rfl
 have hF:(tR s.b i (tG v)).f=gG s.b.f i none/\(tR s.b i (tG v)).bn=s.b.bn/\(tR s.b i (tG v)).L.length<=s.b.L.length+(if s.b.bn<tG v then 1 else 0):=by
  unfold tR;rw[hf];simp only;split
  .exact⟨rfl,rfl,aT⟩
  .exact⟨rfl,rfl,aT⟩
 refine⟨by simp only[yV];rw[hl];exact h.n,λq hq u hu=>?_,h.bk.rel,h.nw,by simp only[yV];rw[hl];exact h.tu,by simp only[yV];rw[hF.2.1];exact h.bn,?_,λj q hq=>?_,λj c=>?_⟩
 .obtain⟨t,d,rfl|rfl⟩:=mem_modify hq
  .exact h.sv _ d u hu
  .simp at hu
 .have hc:=tH (f:=λp:Pv=>{p with sv:=none}) hp;have hu:kQ {p with sv:=none}=false:=rfl;have e:kQ p=BN v:=by unfold kQ;rw[k]
  rw[hu,e] at hc;have m:=h.rH;have l:=hF.2.2;simp only[yV];simp only[acJ,acI] at hc;cases a:BN v with
  |true=>
   rw[a] at hc;simp only[ac2] at hc;split at l <;> omega
  |false=>
   rw[LR a,abT (by have:=h.bn;omega)] at l;rw[LR a];rw[a] at hc;simp only[acJ,acI] at hc;omega
 .obtain⟨r,g,he⟩:=get_modify hq;simp only[yV];rw[hF.1,he];simp only[gG];by_cases c:j=i
  .subst c;rw[abS rfl,abS rfl];rfl
  .rw[abT aQ,abT c];exact h.has j r g
 .simp only[yV];rw[hF.1];simp only[gG];simp only[yV,hl] at c;split
  .rfl
  .exact h.o j c
end
end
section
open Go.RowKit Go.Lib Go.Shelf
variable{P':List Pv}{v':Sv}{F:Nat->Prop}{w:aA}{g q d:Nat}{s:Sd}{ow:Nat->Nat}{M:Option Nat}{B:Option aJ}
section
structure Pm where
 pt:Option Nat
 rd:Bool
def Ao(p:Option Nat):Option aJ:=p.map λh=>⟨h,0,none⟩
def KX(p:Pm):List aC:= [.pointer (Ao p.pt), .bool p.rd]
theorem RS:eW KX 2:=⟨λ_=>rfl,λx u hu=>by simp[KX] at hu;rcases hu with rfl|rfl <;> rfl⟩
def G9(w:aA)(ow:Nat->Nat)(i:Nat)(r:Pm)(p:Pv):Prop:=r.rd=p.rd/\(p.sv=none->r.pt=none)/\∀v,p.sv=some v->∃h,r.pt=some h/\sU (Fo w ow (3+i)) w h v
structure iQ(F:Nat->Prop)(w:aA)(g:Nat)(s:Sd)(ow:Nat->Nat)(q:Nat)(R:List Pm)(M:Option Nat)(B:Option aJ)(d:Nat):Prop where
 fn:BI F w ow
 bk:gH (Fo w ow 1) w g q s.P.length s.P.length s.b M B d s.nw s.tu
 row:bH KX 2 w 0 219 q s.P.length R
 oq:ow q=2
 len:R.length=s.P.length
 ml:∀(i:Nat) (h:i<R.length) (h':i<s.P.length),G9 w ow i R[i] s.P[i]
def lP(F:Nat->Prop)(w:aA)(g:Nat)(s:Sd):Prop:=∃ow q R M B d,iQ F w g s ow q R M B d
variable{ka:List Pm}
section
variable{F G H:Nat->Prop}{w w':aA}{ow:Nat->Nat}{g q i j n c d d':Nat}{s:Sd}{R:List Pm}{M M':Option Nat}{B B' E:Option aJ}{b b':Bs}{nw tu:Int}
theorem gH.cM(g n c d:Nat)(E B:Option aJ)(nw tu:Int)(M:Option Nat)(b:Bs):dV (λF w=>gH F w g E n c b M B d nw tu):=λ_ _ _ _ _ h k a fl hH=>h.move k a fl hH
theorem G9.other{r:Pm}{p:Pv}(h:G9 w ow i r p)(k:Kp (Fo w ow j) w w')(f:j≠3+i):G9 w' (nx w ow j) i r p:=⟨h.1,h.2.1,λv l=>by
 obtain⟨a,h1,m⟩:=h.2.2 v l;exact⟨a,h1,(sU.cM a v).other m k (λe=>f e.symm)⟩⟩
theorem iQ.lq(h:iQ F w g s ow q R M B d):q<w.heap.size:=(h.row.lt q rfl).2
theorem iQ.Au(h:iQ F w g s ow q R M B d)(i:Nat):nx w ow i q=2:=(zA h.lq).trans h.oq
theorem iQ.lD(h:iQ F w g s ow q R M B d)(k:Kp (Fo w ow i) w w')(hi:i≠2):bH KX 2 w' 0 219 q s.P.length R:=h.row.kp k (λr a=>by
 injection a with a;subst a;exact⟨h.lq,by rw[h.oq];exact λe=>hi e.symm⟩)
theorem iQ.J4(h:iQ F w g s ow q R M B d){nw' tu':Int}(hk:gH (Fo w ow 1) w' g q s.P.length s.P.length b' M' B' d' nw' tu')(k:Kp (Fo w ow 1) w w'):iQ F w' g {s with b:=b',nw:=nw',tu:=tu'} (nx w ow 1) q R M' B' d'/\Kp F w w':=
 ⟨⟨h.fn.next k 1,dV.own (gH.cM _ _ _ _ _ _ _ _ _ _) hk k,h.lD k cH,h.Au 1,h.len,λi hi a=>(h.ml i hi a).other k aQ⟩,h.fn.kp k cH⟩
theorem iQ.We(h:iQ F w g s ow q R M B d)(a:P'.length=s.P.length)(e:ka.length=P'.length)(f:bH KX 2 w' 0 219 q s.P.length ka)(k:Kp (Fo w ow 2) w w')(hm:∀(i:Nat) (h:i<ka.length) (l:i<P'.length),G9 w' (nx w ow 2) i ka[i] P'[i]):iQ F w' g {s with P:=P'} (nx w ow 2) q ka M B d/\Kp F w w':=
 ⟨⟨h.fn.next k 2,by rw[a];exact dV.other (gH.cM _ _ _ _ _ _ _ _ _ _) h.bk k cH,by rw[a];exact f,h.Au 2,e,hm⟩,h.fn.kp k cH⟩
theorem iQ.Kl(h:iQ F w g s ow q R M B d)(hi:i<s.P.length)(l:i<R.length){v:Sv}{a:Nat}(hp:R[i].pt=some a)(o:s.P[i].sv=some v)(hs:sU (Fo w ow (3+i)) w' a v')(k:Kp (Fo w ow (3+i)) w w'):iQ F w' g {s with P:=s.P.set i {s.P[i] with sv:=some v'}} (nx w ow (3+i)) q R M B d/\Kp F w w':=by
 refine⟨⟨h.fn.next k _,by simp only[ab5];exact dV.other (gH.cM _ _ _ _ _ _ _ _ _ _) h.bk k aQ,by simp only[ab5];exact h.lD k aQ,h.Au _,by simp only[ab5];exact h.len,λm hm f=>?_⟩,h.fn.kp k aQ⟩;simp only[ab5] at f;simp only[acS];split
 .rename_i e;subst e;exact⟨(h.ml _ hm f).1,λe=>(by cases e),λu hu=>(by injection hu with hu;subst hu;exact⟨a,hp,(sU.cM a _).own hs k⟩)⟩
 .exact(h.ml m hm f).other k aQ
theorem iQ.made(h:iQ F w g s ow q R M B d)(hi:i<s.P.length)(l:s.P[i].sv=none){v:Sv}{a:Nat}(hs:sU (λb=>b<w.heap.size) w' a v)(hb:aD w w w'):iQ F w' g s (nx w ow (3+i)) q R M B d/\sU (Fo w' (nx w ow (3+i)) (3+i)) w' a v/\Kp F w w':=by
 have k:Kp (Fo w ow (3+i)) w w':=Kp.cD hb λb hb=>hb.1
 refine⟨⟨h.fn.next k _,dV.other (gH.cM _ _ _ _ _ _ _ _ _ _) h.bk k aQ,h.lD k aQ,h.Au _,h.len,λm hm f=>?_⟩,?_,h.fn.kp k aQ⟩
 .by_cases e:m=i
  .subst e;exact⟨(h.ml _ hm f).1,(h.ml _ hm f).2.1,λu hu=>by rw[l] at hu;cases hu⟩
  .exact(h.ml m hm f).other k aQ
 .refine hs.move (Kp.refl (λ_=>True) _) (λ_ _ _=>trivial) (Fo.ol _ _ _) (λr o l hf=>hf.2 (K9 (Nat.not_lt.1 l)))
theorem iQ.keep(h:iQ F w g s ow q R M B d)(hb:aD w w w'):iQ F w' g s (nx w ow 0) q R M B d/\Kp F w w':=by
 have k:Kp (Fo w ow 0) w w':=Kp.cD hb λb hb=>hb.1
 exact⟨⟨h.fn.next k _,dV.other (gH.cM _ _ _ _ _ _ _ _ _ _) h.bk k aQ,h.lD k aQ,h.Au _,h.len,λm hm a=>(h.ml m hm a).other k aQ⟩,h.fn.ol.below hb⟩
theorem lP.cM(g:Nat)(s:Sd):dV (λF w=>lP F w g s):=λF G H w w' ⟨ow,q,R,M,B,d,h⟩ k f fl hH=>by
 have m:∀r,r<w.heap.size->ow r≠0->¬F r:=λr e o hf=>o (h.fn r hf).2
 refine⟨mv w ow H,q,R,M,B,d,BI.mv fl,dV.part (gH.cM _ _ _ _ _ _ _ _ _ _) h.fn k f hH cH h.bk,h.row.kp k (λr e=>?_),(Wo h.lq ?_).trans h.oq,h.len,λi hi l=>?_⟩
 .injection e with e;subst e;exact f _ h.lq (m _ h.lq (by rw[h.oq];decide))
 .exact hH _ h.lq (m _ h.lq (by rw[h.oq];decide))
 .have hp:=h.ml i hi l;refine⟨hp.1,hp.2.1,λv p=>?_⟩;obtain⟨a,h1,t⟩:=hp.2.2 v p;exact⟨a,h1,(sU.cM a v).part h.fn k f hH aQ t⟩
theorem lP.fl(h:lP F w g s):Ol F w:=by obtain⟨ow,q,R,M,B,d,h⟩:=h;exact h.fn.ol
theorem iQ.c0(h:iQ F w g s ow q R M B d):w.cell? (g,0)=some (.slice q s.P.length s.P.length):=h.bk.b.cell 0 _ rfl
theorem iQ.c5(h:iQ F w g s ow q R M B d):w.cell? (g,5)=some (.int .i64 s.nw):=h.bk.b.cell 5 _ rfl
theorem iQ.c6(h:iQ F w g s ow q R M B d):w.cell? (g,6)=some (.int .i64 s.tu):=h.bk.b.cell 6 _ rfl
theorem iQ.pl(h:iQ F w g s ow q R M B d)(hi:i<R.length):w.cell? (q,i *2)=some (.pointer (Ao R[i].pt))/\w.cell? (q,i *2+1)=some (.bool R[i].rd)/\w.frozen? (q,i *2)=false/\w.frozen? (q,i *2+1)=false:=by
 have hl:=h.len;have:=adH 2 (show i+1<=s.P.length from by omega);exact⟨bM RS h.row hi (j:=0) rfl,bM RS h.row hi (j:=1) rfl,(dD h.row _ aQ).2,(dD h.row _ aQ).2⟩
end
theorem LO{R:List Pm}(h:iQ F w g s ow q R M B d)(a:s.P.length<=8)(hi:i<s.P.length):aG prog 64 #[.pointer g,i] w λe w'=>e= .returned (.pointer (some ⟨q,i *2,none⟩))/\w=w':=by
 have c0:=h.c0;have i0:¬(i:Int)<0:=aQ;have i2:(0:Int)<=i:=aQ;have i1:(i:Int)<(s.P.length:Int):=aQ;clear h;generalize s.P.length=n at *;go_enter func64,ntmps64
 go_wp2_with fail
 go_ret
 exact⟨aT,rfl⟩
theorem EF{R:List Pm}(h:iQ F w g s ow q R M B d)(a:s.P.length<=8)(i:Int)(hi:i<0\/s.P.length<=i):aG prog 64 #[.pointer g,i] w λe w'=>e= .returned (.pointer none)/\w=w':=by
 have c0:=h.c0;clear h;generalize s.P.length=n at *;by_cases f:i<0
 .go_enter func64,ntmps64
  go_wp2_with fail
  go_ret
  exact⟨rfl,rfl⟩
 .have h1:(n:Int)<=i:=aQ;clear hi;go_enter func64,ntmps64
  go_wp2_with fail
  go_ret
  exact⟨rfl,rfl⟩
theorem wO(h:lP F w g s):aG prog 21 #[.pointer g] w λe w'=>e= .returned (.int .i64 s.nw)/\w=w':=by
 obtain⟨ow,q,R,M,B,d,h⟩:=h;have c5:=h.c5;clear h;go_enter func21,ntmps21
 go_wp2_with fail
 go_ret
 exact⟨rfl,rfl⟩
def KE(s:Sd)(e:Int):Bool:=if 0<=e then match s.P[e.toNat]? with|some p=>p.rd|none=>false else false
theorem aaW(h:lP F w g s)(l:s.P.length<=8)(i:Int):aG prog 30 #[.pointer g,i] w λe w'=>e= .returned (.bool (KE s i))/\w=w':=by
 obtain⟨ow,q,R,M,B,d,h⟩:=h;by_cases ho:i<0\/s.P.length<=i
 .have f:=aP (EF h l i ho);have k:aH (KE s i=false):=by
   show KE s i=false;unfold KE;split
   .rw[adC aQ]
   .rfl
  clear h ho;generalize KE s i=v at *;go_enter func30,ntmps30
  go_wp2_with fail
  refine aR f ?_;rintro e m ⟨rfl,rfl⟩;go_wp2_with fail
  go_ret
  exact⟨by first|rfl|(rw[k.o];rfl),rfl⟩
 .obtain⟨n,rfl⟩:=abW (show 0<=i by omega);have hi:n<s.P.length:=aQ;have a:n<R.length:=by have:=h.len;omega
  have f:=aP (LO h l hi);obtain⟨c0,c1,f0,f1⟩:=h.pl a;have k:aH (R[n].rd=KE s n):=by
   show R[n].rd=KE s n;unfold KE;rw[abS aQ,abZ,abO hi];exact(h.ml n a hi).1
  clear h ho;generalize R[n]=r at *;generalize KE s n=v at *;go_enter func30,ntmps30
  go_wp2_with fail
  refine aR f ?_;rintro e m ⟨rfl,rfl⟩;go_wp2_with fail
  go_ret
  exact⟨by first|rfl|(rw[k.o];rfl),rfl⟩
def tY(s:Sd)(e:Int):Option Sv:=if 0<=e then s.P[e.toNat]?.bind Pv.sv else none
theorem WB(h:lP F w g s)(p:s.P.length<=8)(i:Int):aG prog 115 #[.pointer g,i] w λe w'=>(∃pt,e= .returned (.pointer (Ao pt))/\(tY s i=none->pt=none)/\∀v,tY s i=some v->∃a,pt=some a/\sU F w a v)/\w=w':=by
 obtain⟨ow,q,R,M,B,d,h⟩:=h;by_cases ho:i<0\/s.P.length<=i
 .have m:=aP (EF h p i ho);have l:aH (tY s i=none):=by
   show tY s i=none;unfold tY;split
   .rw[adC aQ];rfl
   .rfl
  clear h ho;generalize tY s i=v at *;go_enter func115,ntmps115
  go_wp2_with fail
  refine aR m ?_;rintro e t ⟨rfl,rfl⟩;go_wp2_with fail
  go_ret
  exact⟨⟨none,rfl,λ_=>rfl,λv f=>by rw[l.o] at f;cases f⟩,rfl⟩
 .obtain⟨n,rfl⟩:=abW (show 0<=i by omega);have hi:n<s.P.length:=aQ;have k:n<R.length:=by have:=h.len;omega
  have m:=aP (LO h p hi);obtain⟨c0,c1,f0,f1⟩:=h.pl k;have l:aH ((tY s n=none->R[n].pt=none)/\∀v,tY s n=some v->∃a,R[n].pt=some a/\sU F w a v):=by
   have hq:tY s n=s.P[n].sv:=by
    unfold tY;rw[abS aQ,abZ,abO hi];rfl
   have hm:=h.ml n k hi;refine⟨λf=>hm.2.1 (by rw[<-hq];exact f),λv f=>?_⟩;obtain⟨a,h1,u⟩:=hm.2.2 v (by rw[<-hq];exact f);exact⟨a,h1,u.move (Kp.refl (λ_=>True) _) (λ_ _ _=>trivial) h.fn.ol (λr x y hf=>y ⟨x,by rw[(h.fn r hf).2];omega⟩)⟩
  clear h ho;generalize R[n]=r at *;go_enter func115,ntmps115
  go_wp2_with fail
  refine aR m ?_;rintro e t ⟨rfl,rfl⟩;go_wp2_with fail
  go_ret
  exact⟨⟨r.pt,rfl,l.o.1,l.o.2⟩,rfl⟩
end
variable{n:Nat}
section
def Fb(F:Nat->Prop)(q:Nat):Nat->Prop:=λb=>F b\/b=q
section
variable{F G:Nat->Prop}{w w':aA}{q:Nat}{X:(Nat->Prop)->aA->Prop}
theorem Fb.ol(h:Ol F w)(hw:w.heap.size<=w'.heap.size)(hq:q<w'.heap.size):Ol (Fb F q) w':=λb hb=>by
 rcases hb with hb|rfl
 .exact abR (h b hb) hw
 .exact hq
theorem dV.box(M:dV X)(h:X F w)(fl:Ol F w)(o:Obj):X (Fb F w) (w.alloc o):=
 M F (λb=>b<w.heap.size) _ w _ h (Kp.cD (aX w o) λ_ hb=>hb) (λ_ a _=>a) (Fb.ol fl aT aT) (λr a c hb=>by
  rcases hb with hb|hb
  .exact c hb
  .omega)
theorem dV.unbox(M:dV X)(h:X (Fb F q) w)(fl:Ol F w)(c:w.grownBy w' (some q)):X F w':=
 M (Fb F q) (λb=>b<w.heap.size/\b≠q) _ w _ h (Kp.grown c λb hb=>⟨hb.1,λe=>hb.2 (by injection e)⟩) (λr f a=>⟨f,λe=>a (.inr e)⟩) (λb hb=>abR (fl b hb) c.size) (λr f a hb=>a (.inl hb))
theorem Kp.unbox(k:Kp (Fb F q) w w'):Kp F w w':=k.mono λ_ hb=> .inl hb
end
theorem lP.less(h:lP (Fb F q) w g s):lP F w g s:=(lP.cM g s).unbox h (λb hb=>h.fl b (.inl hb)) (bL w q)
section
variable{F G H:Nat->Prop}{w w':aA}{ow:Nat->Nat}{g q i j d:Nat}{s:Sd}{R:List Pm}{M:Option Nat}{B:Option aJ}
theorem G9.rd{r:Pm}{p:Pv}(h:G9 w ow i r p)(b:Bool):G9 w ow i {r with rd:=b} {p with rd:=b}:=⟨rfl,h.2.1,h.2.2⟩
theorem iQ.setRow(h:iQ F w g s ow q R M B d)(hi:i<R.length)(c:i<s.P.length)(x:Pm)(f:Pv->Pv)(l:j<2)(v:aC)(n:KX x=(KX R[i]).set j v)(hm:G9 w ow i x (f s.P[i])):iQ F (w.setCell (q,i *2+j) v) g {s with P:=s.P.modify i f} (nx w ow 2) q (R.set i x) M B d/\Kp F w (w.setCell (q,i *2+j) v):=by
 obtain⟨h1,o⟩:=qX RS.len h.row hi l x v n;have k:Kp (Fo w ow 2) w (w.setCell (q,i *2+j) v):=(Fo.ol w ow 2).self (λhf=>hf.2 h.oq) o;refine h.We (adM ..) (by rw[ab5,adM];exact h.len) h1 k (λm b a=>?_);simp only[ab5] at b;simp only[adM] at a;simp only[acS,List.getElem_modify];split
 .rename_i e;subst e;exact hm.other k aQ
 .exact(h.ml m b a).other k aQ
end
def PX(s:Sd)(i:Int):Bool:=decide (0<=i/\i<s.P.length)
def jX(s:Sd)(i:Int)(r:Bool):Sd:=if PX s i then MV s i.toNat r else s
def CG(s:Sd)(i:Int):Int:=if PX s i then 0 else 1
def FP(F:Nat->Prop)(g:Nat)(v:Int)(s:Sd)(w:aA)(e:aM)(w':aA):Prop:=e= .returned (.int .i64 v)/\lP F w' g s/\Kp F w w'
theorem L9{i:Int}(h:i<0\/s.P.length<=i):PX s i=false:=ab8 aQ
theorem J1(h:i<s.P.length):PX s i=true:=acF aQ
theorem xI(h:lP F w g s)(l:s.P.length<=8)(i:Int)(b:Bool):aG prog 43 #[.pointer g,i,b] w (FP F g (CG s i) (jX s i b) w):=by
 have c:=h;obtain⟨ow,q,R,M,B,d,h⟩:=h;by_cases ho:i<0\/s.P.length<=i
 .have f:=aP (EF h l i ho);have k:aH (FP F g (CG s i) (jX s i b) w (.returned (.int .i64 1)) w):=by
   unfold aH jX CG;rw[L9 ho];exact⟨rfl,c,Kp.refl _ _⟩
  clear h ho c;generalize CG s i=rE at *;go_enter func43,ntmps43
  go_wp2_with fail
  refine aR f ?_;rintro e m ⟨rfl,rfl⟩;go_wp2_with fail
  go_ret
  exact k.o
 .obtain⟨n,rfl⟩:=abW (show 0<=i by omega);have hi:n<s.P.length:=aQ;have a:n<R.length:=by have:=h.len;omega
  have f:=aP (LO h l hi);obtain⟨c0,c1,f0,f1⟩:=h.pl a;have k:aH (FP F g (CG s n) (jX s n b) w (.returned (.int .i64 0)) (w.setCell (q,n *2+1) (.bool b))):=by
   unfold aH jX CG;rw[J1 hi];obtain⟨h1,t⟩:=h.setRow a hi {R[n] with rd:=b} (λp=>{p with rd:=b}) (j:=1) aQ (.bool b) rfl ((h.ml n a hi).rd b);exact⟨rfl,⟨_,_,_,_,_,_,h1⟩,t⟩
  clear h ho c;generalize R[n]=r at *;generalize CG s n=rE at *;go_enter func43,ntmps43
  go_wp2_with fail
  refine aR f ?_;rintro e m ⟨rfl,rfl⟩;go_wp2_with fail
  go_ret
  exact k.o
def zJ(s:Sd)(i bu pe:Int):Int:=if PX s i then nV s.b i bu pe else 1
def qQ(s:Sd)(i bu pe:Int):Sd:=if PX s i then FA s i.toNat bu pe else s
theorem IX(h:lP F w g s)(C:gS s)(i bu pe:Int):aG prog 67 #[.pointer g,i, .agg #[bu,pe]] w (FP F g (zJ s i bu pe) (qQ s i bu pe) w):=by
 have h8:=C.n.2;have V:=aX w (aI #[bu,pe] 112);have N:=bF.new w 112 #[bu,pe];have c:=h.fl.below V;have h1:=(lP.cM g s).box h h.fl (aI #[bu,pe] 112);clear h;obtain⟨ow,q,R,M,B,d,h⟩:=h1;by_cases ho:i<0\/s.P.length<=i
 .have D:=aP (EF h h8 i ho);have f:aH (FP F g (zJ s i bu pe) (qQ s i bu pe) w (.returned (.int .i64 1)) (w.alloc (aI #[bu,pe] 112))):=by
   unfold aH qQ zJ;rw[L9 ho];exact⟨rfl,lP.less ⟨_,_,_,_,_,_,h⟩,c⟩
  clear h ho C c;go_enter func67,ntmps67
  go_upto_region 1 with(fail)
  generalize w.alloc (aI #[bu,pe] 112)=w1 at *;go_wp2_with fail
  refine aR D ?_;rintro e w2 ⟨rfl,rfl⟩;go_wp2_with fail
  go_ret
  exact f.o
 .obtain⟨n,rfl⟩:=abW (show 0<=i by omega);have hi:n<s.P.length:=aQ;have m:n<R.length:=by have:=h.len;omega
  have D:=aP (LO h h8 hi);have f:aH (zJ s n bu pe=nV s.b n bu pe/\qQ s n bu pe=FA s n bu pe):=by
   unfold aH zJ qQ;rw[J1 hi];exact⟨rfl,rfl⟩
  have W:=bO h c;have HI:=aP C;have O:aH (nV s.b n bu pe=0->n9 bu pe=true/\s.P[n].sv=none):=by
   intro he;unfold nV at he;split at he
   .rename_i Q;refine⟨Q,?_⟩;split at he
    .cases he
    .rename_i hf;have:=C.has n _ (abO hi);cases E:s.P[n].sv with
     |none=>rfl
     |some v=>rw[this,E] at hf;simp at hf
   .cases he
  have z:aH (FA s n bu pe=if nV s.b n bu pe=0 then {s with b:=sE s.b n bu pe,P:=s.P.modify n λp=>{p with sv:=some (wQ bu pe)}} else s):=rfl;have I:aH (nV s.b n bu pe≠0->sE s.b n bu pe=s.b):=by
   intro he;unfold sE;rw[abT he]
  generalize zJ s n bu pe=rE at *;generalize qQ s n bu pe=rV at *;generalize FA s n bu pe=rB at *;obtain⟨Y,t⟩:∃a,a=nV s.b n bu pe:=⟨_,rfl⟩
  obtain⟨aB,u⟩:∃a,a=sE s.b n bu pe:=⟨_,rfl⟩
  rw[<-t] at O z I f;rw[<-u] at z I;have Z:aH (nV s.b n bu pe=Y):=t.symm;have a1:aH (sE s.b n bu pe=aB):=u.symm;clear t u;clear h ho C c;go_enter func67,ntmps67
  go_upto_region 1 with(fail)
  generalize w.alloc (aI #[bu,pe] 112)=w1 at *;generalize w.heap.size=q1 at *;have x0:=N.cell 0 bu rfl;have x1:=N.cell 1 pe rfl;go_wp2_with fail
  refine aR D ?_;rintro e w2 ⟨rfl,rfl⟩;go_upto_region 4 with(fail)
  have k:=bE x0;have l:=bE x1;refine bN (bP _) (λ_=>bP) [] (λ_ _ _=>True) [5,6] [] 31 (bZ _) (λ_ _ _ h hz=>bV h hz) (λ_ d hd _ v w w' _ h hz=>by cases hd) aV aV aZ ?_;repeat refine eK ?_
  refine dG ?_;intro γ w5 hb5 hT;clear k l;simp only[cE,Act.put,abP,abV,abU];refine dS ?_;obtain⟨h5,A⟩:=W.o.1.keep hb5;have S:=aP (Y2 h5.bk HI.o.bk n bu pe);rw[Z.o,a1.o] at S;have H5:=dE h5 W.o.2 A;clear hT h5 A hb5 x0 x1;refine wpList_plain rfl (λK hK=>?_);go_wp2_with fail
  refine aR S ?_;rintro e w3 ⟨rfl,⟨M3,m3⟩,T⟩;obtain⟨h1,c,A⟩:=H5.o;obtain⟨t1,k4⟩:=h1.J4 m3 T;have U:=dE t1 c (A.trans k4);have x:=(A.trans k4).aY N (.inr rfl);have x0:=x.cell 0 bu rfl;have x1:=x.cell 1 pe rfl;clear m3 T t1 k4 h1 c A W H5 N x;refine hK _ _ ?_;clear hK K;refine wpList_plain rfl (λK hK=>?_);go_simp
  refine hK _ _ ?_;clear hK K;refine cY ?_;try refine cI ?_
  by_cases he:Y=0
  .obtain⟨Q,hn⟩:=O.o he;have y:aH (rE=0/\rV={s with b:=aB,P:=s.P.modify n λp=>{p with sv:=some (wQ bu pe)}}):=by
    unfold aH;rw[f.o.1,f.o.2,z.o,abS he];exact⟨he,rfl⟩
   have HS:=aP (Jz bu pe w3 Q);clear Q O I z;subst he;go_wp2_with fail
   refine aR HS ?_;rintro e w4 ⟨g4,rfl,hg4,J,L⟩;obtain⟨t1,k0,c⟩:=U.o;obtain⟨t2,s2,k2⟩:=t1.made hi hn J L;have hsp:=t2.pl m;obtain⟨c0,c1,f0,f1⟩:=hsp;have HF:aH (FP F g rE rV w (.returned (.int .i64 0)) (w4.setCell (q,n *2) (.pointer g4))):=by
    obtain⟨h3,T⟩:=t2.setRow m hi ⟨some g4,R[n].rd⟩ (λp=>{p with sv:=some (wQ bu pe)}) (j:=0) aQ (.pointer g4) rfl ⟨(t2.ml n m hi).1,λe=>(by cases e),λv E=>(by injection E with E;subst E;exact⟨g4,rfl,s2⟩)⟩;unfold aH;rw[y.o.1,y.o.2];exact⟨rfl,lP.less ⟨_,_,_,_,_,_,h3⟩,k0.trans ((c.trans k2).trans T).unbox⟩
   clear J L t1 k0 c t2 s2 k2 U y f S D HS hg4;generalize R[n]=r at *;go_wp2_with fail
   go_ret
   exact HF.o
  .have HF:aH (FP F g rE rV w (.returned (.int .i64 Y)) w3):=by
    unfold aH;rw[f.o.1,f.o.2,z.o,abT he];have:=U.o;rw[I.o he] at this;exact⟨rfl,lP.less ⟨_,_,_,_,_,_,this.1⟩,this.2.1.trans this.2.2.unbox⟩
   clear U O I z f S D;go_wp2_with fail
   go_ret
   exact HF.o
def zP(s:Sd)(i:Int):Int:=if PX s i then(if(tY s i).isSome then 0 else 6) else 1
def sH(s:Sd)(i:Int):Sd:=match tY s i with|some v=>yV s i.toNat v|none=>s
theorem Na{i:Int}(h:i<0\/s.P.length<=i):tY s i=none:=by
 unfold tY;split
 .rw[adC aQ];rfl
 .rfl
theorem ZG(hi:n<s.P.length):tY s n=s.P[n].sv:=by
 unfold tY;rw[abS aQ,abZ,abO hi];rfl
theorem IP(h:lP F w g s)(k:gS s)(i:Int):aG prog 70 #[.pointer g,i] w (FP F g (zP s i) (sH s i) w):=by
 have C:=k.n.2;have t:=h;obtain⟨ow,q,R,M,B,d,h⟩:=h;by_cases ho:i<0\/s.P.length<=i
 .have x:=aP (EF h C i ho);have m:aH (FP F g (zP s i) (sH s i) w (.returned (.int .i64 1)) w):=by
   unfold aH zP sH;rw[L9 ho,Na ho];exact⟨rfl,t,Kp.refl _ _⟩
  clear h ho t k;go_enter func70,ntmps70
  go_wp2_with fail
  refine aR x ?_;rintro e z ⟨rfl,rfl⟩;go_wp2_with fail
  go_ret
  exact m.o
 .obtain⟨n,rfl⟩:=abW (show 0<=i by omega);have hi:n<s.P.length:=aQ;have c:n<R.length:=by have:=h.len;omega
  have x:=aP (LO h C hi);obtain⟨c0,c1,f0,f1⟩:=h.pl c;have f:=h.ml n c hi;cases l:s.P[n].sv with
  |none=>
   have hp:=f.2.1 l;rw[hp] at c0;replace c0:w.cell? (q,n *2)=some (.pointer none):=c0;have m:aH (FP F g (zP s n) (sH s n) w (.returned (.int .i64 6)) w):=by
    unfold aH zP sH;rw[J1 hi,ZG hi,l];exact⟨rfl,t,Kp.refl _ _⟩
   clear h ho t k f hp l;generalize R[n]=r at *;go_enter func70,ntmps70
   go_wp2_with fail
   refine aR x ?_;rintro e z ⟨rfl,rfl⟩;go_wp2_with fail
   go_ret
   exact m.o
  |some v=>
   obtain⟨a,hp,hs⟩:=f.2.2 v l;rw[hp] at c0;replace c0:w.cell? (q,n *2)=some (.pointer a):=c0;have hlen:=(k.sv _ (abY hi) v l).len;have D:=aP (Y3 hs aQ);have K:DH s.b n=0:=by
    unfold DH;rw[k.has n _ (abO hi),l];rfl
   have m:aH (zP s n=0/\sH s n=yV s n v):=by
    unfold aH zP sH;rw[J1 hi,ZG hi,l];exact⟨rfl,rfl⟩
   have N:=aP h;have E:=aP k;have HD:aH (yV s n v={s with b:=tR s.b n (tG v),P:=s.P.modify n λp=>{p with sv:=none}}):=rfl;generalize zP s n=rE at *;generalize sH s n=rV at *;clear h ho t k f hlen hs;go_enter func70,ntmps70
   go_wp2_with fail
   refine aR x ?_;rintro e z ⟨rfl,rfl⟩;go_wp2_with fail
   refine aR D ?_;rintro e z ⟨rfl,y⟩;obtain⟨t1,I⟩:=N.o.keep y;obtain⟨c0,c1,f0,f1⟩:=t1.pl c;obtain⟨t2,A⟩:=t1.setRow c hi {R[n] with pt:=none} (λp=>{p with sv:=none}) (j:=0) aQ (.pointer none) rfl ⟨(t1.ml n c hi).1,λ_=>rfl,λu hu=>(by cases hu)⟩;rw[acD] at t2 A;have O:=aP (SM t2.bk E.o.bk n (tG v) (by have:=E.o.len;show s.b.L.length<=_;omega));have J:=bO t2 (I.trans A);clear t1 I t2 A y D x;generalize R[n]=r at *;generalize tG v=lv at *;go_wp2_with fail
   refine aR O ?_;rintro e w5 ⟨rfl,⟨U,V,d5,m5⟩,k5⟩;have Q:aH (FP F g rE rV w (.returned (.int .i64 0)) w5):=by
    obtain⟨S,T⟩:=J.o.1.J4 m5 k5;unfold aH;rw[m.o.1,m.o.2,HD.o];exact⟨rfl,⟨_,_,_,_,_,_,S⟩,J.o.2.trans T⟩
   go_wp2_with fail
   go_ret
   exact Q.o
end
variable{sz m:Nat}{v:aC}{w':aA}{x:Lb}{y:La}
section
theorem Uv:jR prog 162 165 4 32:=fX (z:= .agg #[aU,aU,aU,aU]) underlying162 aV (by simp[Value.cells]) aQ
theorem Zh:jR prog 191 209 11 80:=fX (z:= .agg #[aU,aU,aU,aU,aU,aU,aU,false,false,aU,false]) underlying191 aV (by simp[Value.cells]) aQ
def MH{α:Type}(enc:α->List aC)(sz:Nat)(y:α)(v:aC)(w:aA):Prop:=∃G,v= .slice (some ⟨G,0,none⟩) 1 1/\Sl enc sz w (some ⟨G,0,none⟩) [y]
theorem MH.keep{α:Type}{enc:α->List aC}{y:α}(h:MH enc sz y v w)(a:bP w w'):MH enc sz y v w':=by obtain⟨G,h1,b⟩:=h;exact⟨G,h1,b.keep a⟩
section
variable{F:Nat->Prop}{w w':aA}{g q:Nat}{x:Lb}{y:La}
theorem bU.boxed(h:bU F w g x y)(hb:aD w w w')(hq:w.heap.size<=q)(a:q<w'.heap.size):bU (Fb F q) w' g x y:=
 ⟨h.ts,Ob.cM _ F (λb=>b<w.heap.size) (Fb F q) w w' h.o (Kp.cD hb λ_ h=>h) (λ_ c _=>c) (Fb.ol h.fl hb.size a) (λr c d hb=>hb.elim d (λe=>by omega))⟩
theorem bU.less(h:bU (Fb F q) w g x y):bU F w g x y:=⟨h.ts,(Ob.cM (jB g x y)).unbox h.o (λb hb=>h.fl b (.inl hb)) (bL w q)⟩
end
theorem xE(h:bU F w g x y)(kd:Int){o:Nat}{j:Jb}(c0:w.cell? (q,o)=some (.int .i64 j.tk))(c1:w.cell? (q,o+1)=some (.int .i64 j.nu))(hl:x.lg.length<=3000000000):
 aG prog 60 #[.pointer g,kd, .pointer (some ⟨q,o,none⟩)] w λr w'=>r= .returned (.tuple #[])/\(∃A c,bU F w' g (iY x kd j) {y with G:=A,cG:=c})/\Kp F w w':=by
 have C:=h.c 11 (.int .i64 x.nw) rfl;have s:=h.c 16 (.slice y.G x.lg.length y.cG) rfl;obtain⟨ev,u⟩:∃ev:Ev,ev=⟨kd,j.tk,j.nu,x.nw⟩:=⟨_,rfl⟩
 have S:aH (∀(W:aA) t,Sl rD 4 (W.alloc (.cells #[kd,j.tk,j.nu,x.nw] t)) (some ⟨W.heap.size,0,none⟩) [ev]):=λW t=>Sl.new xJ W ev _ (by rw[u];rfl) t
 have HE:aH (iY x kd j={x with lg:=x.lg++ [ev]}):=by unfold aH iY;rw[u]
 have T:=aP h;obtain⟨n,L⟩:∃n,n=x.lg.length:=⟨_,rfl⟩
 rw[<-L] at s hl;have U:=aP L;clear u h L;go_enter func60,ntmps60
 go_upto_region 0 with(fail)
 have a:=bE C;have f:=bE s;have i:=bE c0;have k:=bE c1;refine bN (bP _) (λ_=>bP) [27] (λ_ v w=>MH rD 4 ev v w) [22,25] [[22,21,20,10], [22,21,20,15], [22,21,20,19]] 31 (bZ _) (λ_ _ _ h M=>bV h M) (λ_ d hd _ v w w' _ h M=>h.keep M) aV aV aZ ?_;repeat (first|(refine eK ?_)|(refine sF 27 [] aZ aZ aZ aZ (λγ w hC N=>?_) ?_;(simp only[cE];go_simp;exact pG (aX w _) ⟨_,rfl,S.o w _⟩);(try refine cI ?_)))
 refine dG ?_;intro γ w5 z N;clear a f i k;simp only[cE,Act.put,abP,abV,abU];refine dS ?_;obtain⟨G,V,D⟩:=N 27 aT;rw[V];have O:=T.o.below z;have X:aH (∃own:bH rD 4 w5 0 165 y.G y.cG x.lg,True):=by
  obtain⟨J,h1⟩:=O.o;exact⟨(h1.get 8 (p:=PR rD 4 165 y.G y.cG x.lg) rfl).o,trivial⟩
 have Y:=X.o.1;have E:=aP (T.o.fl.below z);have P:=aP O;clear V N S c0 c1 C s O z X;refine bQ w5 rfl (.tmp 10) (.tmp 27) rfl Uv xJ (base:=0) (xs:=x.lg) Y (n:=n) U.o.symm rfl (m:=1) rfl (ys:= [ev]) rfl D dN aQ (ab0 _) _ rfl (n+1) rfl ?_;intro A6 c6 Q l B H;have I:bF Q g 193 (fQ x y):=by
  obtain⟨J,h1⟩:=P.o.o;have hr:gQ rD 4 165 y.G y.cG x.lg (Fo w5 J 9) w5:=h1.get 8 (p:=PR rD 4 165 y.G y.cG x.lg) rfl;have K:mV g 193 (fQ x y) (Fo w5 J 1) w5:=h1.get 0 (p:=PB g 193 (fQ x y)) rfl;refine K.b.grown B (λe=>?_);have h2:J g=1:=acE λhc=>K.nf ⟨K.b.lt,hc⟩
  exact hr.nf g e.symm ⟨K.b.lt,aQ⟩
 refine dY Q rfl 162 _ _ rfl g 16 (.slice A6 (n+1) c6) rfl rfl aV rfl (I.one (by simp[fQ])) ?_;refine cY ?_;refine cI ?_;have R:=P.o.PL U.o l B H;have Z:=bO R.1 (E.o.trans R.2);generalize Q.setCell (g,16) (.slice A6 (n+1) c6)=w7 at *;clear R l B H I Y D P E;go_wp2_with fail
 go_end0
 rw[HE.o];exact⟨rfl,⟨_,_,Z.o.1⟩,Z.o.2⟩
theorem KD(h:bU F w g x y)(hI:IS x n m)(hn:n<=1000000)(hm:m<=3000000000)(hi:i<x.ts.length)(d:Int):
 aG prog 57 #[.pointer g,i,d] w λr w'=>r= .returned (.tuple #[])/\(∃A c B b,bU F w' g (sV x i d) {y with J:=A,cJ:=c,G:=B,cG:=b})/\Kp F w w':=by
 have l:i<x.nu.length:=by rw[hI.lu];exact hi
 obtain⟨qT,A,cA,E,t0,t1,t2,t3,t4,hs⟩:=h.task hi;obtain⟨qU,hU,u0⟩:=h.num l;have e0:=h.c 0 (.slice y.T y.L.length y.cT) rfl;have e11:=h.c 11 (.int .i64 x.nw) rfl;have e13:=h.c 13 (.slice y.U x.nu.length y.cU) rfl;rw[E,h.len] at e0;rw[hU] at e13;have hTk:Xt (iG x i):=by
  unfold iG;rw[abZ,ab1,abO hi];exact hI.tk _ (abY hi)
 have b1:=hTk.d0;have b2:=hTk.d1;have b3:=hI.n0;have b4:=hI.n1;have b5:0<=x.nu.getD i 0/\x.nu.getD i 0<=n:=by
  rw[ab1,abO l];exact hI.nu _ (abY l)
 obtain⟨b5,b6⟩:=b5;have hjl:=hI.jl;have HLG:aH (x.lg.length<=3000000000):=abX hI.gl hm;obtain⟨v,hv⟩:∃v:Int,v=x.nu.getD i 0:=⟨_,rfl⟩
 rw[<-hv] at u0 b5 b6;obtain⟨k,j⟩:∃k:Lb,k={x with nu:=x.nu.set i (v+1)}:=⟨_,rfl⟩
 have h1:=h.Rq hU l (v+1);rw[<-j] at h1;have HJ:aH (qO x i d=⟨i,v+1,x.nw,x.nw+(iG x i).de,0,d,(iG x i).co,false,false,0,false⟩):=by unfold aH qO;rw[abZ,<-hv]
 have HE:aH (sV x i d=iY {k with jb:=k.jb++ [qO x i d]} 1 (qO x i d)):=by unfold aH sV;rw[abZ,<-hv,j]
 have HX:aH (k.jb=x.jb/\k.lg=x.lg/\k.nw=x.nw):=by rw[j];exact⟨rfl,rfl,rfl⟩
 have H1:=aP h1;have u1:(w.setCell (qU,i) (.int .i64 (v+1))).cell? (qU,i)=some (.int .i64 (v+1)):=by
  obtain⟨q',u,r'⟩:=h1.1.num (n:=i) (by rw[j];simpa using l);rw[hU] at u;injection u with u;injection u with u;subst u;rw[r',j];simp[l]
 have f0:w.frozen? (qU,i)=false:=by
  obtain⟨ow,h2⟩:=h.o;have hr:gQ eI 1 3 y.U y.cU x.nu (Fo w ow 6) w:=h2.get 5 (p:=PR eI 1 3 y.U y.cU x.nu) rfl;have ho:=hr.o;rw[hU] at ho;exact(dD ho i (by have:=ho.cap;omega)).2
 have i0:(0:Int)<=i:=aQ;have i1:(i:Int)<(x.nu.length:Int):=aQ;have i2:(i:Int)<(x.ts.length:Int):=aQ;have H:=h1.1.c 0 (.slice y.T y.L.length y.cT) rfl;have I:=h1.1.c 11 (.int .i64 x.nw) (by rw[j];rfl);have s:=h1.1.c 13 (.slice y.U x.nu.length y.cU) (by rw[j];simp[fQ]);obtain⟨qT',A',cA',z,s0,s1,s2,_⟩:=h1.1.task (n:=i) (by rw[j];exact hi);have hTk1:iG k i=iG x i:=by rw[j];rfl
 rw[hTk1] at s0 s1 s2;rw[E] at z H;injection z with z;injection z with z;subst z;rw[h.len] at H;rw[hU] at s;have HBN:aH (0<=v+1):=by unfold aH;omega
 have HLE:aH (∀W,bU F W g k y->W.cell? (g,15)=some (.slice y.J x.jb.length y.cJ)):=λW h=>h.c 15 _ (by rw[j];rfl)
 clear hv j h1 hU E h hI l hs t0 t1 t2 t3 t4 hTk hTk1;obtain⟨t,ht⟩:∃t:Tk,t=iG x i:=⟨_,rfl⟩
 rw[<-ht] at s0 s1 s2 b1 b2 HJ;have HTT:=aP ht;clear ht;go_enter func57,ntmps57
 go_upto_region 2 with(fail)
 generalize hwa:w.setCell (qU,i) (.int .i64 (v+1))=wa at *;have jA:w.heap.size=wa.heap.size:=by rw[<-hwa];simp[World.setCell]
 have C:=aX wa (aI #[t.co,t.pe,t.de] 122);have xb:=bF.fH wa 122 #[t.co,t.pe,t.de] (g:=w.heap.size) (by simp[jA]);have x0:=xb.cell 0 _ rfl;have x2:=xb.cell 2 _ rfl;have d11:=bK C I;have d13:=bK C s;have d1:=bK C u1;have H2:=bO (H1.o.1.below C) (H1.o.2.trans (H1.o.1.fl.below C));clear hwa jA xb C H1 H I s s0 s1 s2 u1 e0 e11 e13 u0 f0;generalize wa.alloc (aI #[t.co,t.pe,t.de] 122)=w2 at *;generalize w.heap.size=q6 at *;have K:=bE d13;have P:=bE d1;have M:=bE d11;have Q:=bE x0;have R:=bE x2;refine bN (bP _) (λ_=>bP) [7] (λ_ v w=>FR (jA d13) 209 #[aU,aU,aU,aU,aU,aU,aU,false,false,aU,false] v w) [25] [] 61 (bZ _) (λ_ _ _ h hz=>bV h hz) (λ_ d hd _ v w w' _ h hz=>h.keep hz) aV aV aZ ?_;repeat (first|(refine eK ?_)|(refine sF 7 [] aZ aZ aZ aZ (λγ w hC E=>?_) ?_;(simp only[cE];go_simp;exact pG (aX w _) ⟨_,rfl,Below.size hC,bF.new w _ _⟩);(try refine cI ?_)))
 refine dG ?_;intro γ w_ hb_ E;clear K P M Q R;simp only[cE,Act.put,abP,abV,abU];refine dS ?_;obtain⟨g7,e_,hm_,hk_⟩:=E 7 aT;simp only[e_];clear E e_;refine iP hm_ hb_ hk_ rfl 209 _ _ rfl #[i, .int .i64 (v+1),x.nw, .int .i64 (x.nw+t.de),aU,d,t.co,false,false,aU,false] rfl rfl rfl aV aV ?_;clear hm_ hb_ hk_;intro w5 hb5 a;refine cY ?_;simp only[Act.put];have hbx:bU (Fb F g7) w5 g k y:=H2.o.1.boxed hb5 a.1 a.2.lt;have H5:=bO hbx (H2.o.2.trans (H2.o.1.fl.below hb5));have e15:=HLE.o w5 hbx.less;have hB:=aP a.2;obtain⟨f,hjn⟩:∃f:Jb,f=qO x i d:=⟨_,rfl⟩
 rw[<-hjn] at HE;have D:wR w5 g7 0 f:=by
  rw[hjn,HJ.o];exact⟨a.2.cell 0 _ rfl,a.2.cell 1 _ rfl,a.2.cell 2 _ rfl,a.2.cell 3 _ rfl,a.2.cell 4 _ rfl,a.2.cell 5 _ rfl,a.2.cell 6 _ rfl,a.2.cell 7 _ rfl,a.2.cell 8 _ rfl,a.2.cell 9 _ rfl,a.2.cell 10 _ rfl⟩
 have j0:w5.cell? (g7,0)=some (.int .i64 f.tk):=D.c0;have j1:w5.cell? (g7,1)=some (.int .i64 f.nu):=D.c1;have j2:w5.cell? (g7,2)=some (.int .i64 f.ca):=D.c2;have j3:w5.cell? (g7,3)=some (.int .i64 f.de):=D.c3;have j4:w5.cell? (g7,4)=some (.int .i64 f.ra):=D.c4;have j5:w5.cell? (g7,5)=some (.int .i64 f.dm):=D.c5;have j6:w5.cell? (g7,6)=some (.int .i64 f.lf):=D.c6;have j7:w5.cell? (g7,7)=some (.bool f.bg):=D.c7;have j8:w5.cell? (g7,8)=some (.bool f.bh):=D.c8;have j9:w5.cell? (g7,9)=some (.int .i64 f.rs):=D.c9;have j10:w5.cell? (g7,10)=some (.bool f.lt):=D.yB;have HY:aH (∀(W:aA) t,Sl jU 11 (W.alloc (.cells #[f.tk,f.nu,f.ca,f.de,f.ra,f.dm,f.lf,f.bg,f.bh,f.rs,f.lt] t)) (some ⟨W.heap.size,0,none⟩) [f]):=λW t=>Sl.new kG W f _ rfl t
 have HJC:=aP D;obtain⟨S,hnj⟩:∃S,S=x.jb.length:=⟨_,rfl⟩
 rw[<-hnj] at e15 hjl;have HNJ:aH (k.jb.length=S):=by unfold aH;rw[HX.o.1,hnj]
 clear hbx a hb5 H2 d11 d13 d1 x0 x2 HLE D hjn hnj hB HJ;go_upto_region 3 with(fail)
 have N:=bE e15;have V:=bE j0;have X:=bE j1;have Y:=bE j2;have Z:=bE j3;have a1:=bE j4;have a6:=bE j5;have a7:=bE j6;have a8:=bE j7;have aa:=bE j8;have ab:=bE j9;have O:=bE j10;refine bN (bP _) (λ_=>bP) [55] (λ_ v w=>MH jU 11 f v w) [7,10] [[7,6,5]] 61 (bZ _) (λ_ _ _ h hz=>bV h hz) (λ_ d hd _ v w w' _ h hz=>h.keep hz) aV aV aZ ?_;repeat (first|(refine eK ?_)|(refine sF 55 [] aZ aZ aZ aZ (λγ w hC E=>?_) ?_;(simp only[cE];go_simp;exact pG (aX w _) ⟨_,rfl,HY.o w _⟩);(try refine cI ?_)))
 refine dG ?_;intro γ w8 ad E;clear N V X Y Z a1 a6 a7 a8 aa ab O;simp only[cE,Act.put,abP,abV,abU];refine dS ?_;obtain⟨G,hv,hsl⟩:=E 55 aT;rw[hv];have h8:=H5.o.1.below ad;have HO:∃own:bH jU 11 w8 0 209 y.J y.cJ k.jb,True:=by
  obtain⟨ow,h1⟩:=h8.o;exact⟨(h1.get 7 (p:=PR jU 11 209 y.J y.cJ k.jb) rfl).o,trivial⟩
 have hO:=HO.1;have hK8:=aP (H5.o.2.trans (H5.o.1.fl.below ad).unbox);have HJ8:=aP (HJC.o.keep ad);have H8:=aP h8;clear hv E HY e15 h8 ad HO j0 j1 j2 j3 j4 j5 j6 j7 j8 j9 j10 H5 HJC;refine bQ w8 rfl (.tmp 53) (.tmp 55) rfl Zh kG (base:=0) (xs:=k.jb) hO (n:=S) HNJ.o rfl (m:=1) rfl (ys:= [f]) rfl hsl dN aQ (ab0 _) _ rfl (S+1) rfl ?_;intro A6 c6 w6 own6 hg6 at6;have hb6:bF w6 g 193 (fQ k y):=by
  obtain⟨ow,h1⟩:=H8.o.o;have hr:gQ jU 11 209 y.J y.cJ k.jb (Fo w8 ow 8) w8:=h1.get 7 (p:=PR jU 11 209 y.J y.cJ k.jb) rfl;have hB:mV g 193 (fQ k y) (Fo w8 ow 1) w8:=h1.get 0 (p:=PB g 193 (fQ k y)) rfl;refine hB.b.grown hg6 (λe=>?_);have h2:ow g=1:=acE λhc=>hB.nf ⟨hB.b.lt,hc⟩
  exact hr.nf g e.symm ⟨hB.b.lt,aQ⟩
 refine dY w6 rfl 191 _ _ rfl g 15 (.slice A6 (S+1) c6) rfl rfl aV rfl (hb6.one (by simp[fQ])) ?_;refine cY ?_;refine cI ?_;have h7:=H8.o.FO HNJ.o.symm own6 hg6 at6;have H7:=bO h7.1 h7.2;have hj0:(w6.setCell (g,15) (.slice A6 (S+1) c6)).cell? (g7,0)=some (.int .i64 f.tk):=h7.2.cell HJ8.o.c0 (.inr rfl);have hj1:(w6.setCell (g,15) (.slice A6 (S+1) c6)).cell? (g7,0+1)=some (.int .i64 f.nu):=h7.2.cell HJ8.o.c1 (.inr rfl);have HC:=aP (xE h7.1 1 hj0 hj1 (by show k.lg.length<=_;rw[HX.o.2.1];exact HLG.o));have HKK:=aP (hK8.o.trans h7.2.unbox);generalize w6.setCell (g,15) (.slice A6 (S+1) c6)=w7 at *;clear h7 own6 hg6 at6 hb6 hO hsl H8 hK8 hj0 hj1 HJ8;go_wp2_with fail
 refine aR HC ?_;rintro e w9 ⟨rfl,⟨A9,c9,h9⟩,k9⟩;have H9:=bO h9.less (HKK.o.trans k9.unbox);clear h9 k9 HC HKK H7;go_wp2_with fail
 go_end0
 rw[HE.o];exact⟨rfl,⟨_,_,_,_,H9.o.1⟩,H9.o.2⟩
end
section
def Zd(F:Nat->Prop)(g:Nat)(x:Lb)(v:aC)(w:aA)(e:aM)(w':aA):Prop:=e= .returned v/\(∃y,bU F w' g x y)/\Kp F w w'
theorem kX.shaped{k:Nat}(h:kX x k){s:jJ}(hs:mD s (k+1)):kX (dZ x i s) (k+1):=
 (eJ.DJ (eJ.mono h (λ_=>abQ _) (λ_=>abQ _) (adA _) (abQ _) (abQ _)) i hs).mono (λj=>by split <;> omega) (λ_=>adA _) (abQ _) aQ aQ
section
variable{F:Nat->Prop}{w w':aA}{g:Nat}{x:Lb}{y:La}{i:Nat}
theorem bU.Ts(h:bU F w g x y)(hq:y.V=some ⟨q,0,none⟩)(hi:i<x.wt.length):w.frozen? (q,i)=false:=by
 obtain⟨a,b⟩:=h.o;have c:gQ eI 1 3 y.V y.cV x.wt (Fo w a 7) w:=b.get 6 (p:=PR eI 1 3 y.V y.cV x.wt) rfl;have ho:=c.o;rw[hq] at ho;exact(dD ho i (by have:=ho.cap;omega)).2
end
theorem Nc(h:bU F w g x y){k:Nat}(a:kX x k)(task d:Int)(hc:task<0\/(x.ts.length:Int)<=task\/d<1\/1048576<d):
 aG prog 27 #[.pointer g,task,d] w λe w'=>e= .returned (.int .i64 1)/\w=w':=by
 have b:=h.c 0 (.slice y.T y.L.length y.cT) rfl;rw[h.len] at b;clear h a;by_cases f:task<0
 .clear hc;go_enter func27,ntmps27
  go_wp2_with fail
  go_ret
  exact⟨rfl,rfl⟩
 .by_cases a2:(x.ts.length:Int)<=task
  .clear hc;go_enter func27,ntmps27
   go_wp2_with fail
   go_ret
   exact⟨rfl,rfl⟩
  .by_cases a3:d<1
   .clear hc;go_enter func27,ntmps27
    go_wp2_with fail
    go_ret
    exact⟨rfl,rfl⟩
   .have a4:1048576<d:=aQ;clear hc;go_enter func27,ntmps27
    go_wp2_with fail
    go_ret
    exact⟨rfl,rfl⟩
theorem Fw(h:bU F w g x y){k:Nat}(u:kX x k)(hk:k<=2900)(task d:Int):
 aG prog 27 #[.pointer g,task,d] w (Zd F g (oM x task d).2 (.int .i64 (oM x task d).1) w):=by
 by_cases hc:task<0\/(x.ts.length:Int)<=task\/d<1\/1048576<d
 .have m:oM x task d=(1,x):=by unfold oM;rw[abS hc]
  rw[m];exact(Nc h u task d hc).mono λe w' ⟨h1,h2⟩=>by subst h2;exact⟨h1,⟨y,h⟩,Kp.refl _ _⟩
 .obtain⟨i,rfl⟩:=abW (show 0<=task by omega);have hi:i<x.ts.length:=aQ;have hd:=h.below (Below.refl w w).drew;obtain⟨E,a,G,p0,H,hlen,eQ⟩:=hd.WZ u.ls hi;obtain⟨_,_,v⟩:=eJ.rA u hi;have D:=ZM (jQ x i) x.nw a k _ H v aQ;have U:=u.shaped (i:=i) (Q9 (now:=x.nw) v);obtain⟨s,c,e,X⟩:∃s c e,F4 x i=(s,c,e):=⟨_,_,_,rfl⟩
  have I:qJ (jQ x i) x.nw=(s,c,e):=X;rw[I] at D U;have m:aH (oM x i d=if e≠0 then(e,dZ x i s) else if c then(0,sV (dZ x i s) i d) else(0,{dZ x i s with wt:=x.wt.set i d})):=by
   unfold aH oM;rw[abT hc,X];rfl
  have HT:=aP eQ;have J:=aP D;have Y:=aP U;have e0:=h.c 0 (.slice y.T y.L.length y.cT) rfl;have K:=h.c 11 (.int .i64 x.nw) rfl;have A:=h.c 12 (.slice y.S y.a.length y.cS) rfl;have Z:w.cell? (E,i)=some (.pointer a):=p0;rw[h.len] at e0;rw[G,hlen] at A;have i0:(0:Int)<=i:=aQ;have i1:(i:Int)<(x.ts.length:Int):=aQ;have d0:1<=d:=aQ;have d1:d<=1048576:=aQ;have M:aH (∀b,bU F b g (dZ x i s) y->b.cell? (g,12)=some (.slice E x.ts.length y.cS)/\b.cell? (g,11)=some (.int .i64 x.nw)/\b.cell? (E,i)=some (.pointer a)):=by
   intro b l;obtain⟨ow,t⟩:=l.o;have a1:gQ yA 1 194 y.S y.cS y.a (Fo b ow 4) b:=t.get 3 (p:=PR yA 1 194 y.S y.cS y.a) rfl;have N:=a1.o;rw[G] at N;have z12:=l.c 12 (.slice y.S y.a.length y.cS) rfl;rw[G,hlen] at z12;obtain⟨a6,h6⟩:=h.o;have a7:gQ yA 1 194 y.S y.cS y.a (Fo w a6 4) w:=h6.get 3 (p:=PR yA 1 194 y.S y.cS y.a) rfl;have O:=a7.o;rw[G] at O;have P:i<y.a.length:=aQ;have v1:=bM FL O P (j:=0) rfl;have v3:=bM FL N P (j:=0) rfl;rw[adT,acD] at v1 v3;rw[Z] at v1;rw[<-v1] at v3;exact⟨z12,l.c 11 (.int .i64 x.nw) rfl,v3⟩
  have R:aH (∀b,bU F b g (dZ x i s) y->∃q,y.V=some ⟨q,0,none⟩/\b.cell? (g,14)=some (.slice (some ⟨q,0,none⟩) x.ts.length y.cV)/\(b.cell? ⟨q,i,none⟩).isSome=true/\b.frozen? ⟨q,i,none⟩=false/\i<x.wt.length):=by
   intro b l;have hw:i<x.wt.length:=by have:=u.lw;omega
   obtain⟨q,hq,r⟩:=l.wait (n:=i) (x:=dZ x i s) hw;have B:=l.c 14 (.slice y.V x.wt.length y.cV) rfl;rw[hq,u.lw] at B;exact⟨q,hq,B,by rw[r];rfl,l.Ts hq hw,hw⟩
  clear eQ D U X I p0 G H v hd h u hc hlen;go_enter func27,ntmps27
  go_upto_region 5 with(fail)
  go_region_held3 (λW=>W.cell? (g,12)=some (.slice E x.ts.length y.cS)/\W.cell? (g,11)=some (.int .i64 x.nw)/\W.cell? (E,i)=some (.pointer a)) (first|exact⟨A,K,Z⟩|exact⟨‹_›,‹_›,‹_›⟩) ((go_at_call 56;(refine aR J ?_);rintro z b ⟨rfl,l,k3⟩;(have t3:=HT.o _ _ l k3);(have H3:=bO t3.1 t3.2);(obtain⟨y1,y2,y3⟩:=M.o _ t3.1);clear l k3 t3))
  clear J HT M e0 K A Z y1 y2 y3;have C:aH (bU F b g (dZ x i s) y/\Kp F w b):=⟨H3.o.1,(Kp.refl F w).drew.trans H3.o.2⟩
  clear H3;by_cases he:e=0
  .subst he;cases c
   .have f:aH (oM x i d=(0,{dZ x i s with wt:=x.wt.set i d})):=by rw[m.o];rfl
    obtain⟨q,hq,B,r1,r2,hw⟩:=R.o _ C.o.1;have t:=C.o.1.Pe hq (i:=i) hw d;have Q:=bO t.1 (C.o.2.trans t.2);obtain⟨v0,r1⟩:=afN.1 r1;clear t R m hq hw;go_wp2_with fail
    go_ret
    rw[f.o];exact⟨rfl,⟨_,Q.o.1⟩,Q.o.2⟩
   .have f:aH (oM x i d=(0,sV (dZ x i s) i d)):=by rw[m.o];rfl
    have D:=aP (KD C.o.1 Y.o.R0 aQ aQ (i:=i) (by show i<x.ts.length;omega) d);clear R m;go_wp2_with fail
    refine aR D ?_;rintro z w5 ⟨rfl,⟨_,_,_,_,t⟩,k5⟩;have Q:=bO t (C.o.2.trans k5);clear t k5 D;go_wp2_with fail
    go_ret
    rw[f.o];exact⟨rfl,⟨_,Q.o.1⟩,Q.o.2⟩
  .have f:aH (oM x i d=(e,dZ x i s)):=by rw[m.o,abS he];rfl
   clear R m;go_wp2_with fail
   go_ret
   rw[f.o];exact⟨rfl,⟨_,C.o.1⟩,C.o.2⟩
end
section
theorem Qm:(prog.info? 209).map (λi=>(i.zero,i.size,i.bytes))=some (some (.agg #[aU,aU,aU,aU,aU,aU,aU,false,false,aU,false]),11,80):=aV
namespace Xu
theorem kU:∀w,(zeroValue 209).run prog w= .ok (.agg #[aU,aU,aU,aU,aU,aU,aU,false,false,aU,false]) w:=λw=>by kernel_rfl
variable{A:Option aJ}
theorem fK{c:Nat}(h:n=m):Ending.returned (.slice A n c)= .returned (.slice A m c):=by rw[h]
theorem lV(g c i k base:Nat)(L:List Jb)(w:aA)(own:bH jU 11 w base 209 g c L)(s:L.length=i+1+k)(hl:L.length<=4000000):
 aG prog 128 #[.slice g L.length c,i, .int .i64 ((i:Int)+1)] w λe w'=>e= .returned (.slice g (L.eraseIdx i).length c)/\bH jU 11 w' base 209 g c (L.eraseIdx i)/\w.grownBy w' (some g):=by
 obtain⟨i0,n,K,p,M⟩:=info_parts Qm;have v:(L.eraseIdx i).length=i+k:=by rw[adN,abS aQ];omega
 obtain⟨_,_,_,z,A,_,_⟩:=eY own;simp only[maxLen] at A;obtain⟨news,b⟩:∃news,news=(L.drop (i+1)).flatMap jU:=⟨_,rfl⟩
 have s1:aH (news.length=k *11):=by unfold aH;rw[b,fF kG.len,ad7];omega
 have s2:aH (∀u∈news,u.oneCell'=true):=λu hu=>rG kG _ u (by rw[<-b];exact hu)
 have H:aH (∀t,t<news.length->(w.drew.cell? ⟨g,0+i *11+t,none⟩).isSome=true/\w.drew.frozen? ⟨g,0+i *11+t,none⟩=false):=λt I=>by
  rw[s1.o] at I;exact dD own _ aQ
 have N:aH (∀t u,news[t]?=some u->w.drew.cell? ((⟨g,(i+1) *11,none⟩:aJ).add t)=some u):=λt u hu=>by
  have I:t<k *11:=by rw[<-s1.o];exact(ab7.1 hu).1
  have hF:=oR kG.len L (i+1);rw[b,hF,adF] at hu;rw[Addr.add_lit];obtain⟨cur,_,O,_,_,_,P⟩:=eY own;show w.cell? _=_;rw[cell_of_row w g _ cur _ (0,0) O,<-hu,<-P,acN,abS aQ,acH]
 obtain⟨m,h⟩:∃m,m=w.drew.setCells g (0+i *11) news:=⟨_,rfl⟩
 have J:=aP h;have B:=tS (w:=w.drew) kG.len own.drew i k s [.int .i64 0, .int .i64 0, .int .i64 0, .int .i64 0, .int .i64 0, .int .i64 0, .int .i64 0, .bool false, .bool false, .int .i64 0, .bool false] rfl;rw[<-b,show i *11=0+i *11 by omega,<-h] at B;have a:=aP B;have d:∀j,j<c *11->(m.cell? ⟨g,j,none⟩).isSome=true/\m.frozen? ⟨g,j,none⟩=false:=λj C=>by
  rw[h];have:=dD own j C;exact⟨Go.World.isSome_setCells g _ _ _ _ this.1,by rw[World.frozen?_setCells];exact this.2⟩
 have l:∀ty r D,r=1->(Builtin.clear_ #[191] ty #[.slice (some ⟨g,(i+k) *11,none⟩) r D]).run prog m= .ok (.tuple #[]) (m.setCells g ((i+k) *11) [.int .i64 0, .int .i64 0, .int .i64 0, .int .i64 0, .int .i64 0, .int .i64 0, .int .i64 0, .bool false, .bool false, .int .i64 0, .bool false]):=λty r D E=>
  lE m _ 209 ty _ underlying191 kU [.int .i64 0, .int .i64 0, .int .i64 0, .int .i64 0, .int .i64 0, .int .i64 0, .int .i64 0, .bool false, .bool false, .int .i64 0, .bool false] aV cH g ((i+k) *11) r D E (λj C=>d _ (by simp at C;omega))
 clear h B d b;rw[s];rw[s] at z;have Q:i<=c:=aQ;have R:i+1<=c:=aQ;have S:(0:Int)<=i+1:=aQ;have T:(i:Int)+1<=(i:Int)+1+(k:Int):=aQ;by_cases hce:c=i+1
 .obtain rfl:k=0:=aQ;obtain rfl:news= []:=acQ (by rw[s1.o]);have G:aH (∀t u,([]:List aC)[t]?=some u->w.drew.cell? ((⟨g,0,none⟩:aJ).add t)=some u):=λt u hu=>by simp at hu
  subst hce;have f:=λty=>l ty (i+1 - i) (i+1 - i) aQ
  simp only[acD] at f v⊢;have U:(i:Int)<=(i:Int)+1:=aQ;have V:i+1 - i=1:=aQ;rw[V] at f;clear l;go_enter func128,ntmps128
  go_wp2_with fail
  go_region_law (refine step_append_room rfl (.tmp 22) (.tmp 25) 191 rfl 209 i0 11 underlying191 n p g 0 i (i+1) (by simp[Act.eval,Act.put]) ⟨g,0,none⟩ 0 0 [] (by simp[Act.eval,Act.put]) s1.o G.o s2.o aQ H.o ?_;rw[<-J.o])
  go_wp2
  go_ret
  exact⟨fK aQ,a.o.1,⟨a.o.2.os,a.o.2.tape,a.o.2.output,a.o.2.size,a.o.2.block⟩⟩
 .have f:=λty=>l ty (i+1+k - (i+k)) (c - (i+k)) aQ
  clear l;go_enter func128,ntmps128
  go_wp2_with fail
  go_region_law (refine step_append_room rfl (.tmp 22) (.tmp 25) 191 rfl 209 i0 11 underlying191 n p g 0 i c (by simp[Act.eval,Act.put]) ⟨g,(i+1) *11,none⟩ k (c - (i+1)) news (by simp[Act.eval,Act.put]) s1.o N.o s2.o aQ H.o ?_;rw[<-J.o])
  go_wp2
  go_ret
  exact⟨fK aQ,a.o.1,⟨a.o.2.os,a.o.2.tape,a.o.2.output,a.o.2.size,a.o.2.block⟩⟩
end Xu
theorem UH(hi:i<x.jb.length)(j:Jb):dT (cO x i j) i=j:=by simp[dT,cO,hi]
theorem V7(hi:i<x.jb.length):cO x i (dT x i)=x:=by
 have:x.jb.set i (dT x i)=x.jb:=by
  unfold dT;rw[ab1,abO hi];simp
 unfold cO;rw[this]
section
variable{F:Nat->Prop}{w w':aA}{g:Nat}{x:Lb}{y:La}{i q:Nat}
theorem bU.vL{j:Jb}(h:bU F w g (cO x i j) y)(hq:y.J=some ⟨q,0,none⟩)(hi:i<x.jb.length){f:Nat}(hf:f<11)(a:Jb)(v:aC)(b:jU a=(jU j).set f v):bU F (w.setCell (q,i *11+f) v) g (cO x i a) y/\Kp F w (w.setCell (q,i *11+f) v):=by
 have h1:=h.FK hq (i:=i) (by simpa[cO] using hi) hf a v (by rw[UH hi];exact b);rw[show cO (cO x i j) i a=cO x i a by simp[cO]] at h1;exact h1
theorem bU.wX(h:bU F w g x y)(hq:y.J=some ⟨q,0,none⟩)(hi:i<x.jb.length){f:Nat}(hf:f<11):w.frozen? (q,i *11+f)=false:=by
 obtain⟨a,b⟩:=h.o;have c:gQ jU 11 209 y.J y.cJ x.jb (Fo w a 8) w:=b.get 7 (p:=PR jU 11 209 y.J y.cJ x.jb) rfl;have ho:=c.o;rw[hq] at ho;exact(dD ho _ (by have:=ho.cap;omega)).2
theorem bU.p9{j:Jb}(h:bU F w g (cO x i j) y)(hq:y.J=some ⟨q,0,none⟩)(hi:i<x.jb.length):wR w q (i *11) j:=by
 obtain⟨c,a,b⟩:=h.l7 (n:=i) (by simpa[cO] using hi);rw[hq] at a;injection a with a;injection a with a;subst a;rw[UH hi] at b;exact b
end
theorem Y0(h:bU F w g x y)(kd:Int)(hi:i<x.jb.length)(L:x.jb.length<=1000000)(hl:x.lg.length<=3000000000):
 aG prog 91 #[.pointer g,kd,i] w (λe w'=>e= .returned (.tuple #[])/\(∃K,bU F w' g (xW x kd i) K)/\Kp F w w'):=by
 obtain⟨q,hq,r⟩:=h.l7 hi;have j:=h.c 15 (.slice y.J x.jb.length y.cJ) rfl;rw[hq] at j;have D:=aP (xE h kd r.c0 r.c1 hl);have i0:(0:Int)<=i:=aQ;have i1:(i:Int)<(x.jb.length:Int):=aQ;have HQ:=aP hq;clear h r hq;go_enter func91,ntmps91
 go_wp2_with fail
 refine aR D ?_;rintro e f ⟨rfl,⟨A,c,n⟩,k2⟩;have d15:=n.c 15 (.slice y.J x.jb.length y.cJ) rfl;rw[HQ.o] at d15;obtain⟨s,h1⟩:=n.o;have t:gQ jU 11 209 y.J y.cJ x.jb (Fo f s 8) f:=h1.get 7 (p:=PR jU 11 209 y.J y.cJ x.jb) rfl;have k:mV g 193 (fQ (iY x kd (dT x i)) {y with G:=A,cG:=c}) (Fo f s 1) f:=h1.get 0 (p:=PB g 193 (fQ (iY x kd (dT x i)) {y with G:=A,cG:=c})) rfl;have ho:=t.o;rw[HQ.o] at ho;have HD:=aP (Xu.lV q y.cJ i (x.jb.length - i - 1) 0 x.jb f ho aQ aQ);have l:g≠q:=λe=>by
  have M:s g=1:=acE λhc=>k.nf ⟨k.b.lt,hc⟩
  have:=t.nf q (by rw[HQ.o];rfl);rw[<-e] at this;exact this ⟨k.b.lt,aQ⟩
 have E:=aP k.b;have u:=bO n k2;have v:aH (g≠q):=l;clear n k2 D ho t k h1 l j;go_wp2_with fail
 refine aR HD ?_;rintro e H ⟨rfl,yU,g3⟩;have d:=E.o.grown g3 (λe=>v.o (by injection e));have a:bH jU 11 H 0 209 y.J y.cJ (x.jb.eraseIdx i):=by rw[HQ.o];exact yU
 have m:f.grownBy H (aY y.J):=by rw[HQ.o];exact g3
 have z:=u.o.1.left (i:=i) hi a m rfl;have B:=bO z.1 (u.o.2.trans z.2);have f15:=d.frozen 15;have I:=d.cell 15 (.slice y.J x.jb.length y.cJ) rfl;rw[HQ.o] at B;have C:aH (xW x kd i={iY x kd (dT x i) with jb:=(iY x kd (dT x i)).jb.eraseIdx i}):=rfl;clear z yU g3 a m HD E u d d15;go_wp2_with fail
 go_end0
 rw[C.o];exact⟨rfl,⟨_,B.o.1⟩,B.o.2⟩
end
variable{K:Nat}
section
def Zi(F:Nat->Prop)(g:Nat)(x:Lb)(w:aA)(e:aM)(w':aA):Prop:=e= .returned (.tuple #[])/\(∃y',bU F w' g x y')/\Kp F w w'
theorem Py{nw:Int}{j:Jb}(h:AK n K nw j):0<=(gO j).lf/\(gO j).lf<=1048576:=by
 have b:=h.lf;have a:=h.bh;unfold gO;simp only;cases hb:j.bh
 .have:=a hb;simp;omega
 .simp;omega
def JX(j:Jb):Jb:={j with bh:=true,rs:=j.rs+1}
def E8(x:Lb)(j:Jb)(p:Int):Jb:={j with ca:=p,de:=p+(iG x j.tk).de,lf:=(iG x j.tk).co,rs:=j.rs+1,bg:=false,lt:=false}
def Ro(x:Lb)(i:Nat)(j:Jb):Lb:=
 let y:=cO x i j
 if j.ra=j.dm then xW y 2 i else if 0<j.lf then y else if(iG x j.tk).po=0 then xW y 3 i else if(iG x j.tk).po=1 then(if j.bh then y else iY (cO y i (JX j)) 4 (JX j)) else
 iY (cO (dZ y j.tk (jS (jQ x j.tk) x.nw).1) i (E8 x j (jS (jQ x j.tk) x.nw).2)) 5 (E8 x j (jS (jQ x j.tk) x.nw).2)
theorem bU.Y6(h:bU F w g x y)(hq:y.J=some ⟨q,0,none⟩)(hi:i<x.jb.length){f:Nat}(hf:f<11):w.there q (i *11+f) 1:=λj d=>by
 obtain rfl:j=0:=aQ;obtain⟨a,b⟩:=h.o;have c:gQ jU 11 209 y.J y.cJ x.jb (Fo w a 8) w:=b.get 7 (p:=PR jU 11 209 y.J y.cJ x.jb) rfl;have ho:=c.o;rw[hq] at ho;exact dD ho _ (by have:=ho.cap;omega)
theorem Jj(h:bU F w g x y){k:Nat}(hI:kX x k)(hk:k<=2900)(hi:i<x.jb.length):
 aG prog 59 #[.pointer g,i] w (Zi F g (qM x i) w):=by
 obtain⟨q,hq,jc⟩:=h.l7 hi;have HQ:=aP hq;have hJ:=(eJ.l7 hI hi).2;obtain⟨j,hj⟩:∃j,j=dT x i:=⟨_,rfl⟩
 rw[<-hj] at jc hJ;have h0:bU F w g (cO x i j) y:=by rw[hj,V7 hi];exact h
 obtain⟨t,htk⟩:=abW hJ.tk.1;have z:t<x.ts.length:=by have:=hJ.tk.2;omega
 have HR:aH (qM x i=Ro x i (gO j)):=by
  unfold aH qM Ro;rw[hj];rfl
 have e15:=h.c 15 (.slice y.J x.jb.length y.cJ) rfl;rw[hq] at e15;have i0:(0:Int)<=i:=aQ;have i1:(i:Int)<(x.jb.length:Int):=aQ;have f7:=h.wX hq hi (f:=7) aQ;have f4:=h.wX hq hi (f:=4) aQ;have c7:=jc.c7;have c4:=jc.c4;have b0:=hJ.ra.1;have b1:=hJ.ra.2;have b2:=hI.nw.2;obtain⟨n1,u⟩:=h0.vL hq hi (f:=7) aQ {j with bg:=true} (.bool true) rfl;obtain⟨n3,n4⟩:=n1.vL hq hi (f:=4) aQ {j with bg:=true,ra:=j.ra+1} (.int .i64 (j.ra+1)) rfl;have HN:=bO n3 (u.trans n4);have HJ:=aP hJ;have O:=aP hI;have HT:aH ((j.tk=(t:Int))/\t<x.ts.length):=⟨htk,z⟩
 clear n1 u n3 n4 h0 h hI hJ jc hj htk hq;go_enter func59,ntmps59
 go_upto_region 3 with(fail)
 generalize ((w.setCell (q,i *11+7) (.bool true)).setCell (q,i *11+4) (.int .i64 (j.ra+1)))=w3 at *;obtain⟨hn1,hn2⟩:=HN.o;have a:=hn1.p9 HQ.o hi;have a8:=a.c8;have a6:=a.c6;have f6:=hn1.wX HQ.o (by simpa[cO] using hi) (f:=6) aQ;have HL0:aH (-1048576<=j.lf/\j.lf<=1048576):=⟨by have:=HJ.o.lf;omega,by have:=HJ.o.lf;omega⟩
 have l0:=HL0.o.1;have l1:=HL0.o.2;clear hn1 hn2 a f7 f4 c7 c4 e15 b0 b1 b2 HL0;go_upto_if 30 with(fail)
 go_cut [] (λwx=>bU F wx g (cO x i (gO j)) y/\Kp F w wx)
 case first=>
  have HX:=aP (HN.o.1.vL HQ.o hi (f:=6) aQ {j with bg:=true,ra:=j.ra+1,lf:=j.lf - 1} (.int .i64 (j.lf - 1)) rfl);cases hb:j.bh
  .have HB:aH (gO j={j with bg:=true,ra:=j.ra+1,lf:=j.lf - 1}):=by unfold aH gO;rw[hb];rfl
   rw[hb] at a8;go_wp2_with fail
   go_meet
   rw[HB.o];exact⟨HX.o.1,HN.o.2.trans HX.o.2⟩
  .have HB:aH (gO j={j with bg:=true,ra:=j.ra+1}):=by unfold aH gO;rw[hb];rfl
   rw[hb] at a8;go_wp2_with fail
   go_meet
   rw[HB.o];exact HN.o
 case rest=>
 obtain⟨h5,k5⟩:=hcut;have B:aH ((gO j).tk=(t:Int)/\t<x.ts.length):=HT.o;have HJ5:aH ((-1<=(gO j).rs/\(gO j).rs<=3000)/\(gO j).lf<=1048576):=⟨⟨by have:=HJ.o.rs;show -1<=j.rs;omega,by have:=HJ.o.rs;show j.rs<=3000;omega⟩,by have:=(Py HJ.o).2;omega⟩
 clear HN a8 a6 f6 l0 l1 HJ HT;generalize gO j=r at *;have ha:=h5.p9 HQ.o hi;have a4:=ha.c4;have a5:=ha.c5;have a6:=ha.c6;have a0:=ha.c0;have D:=bO h5 k5;have HAt:=aP ha;clear h5 k5 ha;have HG:=aP (λW (hW:bU F W g (cO x i r) y) (kd:Int)=>Y0 hW kd (i:=i) (by simpa[cO] using hi) (by have:=O.o.jl;simp[cO];omega) (by have:=O.o.lg;simp[cO];omega));have HIw:=O.o.R0;obtain⟨qT,A,cA,hT,t0,t1,t2,t3,t4,_⟩:=D.o.1.task (n:=t) (by simpa[cO] using z);have P:=D.o.1.c 0 (.slice y.T y.L.length y.cT) rfl;rw[hT,show y.L.length=x.ts.length from D.o.1.len] at P;rw[B.o.1] at a0;have HTQ:=aP hT;clear hT t0 t1 t2 t3;have s0:(0:Int)<=t:=aQ;have s1:(t:Int)<(x.ts.length:Int):=aQ;obtain⟨tt,htt⟩:∃tt,tt=iG x t:=⟨_,rfl⟩
 have HTT:aH (tt=iG x r.tk):=by rw[B.o.1];exact htt
 rw[show iG (cO x i r) t=tt from htt.symm] at t4;have HP:aH (Ay tt):=by rw[htt];exact(eJ.task O.o z).2
 have hP1:=HP.o.po;have b:aH (qM x i=(let y:=cO x i r;if r.ra=r.dm then xW y 2 i else if 0<r.lf then y else if tt.po=0 then xW y 3 i else if tt.po=1 then(if r.bh then y else iY (cO y i (JX r)) 4 (JX r)) else iY (cO (dZ y r.tk (jS (jQ x r.tk) x.nw).1) i (E8 x r (jS (jQ x r.tk) x.nw).2)) 5 (E8 x r (jS (jQ x r.tk) x.nw).2))):=by
  rw[HR.o,HTT.o];rfl
 clear htt HR;by_cases e1:r.ra=r.dm
 .have e1b:(r.ra==r.dm)=true:=by simpa using e1
  have Q:aH (qM x i=xW (cO x i r) 2 i):=b.o.trans (by simp only[abS e1]);clear e1 b P t4 a6;go_upto_region 5 with(fail)
  go_quiet (fail)
  have h6:=D.o.1.below (fC wc nq);have H6:=aP (And.intro h6 (D.o.2.trans (D.o.1.fl.below (fC wc nq))));have R:=aP (HG.o _ h6 2);clear h6 D HAt a4 a5 a0;generalize wc.drewN nq=w6 at *;go_wp2_with fail
  refine aR R ?_;rintro e w7 ⟨rfl,⟨y7,h7⟩,k7⟩;have l:=bO h7 (H6.o.2.trans k7);clear h7 k7 R H6 HG;go_wp2_with fail
  refine bodyPost_ret (v:= .tuple #[]) (by simp[results,results59,go_sem]) rfl ?_;rw[Q.o];exact⟨rfl,⟨_,l.o.1⟩,l.o.2⟩
 .have e1b:(r.ra==r.dm)=false:=by simpa using e1
  by_cases e2:0<r.lf
  .have Q:aH (qM x i=cO x i r):=b.o.trans (by simp only[abT e1,abS e2]);clear e1 b P t4;go_upto_region 5 with(fail)
   go_quiet (fail)
   have h6:=D.o.1.below (fC wc nq);have H6:=aP (And.intro h6 (D.o.2.trans (D.o.1.fl.below (fC wc nq))));go_wp2_with fail
   refine bodyPost_ret (v:= .tuple #[]) (by simp[results,results59,go_sem]) rfl ?_;rw[Q.o];exact⟨rfl,⟨_,H6.o.1⟩,H6.o.2⟩
  .go_upto_region 5 with(fail)
   go_quiet (fail)
   have h6:=D.o.1.below (fC wc nq);have H6:=aP (And.intro h6 (D.o.2.trans (D.o.1.fl.below (fC wc nq))));have a6':(wc.drewN nq).cell? (q,i *11+6)=some (.int .i64 r.lf):=a6;have a0':(wc.drewN nq).cell? (q,i *11)=some (.int .i64 t):=a0;have t4':(wc.drewN nq).cell? (qT,t *5+4)=some (.int .i64 tt.po):=t4;have e0':(wc.drewN nq).cell? (g,0)=some (.slice qT x.ts.length y.cT):=P;clear h6 D HAt a4 a5 a0 a6 t4 P;generalize wc.drewN nq=w6 at *;go_upto_region 8 with(fail)
   go_quiet (fail)
   have h7:=H6.o.1.below (fC w6 nq);have l:=aP (And.intro h7 (H6.o.2.trans (H6.o.1.fl.below (fC w6 nq))));have E2:aH (¬0<r.lf):=e2;have E1:aH (¬r.ra=r.dm):=e1;clear h7 H6 a6' a0' t4' e0' e1 e1b e2;generalize w6.drewN nq=w7 at *;have U:aH (∀k,cO (cO x i r) i k=cO x i k):=λk=>by simp[cO]
   rcases(by omega:tt.po=0\/tt.po=1\/tt.po=2) with hp|hp|hp
   .have Q:aH (qM x i=xW (cO x i r) 3 i):=b.o.trans (by simp only[abT E1.o,abT E2.o,abS hp]);have p0:(tt.po==0)=true:=by simp[hp]
    have R:=aP (HG.o _ l.o.1 3);clear b hp hP1 U;generalize tt.po=po at *;go_wp2_with fail
    refine aR R ?_;rintro e w8 ⟨rfl,⟨y8,h8⟩,k8⟩;have E:=bO h8 (l.o.2.trans k8);clear h8 k8 R l HG;go_wp2_with fail
    refine bodyPost_ret (v:= .tuple #[]) (by simp[results,results59,go_sem]) rfl ?_;rw[Q.o];exact⟨rfl,⟨_,E.o.1⟩,E.o.2⟩
   .have p0:(tt.po==0)=false:=by simp[hp]
    have p1:(tt.po==1)=true:=by simp[hp]
    have a8:=(l.o.1.p9 HQ.o hi).c8;cases hb:r.bh
    .have Q:aH (qM x i=iY (cO x i (JX r)) 4 (JX r)):=b.o.trans (by simp only[abT E1.o,abT E2.o,hp,hb,U.o];simp);have a9:=(l.o.1.p9 HQ.o hi).c9;have f8:=l.o.1.wX HQ.o (by simpa[cO] using hi) (f:=8) aQ;have f9:=l.o.1.wX HQ.o (by simpa[cO] using hi) (f:=9) aQ;obtain⟨n1,u⟩:=l.o.1.vL HQ.o hi (f:=8) aQ {r with bh:=true} (.bool true) rfl;obtain⟨n3,n4⟩:=n1.vL HQ.o hi (f:=9) aQ (JX r) (.int .i64 (r.rs+1)) rfl;have C:=n3.p9 HQ.o hi;have R:=aP (xE n3 4 C.c0 C.c1 (by have:=O.o.lg;simp[cO];omega));have HK:=aP (l.o.2.trans (u.trans n4));have r0:=HJ5.o.1.1;have r1:=HJ5.o.1.2;rw[hb] at a8;clear b hp hP1 U n1 u n3 n4 C hb l;generalize tt.po=po at *;go_wp2_with fail
     refine aR R ?_;rintro e w8 ⟨rfl,⟨A8,c8,h8⟩,k8⟩;have E:=bO h8 (HK.o.trans k8);clear h8 k8 R HG HK;go_wp2_with fail
     refine bodyPost_ret (v:= .tuple #[]) (by simp[results,results59,go_sem]) rfl ?_;rw[Q.o];exact⟨rfl,⟨_,E.o.1⟩,E.o.2⟩
    .have Q:aH (qM x i=cO x i r):=b.o.trans (by simp only[abT E1.o,abT E2.o,hp,hb];simp);rw[hb] at a8;clear b hp hP1 U hb;generalize tt.po=po at *;go_wp2_with fail
     refine bodyPost_ret (v:= .tuple #[]) (by simp[results,results59,go_sem]) rfl ?_;rw[Q.o];exact⟨rfl,⟨_,l.o.1⟩,l.o.2⟩
   .have p0:(tt.po==0)=false:=by simp[hp]
    have p1:(tt.po==1)=false:=by simp[hp]
    have pe2:(tt.po==2)=true:=by simp[hp]
    have HX:∃s' p2,jS (jQ x r.tk) x.nw=(s',p2):=⟨_,_,rfl⟩
    obtain⟨s',p2,hps⟩:=HX;have hX:=eJ.rA O.o z;obtain⟨_,_,hok⟩:=hX;have V:jS (jQ x t) x.nw=(s',p2):=by rw[<-B.o.1];exact hps
    have hp2:0<=p2/\p2<=4000000000:=by
     have e1:p2=max x.nw (jQ x t).next:=by have:=congrArg Prod.snd V;exact this.symm
     have:=hok.n0;have:=hok.n1;have:=O.o.nw;omega
    have Q:aH (qM x i=iY (cO (dZ x t s') i (E8 x r p2)) 5 (E8 x r p2)):=b.o.trans (by
     simp only[abT E1.o,abT E2.o,hp,hps];rw[B.o.1];simp[cO,dZ])
    have HPU:=aP (λW a (hW:Sh W a (jQ x t))=>V6 (jQ x t) x.nw a k W hW hok aQ O.o.nw.1 O.o.nw.2);rw[V] at HPU;obtain⟨qT',A',cA',H,t0,t1,t2,_⟩:=l.o.1.task (n:=t) (by simpa[cO] using z);have P:=l.o.1.c 0 (.slice y.T y.L.length y.cT) rfl;rw[HTQ.o] at H P;injection H with H;injection H with H;subst H;rw[show y.L.length=x.ts.length from l.o.1.len] at P;have a0:=(l.o.1.p9 HQ.o hi).c0;rw[B.o.1] at a0;have HTT2:aH (iG x r.tk=tt):=HTT.o.symm;have N:iG (cO x i r) t=tt:=by rw[HTT.o,B.o.1];rfl
    rw[N] at t0 t1 t2;have q0:=HP.o.de.1;have q1:=HP.o.de.2;have HL:aH ((cO x i r).sh.length=(cO x i r).ts.length):=O.o.ls;have HP2:=aP hp2;clear b hp hP1 U hps V hok N HTT hp2;generalize tt.po=po at *;go_upto_region 17 with(fail)
    have aft_e0:=bE P;have aft_a0:=bE a0;have aft_t0:=bE t0;have aft_t1:=bE t1;have aft_t2:=bE t2;refine bN (bP _) (λ_=>bP) [5] (λ_ v w=>FR (jA P) 122 #[aU,aU,aU] v w) [13] [] 172 (bZ _) (λ_ _ _ h N=>bV h N) (λ_ d hd _ v w w' _ h N=>h.keep N) aV aV aZ ?_;repeat (first|(refine eK ?_)|(refine sF 5 [] aZ aZ aZ aZ (λγ w hC hT=>?_) ?_;(simp only[cE];go_simp;exact pG (aX w _) ⟨_,rfl,Below.size hC,bF.new w _ _⟩);(try refine cI ?_)))
    refine dG ?_;intro γ w_ hb_ hT;clear aft_e0 aft_a0 aft_t0 aft_t1 aft_t2;simp only[cE,Act.put,abP,abV,abU];refine dS ?_;obtain⟨g5,e_,hm_,hk_⟩:=hT 5 aT;simp only[e_];clear hT e_;refine iP hm_ hb_ hk_ rfl 122 _ _ rfl #[tt.co,tt.pe,tt.de] rfl rfl rfl aV aV ?_;clear hm_ hb_ hk_;intro w8 hb8 hm5;refine cY ?_;simp only[Act.put];have E:=bO (l.o.1.boxed hb8 hm5.1 hm5.2.lt) (l.o.2.trans (l.o.1.fl.below hb8));obtain⟨qS,a,hS,x0,_,hlen,_⟩:=E.o.1.WZ HL.o (i:=t) (by simpa[cO] using z);have e12:=E.o.1.c 12 (.slice y.S y.a.length y.cS) rfl;rw[hS,hlen] at e12;have e12':w8.cell? (g,12)=some (.slice qS x.ts.length y.cS):=e12;have e11:=E.o.1.c 11 (.int .i64 x.nw) rfl;have z0:=(E.o.1.p9 HQ.o hi).c0;rw[B.o.1] at z0;have HSQ:=aP hS;have hB5:=aP hm5.2;clear hS hlen e12 hm5 hb8 P a0 t0 t1 t2 l;go_upto_region 18 with(fail)
    have I:=bE e12';have aft_x0:=bE x0;have aft_z0:=bE z0;have X:=bE e11;refine bN (bP _) (λ_=>bP) [] (λ_ _ _=>True) [16,20] [[16,11,10,4], [16,11,10,9]] 172 (bZ _) (λ_ _ _ h N=>bV h N) (λ_ d hd _ v w w' _ h N=>by cases hd) aV aV aZ ?_;repeat refine eK ?_
    refine dG ?_;intro γ w9 Y hT;clear I aft_x0 aft_z0 X;simp only[cE,Act.put,abP,abV,abU];refine dS ?_;have h9:=E.o.1.below Y;obtain⟨qS',a',M,p,hsh,_,eQ⟩:=h9.WZ HL.o (i:=t) (by simpa[cO] using z);rw[HSQ.o] at M;injection M with M;injection M with M;subst M;have x0'':=bK Y x0;rw[x0''] at p;injection p with p;injection p with p;injection p with p;injection p with p;subst p;have HPP:=aP (HPU.o w9 _ hsh);have HTU:=aP eQ;have H9:=bO h9 (E.o.2.trans (E.o.1.fl.below Y).unbox);have hB9:=aP (hB5.o.keep Y);clear h9 hsh eQ x0'' Y E hB5 HPU x0 e12' e11 z0;refine wpList_plain rfl (λK hK=>?_);go_wp2_with fail
    refine aR HPP ?_;rintro e w10 ⟨rfl,hs10,hg10⟩;have t10:=HTU.o _ _ hs10 hg10;have hX:bU (Fb F g5) w10 g (cO (dZ x t s') i r) y:=t10.1;have h10:=bO hX (H9.o.2.trans t10.2.unbox);have hB10:=aP (t10.2.aY hB9.o (.inr rfl));refine hK _ _ ?_;clear hK K hs10 hg10 t10 hX HTU HPP H9 hB9;try refine cI ?_
    refine dY w10 rfl 3 _ _ rfl q (i *11+2) (.int .i64 p2) rfl rfl aV rfl (h10.o.1.Y6 HQ.o (by simpa[cO,dZ] using hi) aQ) ?_;refine cY ?_;try refine cI ?_
    obtain⟨n1,u⟩:=h10.o.1.vL HQ.o (by simpa[dZ] using hi) (f:=2) aQ {r with ca:=p2} (.int .i64 p2) rfl;have Z:=bO n1 (h10.o.2.trans u.unbox);have a1:=aP (u.aY hB10.o (.inr rfl));clear n1 u h10 hB10;generalize w10.setCell (q,i *11+2) (.int .i64 p2)=w11 at *;have a2:=(Z.o.1.p9 HQ.o (by simpa[dZ] using hi)).c2;have a2':w11.cell? (q,i *11+2)=some (.int .i64 p2):=a2;have d2:=a1.o.cell 2 tt.de rfl;have pp0:=HP2.o.1;have pp1:=HP2.o.2;clear a2;go_upto_region 19 with(fail)
    have a7:=bE a2';have aft_d2:=bE d2;refine bN (bP _) (λ_=>bP) [] (λ_ _ _=>True) [12] [] 172 (bZ _) (λ_ _ _ h N=>bV h N) (λ_ d hd _ v w w' _ h N=>by cases hd) aV aV aZ ?_;repeat refine eK ?_
    refine dG ?_;intro γ w12 G hT;clear a7 aft_d2;simp only[cE,Act.put,abP,abV,abU];refine dS ?_;have h12:=Z.o.1.below G;have k12:=Z.o.2.trans (Z.o.1.fl.below G).unbox;have hB12:=a1.o.keep G;obtain⟨n1,u⟩:=h12.vL HQ.o (by simpa[dZ] using hi) (f:=3) aQ {r with ca:=p2,de:=p2+tt.de} (.int .i64 (p2+tt.de)) rfl;have m:=bO n1 (k12.trans u.unbox);have hB13:=aP (u.aY hB12 (.inr rfl));refine dY w12 rfl 3 _ _ rfl q (i *11+3) (.int .i64 (p2+tt.de)) rfl rfl aV rfl (h12.Y6 HQ.o (by simpa[cO,dZ] using hi) aQ) ?_;refine cY ?_;try refine cI ?_
    clear n1 u h12 k12 hB12 G Z a1 a2' d2 pp0 pp1;generalize w12.setCell (q,i *11+3) (.int .i64 (p2+tt.de))=w13 at *;have s:i<(dZ x t s').jb.length:=hi;have c9:=(m.o.1.p9 HQ.o s).c9;have c9':w13.cell? (q,i *11+9)=some (.int .i64 r.rs):=c9;have d0:=hB13.o.cell 0 tt.co rfl;have aa:i<(cO (dZ x t s') i {r with ca:=p2,de:=p2+tt.de}).jb.length:=by simpa[cO] using s
    have f6:=m.o.1.wX HQ.o aa (f:=6) aQ;have f9:=m.o.1.wX HQ.o aa (f:=9) aQ;have f7:=m.o.1.wX HQ.o aa (f:=7) aQ;have f10:=m.o.1.wX HQ.o aa (f:=10) aQ;have c6:=(m.o.1.p9 HQ.o s).c6;have c6':w13.cell? (q,i *11+6)=some (.int .i64 r.lf):=c6;have c7:=(m.o.1.p9 HQ.o s).c7;have c7':w13.cell? (q,i *11+7)=some (.bool r.bg):=c7;have yB:=(m.o.1.p9 HQ.o s).yB;have c10':w13.cell? (q,i *11+10)=some (.bool r.lt):=yB;clear c9 c6 c7 yB;obtain⟨n1,m1⟩:=m.o.1.vL HQ.o s (f:=6) aQ {r with ca:=p2,de:=p2+tt.de,lf:=tt.co} (.int .i64 tt.co) rfl;obtain⟨u,m2⟩:=n1.vL HQ.o s (f:=9) aQ {r with ca:=p2,de:=p2+tt.de,lf:=tt.co,rs:=r.rs+1} (.int .i64 (r.rs+1)) rfl;obtain⟨n3,m3⟩:=u.vL HQ.o s (f:=7) aQ {r with ca:=p2,de:=p2+tt.de,lf:=tt.co,rs:=r.rs+1,bg:=false} (.bool false) rfl;obtain⟨n4,m4⟩:=n3.vL HQ.o s (f:=10) aQ {r with ca:=p2,de:=p2+tt.de,lf:=tt.co,rs:=r.rs+1,bg:=false,lt:=false} (.bool false) rfl;have hpj:({r with ca:=p2,de:=p2+tt.de,lf:=tt.co,rs:=r.rs+1,bg:=false,lt:=false}:Jb)=E8 x r p2:=by unfold E8;rw[HTT2.o]
    rw[hpj] at n4;have C:=n4.p9 HQ.o s;have R:=aP (xE n4 5 C.c0 C.c1 (by have:=O.o.lg;simp[cO,dZ];omega));have HK:=aP (m.o.2.trans (m1.trans (m2.trans (m3.trans m4))).unbox);have r0:=HJ5.o.1.1;have r1:=HJ5.o.1.2;clear n1 u n3 n4 m1 m2 m3 m4 C hpj m hB13 aa;go_wp2_with fail
    refine aR R ?_;rintro e w20 ⟨rfl,⟨A8,c8,h20⟩,k20⟩;have H20:=bO h20.less (HK.o.trans k20.unbox);clear h20 k20 R HG HK;go_wp2_with fail
    refine bodyPost_ret (v:= .tuple #[]) (by simp[results,results59,go_sem]) rfl ?_;rw[Q.o];exact⟨rfl,⟨_,H20.o.1⟩,H20.o.2⟩
end
variable{sb nb:Nat->Nat}
section
theorem eJ.R0{e:Nat}(h:eJ x sb nb K m e)(h1:∀i,sb i<=n)(c:∀i,nb i<=n)(k:K<=n)(l:m<=n):IS x n e:=
 ⟨h.lr,h.ls,h.ln,h.lw,h.n,λt a=>⟨(h.tk t a).co.1,(h.tk t a).co.2,(h.tk t a).pe.1,(h.tk t a).pe.2,(h.tk t a).de.1,(h.tk t a).de.2,(h.tk t a).se,(h.tk t a).po.1,(h.tk t a).po.2⟩,h.nw.1,h.nw.2,
  λs hs=>by
   obtain⟨i,hi,rfl⟩:=acL hs;exact(h.sk i _ (abO hi)).mono (h1 i),
  λv d=>by
   obtain⟨i,hi,rfl⟩:=acL d;have:=h.nk i _ (abO hi);have:=c i;omega,
  by have:=h.jl;omega,λj f=>by
   have h1:=h.jk j f;have b:=h1.tk;have a2:=h1.ra;have a3:=h1.lf;have a4:=h1.ca;have a5:=h1.de;have g:=h1.rs;have o:=h.nw;exact⟨b.1,b.2,a2.1,a2.2,aQ,a3.2,a4.1,aQ,a5.1,aQ,g.1,aQ⟩,h.lg⟩
theorem bU.Qt(h:bU F w g x y):y.a.length=x.sh.length:=by
 obtain⟨b,h1⟩:=h.o;have hs:FM (Fo w b 5) w y.a x.sh:=h1.get 4 (p:=OS y.a x.sh) rfl;exact hs.len
theorem Sq{s:jJ}{n:Int}(h:(lY s n).2=false):(lY s n).1=s:=by
 unfold lY at *;split
 .rfl
 .rename_i hc;rw[abT hc] at h;cases h
theorem XN(hi:i<x.sh.length):dZ x i (jQ x i)=x:=by
 have:x.sh.set i (jQ x i)=x.sh:=by
  unfold jQ;rw[abZ,ab1,abO hi];simp
 unfold dZ;rw[abZ,this]
def qY(x:Lb)(o:Option Nat):Int×Int:=match o with
 |none=>(-1,0)
 |some i=>((dT x i).tk,(dT x i).nu)
def Bt(F:Nat->Prop)(g:Nat)(x:Lb)(given:Bool)(w:aA)(e:aM)(w':aA):Prop:=e= .returned (.tuple #[.int .i64 (qY x (nZ x given)).1, .int .i64 (qY x (nZ x given)).2,true])/\(∃y',bU F w' g (jG x given) y')/\Kp F w w'
theorem ZK(h:bU F w g x y){k:Nat}(hI:kX x k)(hk:k<=2800)(hn:x.nw<1048576)(given:Bool):
 aG prog 28 #[.pointer g,given] w (Bt F g x given w):=by
 have t:=h.c 11 (.int .i64 x.nw) rfl;have HL:=aP h;have HI:=aP hI;have HN:aH (x.nw<1048576):=hn;have n0:=hI.nw.1;clear h hI;go_enter func28,ntmps28
 go_upto_if 21 with(fail)
 go_cut [7] (λs7 wx=>∃o,s7= .int .i64 (uH o)/\aH (nZ x given=o)/\aD w w wx)
 case first=>
  cases given
  .have HE:aH (nZ x false=none):=rfl;go_wp2_with fail
   go_meet
   exact⟨none,rfl,HE,Below.refl _ _⟩
  .have HE:aH (nZ x true=nB x):=rfl;have Q:=aP (NN HL.o HI.o.R0 aQ);go_wp2_with fail
   refine aR Q ?_;rintro e w2 ⟨rfl,hb⟩;have HB:=aP hb;clear hb Q;go_wp2_with fail
   go_meet
   exact⟨_,rfl,HE.o,HB.o⟩
 case rest=>
 obtain⟨o,rfl,HO,z⟩:=hcut;have W:aH (∀i,o=some i->i<x.jb.length):=λi hi=>by
  have h1:=HO.o;rw[hi] at h1;unfold nZ at h1;split at h1
  .exact RP h1
  .cases h1
 have h2:=HL.o.below z;have H2:=bO h2 (HL.o.fl.below z);replace t:=h2.c 11 (.int .i64 x.nw) rfl;clear h2 z HL;generalize wc=w2 at *;go_upto_if 25 with(fail)
 go_cut [4,5] (λs4 s5 wx=>s4= .int .i64 (qY x o).1/\s5= .int .i64 (qY x o).2/\aD w2 w2 wx)
 case first=>
  cases o with
  |none=>
   rw[show uH none= -1 from rfl];go_wp2_with fail
   go_meet
   exact⟨rfl,rfl,Below.refl _ _⟩
  |some i=>
   have hi:=W.o i rfl;obtain⟨q,hq,R⟩:=H2.o.1.l7 hi;have u:=H2.o.1.c 15 (.slice y.J x.jb.length y.cJ) rfl;rw[hq] at u;have c0:=R.c0;have c1:=R.c1;have i0:(0:Int)<=i:=aQ;have i1:(i:Int)<(x.jb.length:Int):=aQ;rw[show uH (some i)=(i:Int) from rfl];clear hq R hi;go_upto_region 8 with(fail)
   go_quiet (fail)
   go_wp2_with fail
   go_meet
   exact⟨rfl,rfl,fC _ _⟩
 case rest=>
 obtain⟨rfl,rfl,z⟩:=hcut;have h3:=H2.o.1.below z;have t:=h3.c 11 (.int .i64 x.nw) rfl;have f11:=h3.bk.frozen 11;have h4:=h3.now (x.nw+1);have H4:=aP (And.intro h4.1 ((H2.o.2.trans (H2.o.1.fl.below z)).trans h4.2));clear h3 h4 z H2;generalize wc=w3 at *;go_upto_if 52 with(fail)
 generalize w3.setCell (g,11) (.int .i64 (x.nw+1))=w4 at *;clear t f11;go_cut [] (λwx=>∃l,bU F wx g (rJ x given) l/\Kp F w wx)
 case first=>
  cases o with
  |none=>
   have L:aH (rJ x given={x with nw:=x.nw+1}):=by unfold aH rJ;rw[HO.o]
   rw[show uH none= -1 from rfl];go_wp2_with fail
   go_meet
   rw[L.o];exact⟨_,H4.o⟩
  |some i=>
   have L:aH (rJ x given=qM {x with nw:=x.nw+1} i):=by unfold aH rJ;rw[HO.o]
   have hi:=W.o i rfl;have Q:=aP (Jj H4.o.1 (k:=k) (eJ.up HI.o HN.o) aQ (i:=i) hi);rw[show uH (some i)=(i:Int) from rfl];go_wp2_with fail
   refine aR Q ?_;rintro e w5 ⟨rfl,⟨y5,h5⟩,k5⟩;have H5:=bO h5 (H4.o.2.trans k5);clear h5 k5 Q;go_wp2_with fail
   go_meet
   rw[L.o];exact⟨_,H5.o⟩
 case rest=>
 obtain⟨l,h5,k5⟩:=hcut;have C:=aP (kX.gM HI.o HN.o given);have HTK:aH (jG x given=eL (eT (rJ x given) (rJ x given).jb.length) x.ts.length):=rfl;obtain⟨X,hX⟩:∃X,X=rJ x given:=⟨_,rfl⟩
 rw[<-hX] at h5 C HTK;obtain⟨m,hm⟩:∃m,m=X.jb.length:=⟨_,rfl⟩
 have L:=aP hm;have u:=h5.c 15 (.slice l.J X.jb.length l.cJ) rfl;rw[<-hm] at u;have hml:m<=100000:=by have:=C.o.1.jl;omega
 have H5:=bO h5 k5;clear h5 k5 H4 W hX hm n0;generalize wc=w5 at *;go_upto_region 13 with(fail)
 go_loopw [61] (λv61 wr=>∃j:Nat,j<=m/\v61= .int .i64 j/\∃A c,aH (bU F wr g (eT X j) {l with G:=A,cG:=c}/\Kp F w wr)) (λv61 _=>m - (aL v61).toNat)
 case atStart=>exact⟨0,ab0 _,rfl,l.G,l.cG,H5.o⟩
 case round=>
  obtain⟨j,hj,rfl,A,c,p⟩:=hrel;clear u;by_cases M:j<m
  .have hl:=(uF X j).1;rw[<-L.o] at hl;obtain⟨q,hq,R⟩:=p.o.1.l7 (n:=j) (by rw[hl];exact M);have u:=p.o.1.c 15 (.slice l.J (eT X j).jb.length l.cJ) rfl;have t:=p.o.1.c 11 (.int .i64 (eT X j).nw) rfl;rw[hl] at u;rw[show l.J=some ⟨q,0,none⟩ from hq] at u;have HLG:aH ((eT X j).lg.length<=3000000000):=by
    have h1:=(C.o.1.PE j (by have:=L.o;omega)).lg;unfold aH;omega
   have hjl:j<(eT X j).jb.length:=aQ;have N:aH (eT X (j+1)=if(dT (eT X j) j).bh=false/\(dT (eT X j) j).lt=false/\(dT (eT X j) j).de<=(eT X j).nw then iY (cO (eT X j) j {dT (eT X j) j with lt:=true}) 6 {dT (eT X j) j with lt:=true} else eT X j):=rfl;have HQ:aH (l.J=some ⟨q,0,none⟩):=hq;have HJL:aH (j<(eT X j).jb.length):=hjl;generalize eT X j=Z at *;have c3:=R.c3;have c8:=R.c8;have yB:=R.yB;obtain⟨U,hjv⟩:∃U,U=dT Z j:=⟨_,rfl⟩
   rw[<-hjv] at c3 c8 yB N;have HJV:=aP hjv;have j0:(0:Int)<=j:=aQ;have j1:(j:Int)<(m:Int):=aQ;clear hq R hl hjl hjv;cases hb:U.bh
   .rw[hb] at c8;cases r:U.lt
    .rw[r] at yB;by_cases hde:U.de<=Z.nw
     .have HE:aH (eT X (j+1)=iY (cO Z j {U with lt:=true}) 6 {U with lt:=true}):=N.o.trans (abS ⟨hb,r,hde⟩);clear N hb r;go_upto_region 16 with(fail)
      go_quiet (fail)
      have E:=p.o.1.below (fC wr nq);have k7:=p.o.2.trans (p.o.1.fl.below (fC wr nq));have f10:=E.wX (i:=j) HQ.o HJL.o (f:=10) aQ;have hx:=E.FK (i:=j) HQ.o HJL.o (f:=10) aQ {U with lt:=true} (.bool true) (by rw[<-HJV.o];rfl);have a10:=hx.1.p9 HQ.o HJL.o;have HB:=aP (xE hx.1 6 a10.c0 a10.c1 (by show Z.lg.length<=_;exact HLG.o));have HK:=aP (k7.trans hx.2);have c10':(wr.drewN nq).cell? (q,j *11+10)=some (.bool false):=yB;clear t u c3 c8 yB E k7 hx a10 p HLG;generalize wr.drewN nq=wz at *;go_wp2_with fail
      refine aR HB ?_;rintro e w8 ⟨rfl,⟨A8,c9,h8⟩,k8⟩;have s:aH (bU F w8 g (eT X (j+1)) {l with G:=A8,cG:=c9}/\Kp F w w8):=by rw[HE.o];exact⟨h8,HK.o.trans k8⟩
      clear h8 k8 HB HE;go_wp2_with fail
      refine⟨⟨j+1,aQ,rfl,A8,c9,s.o⟩,by simp only[aL];omega⟩
     .have s:aH (bU F wr g (eT X (j+1)) {l with G:=A,cG:=c}/\Kp F w wr):=by rw[N.o,abT (λh=>hde h.2.2)];exact p.o
      clear N p hb r;go_upto_region 16 with(fail)
      go_quiet (fail)
      go_wp2_with fail
      refine⟨⟨j+1,aQ,rfl,A,c,s.o.1.below (fC _ _),s.o.2.trans (s.o.1.fl.below (fC _ _))⟩,by simp only[aL];omega⟩
    .have s:aH (bU F wr g (eT X (j+1)) {l with G:=A,cG:=c}/\Kp F w wr):=by rw[N.o,abT (λh=>by rw[r] at h;exact absurd h.2.1 aT)];exact p.o
     rw[r] at yB;clear N p hb r;go_upto_region 16 with(fail)
     go_quiet (fail)
     go_wp2_with fail
     refine⟨⟨j+1,aQ,rfl,A,c,s.o.1.below (fC _ _),s.o.2.trans (s.o.1.fl.below (fC _ _))⟩,by simp only[aL];omega⟩
   .have s:aH (bU F wr g (eT X (j+1)) {l with G:=A,cG:=c}/\Kp F w wr):=by rw[N.o,abT (λh=>by rw[hb] at h;exact absurd h.1 aT)];exact p.o
    rw[hb] at c8;clear N p hb;go_upto_region 16 with(fail)
    go_quiet (fail)
    go_wp2_with fail
    refine⟨⟨j+1,aQ,rfl,A,c,s.o.1.below (fC _ _),s.o.2.trans (s.o.1.fl.below (fC _ _))⟩,by simp only[aL];omega⟩
  .obtain rfl:j=m:=aQ;have HD:=aP (eJ.PE C.o.1 j (by have:=L.o;omega));have hlt':¬(j:Int)<(j:Int):=aQ;have B:aH (jG x given=eL (eT X j) x.ts.length):=by rw[HTK.o,<-L.o];exact rfl
   have H:aH ((eT X j).ts.length=x.ts.length):=by unfold aH;rw[(uF X j).2];exact C.o.2
   obtain⟨Y,hY⟩:∃Y,Y=eT X j:=⟨_,rfl⟩
   rw[<-hY] at p HD B H;have hsl:Y.sh.length=x.ts.length:=by have:=HD.o.ls;have:=H.o;omega
   have e12:=p.o.1.c 12 (.slice l.S l.a.length l.cS) rfl;have hal:=p.o.1.Qt;rw[show l.a.length=x.ts.length from hal.trans hsl] at e12;have htl:x.ts.length<=8:=by have:=HI.o.n;omega
   obtain⟨T,hT⟩:∃T,T=x.ts.length:=⟨_,rfl⟩
   rw[<-hT] at e12 htl B H;clear hY hsl hal hT HTK C L t H5;go_upto_region 21 with(fail)
   go_loopw [107] (λv107 wr=>∃i:Nat,i<=T/\v107= .int .i64 i/\∃J cJ G cG,aH (bU F wr g (eL Y i) {l with J:=J,cJ:=cJ,G:=G,cG:=cG}/\Kp F w wr)) (λv107 _=>T - (aL v107).toNat)
   case atStart=>exact⟨0,ab0 _,rfl,l.J,l.cJ,A,c,p.o⟩
   case round=>
    clear p e12 hlt' M hj;obtain⟨i,hi,rfl,J,cJ,G,cG,p⟩:=hrel;by_cases M:i<T
    .have I:=aP (eJ.Ih (abQ _) HD.o i (by have:=H.o;omega));have D:i<(eL Y i).ts.length:=by rw[(GC Y i).1,H.o];exact M
     obtain⟨hs1,e1,O⟩:=I.o.rA D;rw[abT (adL i)] at O;obtain⟨qS,a,hS,x0,hsh,hlen,eQ⟩:=p.o.1.WZ I.o.ls D;have hS':l.S=some ⟨qS,0,none⟩:=hS;have Q:=Bf (jQ (eL Y i) i) (eL Y i).nw a (k+1) wr hsh O aQ;have HKC:=(eJ.DJ I.o i (Q1 (now:=(eL Y i).nw) O))
     have HSL:aH ((lY (jQ (eL Y i) i) (eL Y i).nw).2=false->dZ (eL Y i) i (lY (jQ (eL Y i) i) (eL Y i).nw).1=eL Y i):=λh=>by
      rw[Sq h];exact XN (by rw[I.o.ls];exact D)
     have hDS:eL Y (i+1)=if(lY (jQ (eL Y i) i) (eL Y i).nw).2 then sV (dZ (eL Y i) i (lY (jQ (eL Y i) i) (eL Y i).nw).1) i ((eL Y i).wt.getD i 0) else eL Y i:=rfl
     have hwl:i<(eL Y i).wt.length:=by rw[I.o.lw];exact D
     have t:=p.o.1.c 11 (.int .i64 (eL Y i).nw) rfl;have P:=aP hDS;have HTU:=aP eQ;have HCC:=aP Q;have HKW:=aP (HKC.R0 (n:=8 *k+100) (λj=>by split <;> (try split) <;> omega) (λj=>by split <;> omega) aQ aQ);have HLI:aH (1000000 *k+1+j+i<=3000000000):=by unfold aH;omega
     have HIT:aH (i<(eL Y i).ts.length/\i<(eL Y i).wt.length):=⟨D,hwl⟩
     clear hDS eQ Q HKC D hwl hlen hS hsh O e1 hs1;generalize hb:(lY (jQ (eL Y i) i) (eL Y i).nw).2=b at *;generalize (lY (jQ (eL Y i) i) (eL Y i).nw).1=s' at *;generalize eL Y i=Z at *;have i0:(0:Int)<=i:=aQ;have i1:(i:Int)<(T:Int):=aQ;clear hb;rw[hS'];go_wp2_with fail
     refine aR HCC ?_;rintro e w6 ⟨rfl,hs6,hg6⟩;obtain⟨E,k7⟩:=HTU.o w6 s' hs6 hg6;cases b
     .rw[HSL.o rfl] at E;have s:aH (bU F w6 g (eL Y (i+1)) {l with J:=J,cJ:=cJ,G:=G,cG:=cG}/\Kp F w w6):=by rw[P.o];exact⟨E,p.o.2.trans k7⟩
      clear E k7 hs6 hg6 HCC HTU P HSL HKW x0 t;go_wp2_with fail
      rw[hS'] at s;refine⟨⟨i+1,aQ,rfl,J,cJ,G,cG,s.o⟩,by simp only[aL];omega⟩
     .obtain⟨qV,hV,r0⟩:=E.wait (n:=i) (by exact HIT.o.2);have e14:=E.c 14 (.slice l.V (dZ Z i s').wt.length l.cV) rfl;rw[show l.V=some ⟨qV,0,none⟩ from hV] at e14;have hwl:(i:Int)<((dZ Z i s').wt.length:Int):=by have:=HIT.o.2;show(i:Int)<(Z.wt.length:Int);omega
      have HCM:=aP (KD E HKW.o aQ HLI.o (i:=i) HIT.o.1 (Z.wt.getD i 0));have HKK:=aP (p.o.2.trans k7);have K:aH (eL Y (i+1)=sV (dZ Z i s') i (Z.wt.getD i 0)):=P.o.trans (abS rfl);have r0':w6.cell? ⟨qV,i,none⟩=some (.int .i64 (Z.wt.getD i 0)):=r0;obtain⟨d,hd⟩:∃d,d=Z.wt.getD i 0:=⟨_,rfl⟩
      rw[<-hd] at HCM K r0';clear E k7 hs6 hg6 HCC HTU P HSL HKW x0 t hV p r0 hd;go_wp2_with fail
      refine aR HCM ?_;rintro e w8 ⟨rfl,⟨J8,cJ8,G8,cG8,h8⟩,k8⟩;have s:aH (bU F w8 g (eL Y (i+1)) {l with J:=J8,cJ:=cJ8,G:=G8,cG:=cG8}/\Kp F w w8):=by rw[K.o];exact⟨h8,HKK.o.trans k8⟩
      clear h8 k8 HCM HKK K;go_wp2_with fail
      rw[hS'] at s;refine⟨⟨i+1,aQ,rfl,J8,cJ8,G8,cG8,s.o⟩,by simp only[aL];omega⟩
    .obtain rfl:i=T:=aQ;have s:aH (bU F wr g (jG x given) {l with J:=J,cJ:=cJ,G:=G,cG:=cG}/\Kp F w wr):=by rw[B.o];exact p.o
     clear p B HD;go_wp2_with fail
     refine bodyPost_ret (v:= .tuple #[.int .i64 (qY x o).1, .int .i64 (qY x o).2,true]) (by simp[results,results28,go_sem]) rfl ?_;unfold Bt;rw[HO.o];exact⟨rfl,⟨_,s.o.1⟩,s.o.2⟩
end
end
section
open Go.Shelf
def QR:Go.Shelf.Ren:=⟨λ|8=>226|13=>256|14=>257|16=>259|15=>258|29=>289|30=>290|42=>299|49=>309|n=>n,λ|20=>20|26=>356|36=>443|0=>0|38=>205|42=>448|3=>3|4=>4|47=>405|17=>17|33=>440|34=>441|89=>499|12=>12|56=>457|82=>492|5=>5|83=>493|84=>494|85=>495|86=>496|87=>497|n=>n,λ|n=>n⟩
theorem QQ:Go.Proofs.LaysGt.n8 prog QR:={
 mixed:=aV
 f8:=func226.trans (congrArg some aV)
 f13:=func256.trans (congrArg some aV)
 f14:=func257.trans (congrArg some aV)
 f15:=func258.trans (congrArg some aV)
 f16:=func259.trans (congrArg some aV)
 f29:=func289.trans (congrArg some aV)
 f30:=func290.trans (congrArg some aV)
 f42:=func299.trans (congrArg some aV)
 f49:=func309.trans (congrArg some aV)
 t0:=underlying0
 a0:=isAgg0
 z0:=sizeOf0
 v0:=zeroValue0
 i0:=aV
 t3:=underlying3
 a3:=isAgg3
 z3:=sizeOf3
 v3:=zeroValue3
 i3:=aV
 t4:=underlying4
 a4:=isAgg4
 z4:=sizeOf4
 v4:=zeroValue4
 i4:=aV
 t5:=underlying5
 a5:=isAgg5
 z5:=sizeOf5
 v5:=zeroValue5
 i5:=aV
 t12:=underlying12
 a12:=isAgg12
 z12:=sizeOf12
 v12:=zeroValue12
 i12:=aV
 t17:=underlying17
 a17:=isAgg17
 z17:=sizeOf17
 v17:=zeroValue17
 i17:=aV
 t20:=underlying20
 a20:=isAgg20
 z20:=sizeOf20
 v20:=zeroValue20
 i20:=aV
 t26:=underlying356
 a26:=isAgg356
 z26:=sizeOf356
 v26:=zeroValue356
 i26:=aV
 t33:=underlying440
 a33:=isAgg440
 z33:=sizeOf440
 v33:=zeroValue440
 i33:=aV
 t34:=underlying441
 a34:=isAgg441
 z34:=sizeOf441
 v34:=zeroValue441
 i34:=aV
 t36:=underlying443
 a36:=isAgg443
 z36:=sizeOf443
 v36:=zeroValue443
 i36:=aV
 t38:=underlying205
 a38:=isAgg205
 z38:=sizeOf205
 v38:=zeroValue205
 i38:=aV
 t42:=underlying448
 a42:=isAgg448
 z42:=sizeOf448
 v42:=zeroValue448
 i42:=aV
 t47:=underlying405
 a47:=isAgg405
 z47:=sizeOf405
 v47:=zeroValue405
 i47:=aV
 t56:=underlying457
 a56:=isAgg457
 z56:=sizeOf457
 v56:=zeroValue457
 i56:=aV
 t82:=underlying492
 a82:=isAgg492
 z82:=sizeOf492
 v82:=zeroValue492
 i82:=aV
 t83:=underlying493
 a83:=isAgg493
 z83:=sizeOf493
 v83:=zeroValue493
 i83:=aV
 t84:=underlying494
 a84:=isAgg494
 z84:=sizeOf494
 v84:=zeroValue494
 i84:=aV
 t85:=underlying495
 a85:=isAgg495
 z85:=sizeOf495
 v85:=zeroValue495
 i85:=aV
 t86:=underlying496
 a86:=isAgg496
 z86:=sizeOf496
 v86:=zeroValue496
 i86:=aV
 t87:=underlying497
 a87:=isAgg497
 z87:=sizeOf497
 v87:=zeroValue497
 i87:=aV
 t89:=underlying499
 a89:=isAgg499
 z89:=sizeOf499
 v89:=zeroValue499
 i89:=by kernel_rfl}
end
section
open Go.RowKit Go.Lib Go.Shelf Go.Sort
variable{w:aA}{A:Option aJ}{n:Nat}
section
def CB(t:Tk):List aC:= [.int .i64 t.co, .int .i64 t.pe, .int .i64 t.de]
theorem P0:eW CB 3:=⟨λ_=>rfl,λx u hu=>by simp[CB] at hu;rcases hu with rfl|rfl|rfl <;> rfl⟩
def eF{n:Nat}(x:Fin (n+2)):aC:= .int .i64 (x.val:Int)
def yX(n:Nat)(key:Nat->Int)(a b:Fin (n+2)):Bool:=decide (key a<key b)
theorem aaD(n:Nat)(key:Nat->Int):SWO (yX n key):=⟨λx=>by simp[yX],λx y z h1 a=>by simp[yX] at *;omega,λx y z h1 a=>by simp[yX] at *;omega⟩
def vN(key:Nat->Int):Nat->List Int
 |n+2=>(Sort.insertionSort (yX n key) (Array.ofFn id) 0 (n+2)).toList.map λx=>(x.val:Int)
 |n=>(List.range n).map Int.ofNat
theorem SI(n:Nat)(key:Nat->Int):(Sort.insertionSort (yX n key) (Array.ofFn id) 0 (n+2)).size=n+2:=by
 have:=(insertionSort_holds (aaD n key) (Array.ofFn (n:=n+2) id) 0 (n+2) (ab0 _) aT).1.1;simpa using this
theorem SD(key:Nat->Int):∀n,(vN key n).length=n
 |0=>rfl
 |1=>rfl
 |n+2=>by
  show((Sort.insertionSort (yX n key) (Array.ofFn id) 0 (n+2)).toList.map λx=>(x.val:Int)).length=_;rw[acU,aeO,SI]
theorem Pb(key:Nat->Int):∀n,∀x∈vN key n,0<=x/\x<n
 |0,x,h=>by simp[vN] at h
 |1,x,h=>by simp[vN] at h;subst h;simp
 |n+2,x,h=>by
  obtain⟨y,_,rfl⟩:=aeC.1 h;exact⟨aQ,by have:=y.isLt;omega⟩
def PM(fv:aC)(n:Nat)(key:Nat->Int)(w:aA):Prop:=∀(W:aA) (bk bs q c:Nat) (dk:Array (Fin (n+2))),aD w w W->W.cell? (bk,0)=some fv->W.cell? (bs,0)=some (.slice (some ⟨q,0,none⟩) (n+2) c)->
 (∀t,t<n+2->W.cell? ⟨q,t,none⟩=some (eF dk[t]!))->∀i j:Nat,i<n+2->j<n+2->
  aG prog 227 #[i,j, .pointer bk, .pointer bs] W λe w'=>e= .returned (.bool (yX n key dk[i]! dk[j]!))/\∃q,w'=W.drewN q
theorem Vk{L:List Tk}(h:Sl CB 3 w A L)(hl:L.length<=100000)(b c:Nat)(hb:w.cell? (b,0)=some (.slice A L.length c))(p:Nat)(hp:p<L.length):
 aG prog 180 #[p, .pointer b] w λe w'=>e= .returned (.int .i64 (L.getD p nK).pe)/\w=w':=by
 obtain⟨q,off,rfl,hc⟩:=h.at_ hp;have c0:=hc 1 (.int .i64 L[p].pe) rfl;have e:L.getD p nK=L[p]:=by rw[ab1,abO hp];rfl
 rw[e];have p0:(0:Int)<=p:=aQ;have p1:(p:Int)<(L.length:Int):=aQ;have a:w.cell? (q,off+p *3+1)=some (.int .i64 L[p].pe):=by rw[acY];exact c0
 clear hc e h c0;generalize L[p]=t at *;go_enter func180,ntmps180
 go_wp2_with fail
 go_ret
 exact⟨rfl,rfl⟩
theorem Jt:∀args w,(callFunc 180 args).run prog w= .ok (.enter 180 args) w:=enters_of func180 aV rfl
theorem Mw{L:List Tk}(h:Sl CB 3 w A L)(k:L.length=n+2)(hl:L.length<=100000)(b c:Nat)(hb:w.cell? (b,0)=some (.slice A L.length c)):
 PM (.func (.func 180) #[] #[.pointer b]) n (λp=>(L.getD p nK).pe) w:=by
 intro W bk E q F l f hk hs hc i j hi r;have ci:=hc i hi;have u:=hc j r;have g:=aP (λm (p:Fin (n+2))=>Vk (w:=W.drewN m) ((h.keep f).keep (fL (Below.refl _ _) m)) hl b c (bK (fL f m) hb) p.val (by rw[k];exact p.isLt));generalize l[i]! =x at *;generalize l[j]! =z at *;unfold eF at ci u;have i0:(0:Int)<=i:=aQ;have i1:(i:Int)<((n+2:Nat):Int):=aQ;have G:(0:Int)<=j:=aQ;have v:(j:Int)<((n+2:Nat):Int):=aQ;obtain⟨m,hm⟩:∃m,m=n+2:=⟨_,rfl⟩
 rw[<-hm] at hs i1 v;generalize a:(L.getD x.val nK).pe=s;generalize d:(L.getD z.val nK).pe=t;have y:aH (∀m,aG prog 180 #[x.val, .pointer b] (W.drewN m) λe w'=>e= .returned (.int .i64 s)/\W.drewN m=w'):=λm=>by rw[<-a];exact g.o m x
 have B:aH (∀m,aG prog 180 #[z.val, .pointer b] (W.drewN m) λe w'=>e= .returned (.int .i64 t)/\W.drewN m=w'):=λm=>by rw[<-d];exact g.o m z
 have C:aH (yX n (λp=>(L.getD p nK).pe) x z=decide (s<t)):=by
  show decide ((L.getD x.val nK).pe<(L.getD z.val nK).pe)=_;rw[a,d]
 clear g a d hc h hb k hm hl f hi r;generalize (x.val:Int)=xv at *;generalize (z.val:Int)=zv at *;have D:=Jt;go_enter func227,ntmps227
 go_upto_region 1 with(fail)
 go_quiet (first|exact Calls.quiet_of_same ((y.o _).mono λe w' h=>⟨h.1,h.2.symm⟩)|exact Calls.quiet_of_same ((B.o _).mono λe w' h=>⟨h.1,h.2.symm⟩))
 go_wp2_with fail
 go_ret
 rw[C.o];exact⟨rfl,_,rfl⟩
theorem Qw{L:List Tk}(h:Sl CB 3 w A L)(hl:L.length<=100000)(b c:Nat)(hb:w.cell? (b,0)=some (.slice A L.length c))(p:Nat)(hp:p<L.length):
 aG prog 181 #[p, .pointer b] w λe w'=>e= .returned (.int .i64 (L.getD p nK).de)/\w=w':=by
 obtain⟨q,off,rfl,hc⟩:=h.at_ hp;have c0:=hc 2 (.int .i64 L[p].de) rfl;have e:L.getD p nK=L[p]:=by rw[ab1,abO hp];rfl
 rw[e];have p0:(0:Int)<=p:=aQ;have p1:(p:Int)<(L.length:Int):=aQ;have a:w.cell? (q,off+p *3+2)=some (.int .i64 L[p].de):=by rw[acY];exact c0
 clear hc e h c0;generalize L[p]=t at *;go_enter func181,ntmps181
 go_wp2_with fail
 go_ret
 exact⟨rfl,rfl⟩
theorem Fz:∀args w,(callFunc 181 args).run prog w= .ok (.enter 181 args) w:=enters_of func181 aV rfl
theorem Oq{L:List Tk}(h:Sl CB 3 w A L)(k:L.length=n+2)(hl:L.length<=100000)(b c:Nat)(hb:w.cell? (b,0)=some (.slice A L.length c)):
 PM (.func (.func 181) #[] #[.pointer b]) n (λp=>(L.getD p nK).de) w:=by
 intro W bk E q F l f hk hs hc i j hi r;have ci:=hc i hi;have u:=hc j r;have g:=aP (λm (p:Fin (n+2))=>Qw (w:=W.drewN m) ((h.keep f).keep (fL (Below.refl _ _) m)) hl b c (bK (fL f m) hb) p.val (by rw[k];exact p.isLt));generalize l[i]! =x at *;generalize l[j]! =z at *;unfold eF at ci u;have i0:(0:Int)<=i:=aQ;have i1:(i:Int)<((n+2:Nat):Int):=aQ;have G:(0:Int)<=j:=aQ;have v:(j:Int)<((n+2:Nat):Int):=aQ;obtain⟨m,hm⟩:∃m,m=n+2:=⟨_,rfl⟩
 rw[<-hm] at hs i1 v;generalize a:(L.getD x.val nK).de=s;generalize d:(L.getD z.val nK).de=t;have y:aH (∀m,aG prog 181 #[x.val, .pointer b] (W.drewN m) λe w'=>e= .returned (.int .i64 s)/\W.drewN m=w'):=λm=>by rw[<-a];exact g.o m x
 have B:aH (∀m,aG prog 181 #[z.val, .pointer b] (W.drewN m) λe w'=>e= .returned (.int .i64 t)/\W.drewN m=w'):=λm=>by rw[<-d];exact g.o m z
 have C:aH (yX n (λp=>(L.getD p nK).de) x z=decide (s<t)):=by
  show decide ((L.getD x.val nK).de<(L.getD z.val nK).de)=_;rw[a,d]
 clear g a d hc h hb k hm hl f hi r;generalize (x.val:Int)=xv at *;generalize (z.val:Int)=zv at *;have D:=Fz;go_enter func227,ntmps227
 go_upto_region 1 with(fail)
 go_quiet (first|exact Calls.quiet_of_same ((y.o _).mono λe w' h=>⟨h.1,h.2.symm⟩)|exact Calls.quiet_of_same ((B.o _).mono λe w' h=>⟨h.1,h.2.symm⟩))
 go_wp2_with fail
 go_ret
 rw[C.o];exact⟨rfl,_,rfl⟩
end
variable{q gf bs:Nat}{w0:aA}
section
noncomputable def Xy:TypeInfo:=(prog.info? 35).get aV
noncomputable def TQ:TypeInfo:=(prog.info? 3).get aV
theorem I5:(prog.info? 3).map (λi=>(i.zero,i.size,i.bytes))=some (some (.int .i64 0),1,8):=aV
theorem siK(n:Nat)(e:2<=n):Lib.swapperK n TQ 2=5:=by
 have a:TQ.hasPointers=false:=aV;have b:TQ.bytes=8:=aV;have c:(n==0)=false:=bX;have d:(n==1)=false:=bX;simp[Lib.swapperK,a,b,c,d]
def OM(w:aA)(A:Option aJ):Prop:=∀b,aY A=some b->w.heap.size<=b
def lD(n k:Nat):List Int:=(List.range n).map λj=>if j<k then(j:Int) else 0
theorem DE(n k:Nat):(lD n k).length=n:=by simp[lD]
theorem Ke{k:Nat}:(lD n k).set k (k:Int)=lD n (k+1):=by
 apply adJ
 .simp[lD]
 .intro i h1 a;simp only[lD,ab5,acU,List.length_range] at h1 a⊢;rw[acS];simp only[af3,List.getElem_range];split
  .rename_i e;subst e;rw[abS aQ]
  .rename_i e;by_cases h:i<k
   .rw[abS h,abS aQ]
   .rw[abT h,abT aQ]
theorem Ef(n:Nat):lD n n=(List.range n).map Int.ofNat:=by
 unfold lD;apply ae9;intro j a;rw[abS (ac8.1 a)];rfl
theorem Be(n:Nat):(madeCells (Value.int .i64 0).cells (n *1)).toList=(lD n 0).flatMap eI:=by
 rw[ES];congr 1
 apply adJ
 .simp[lD]
 .intro i h1 a;simp[lD]
section
variable{α:Type}[Inhabited α]{enc:α->aC}
theorem Eb(w:aA)(q m:Nat)(d:Array α)(os:Array Obj):∀i,i<w.heap.size->(sortWorld enc w q 0 m d os).heap[i]?=(w.heap.modify q (onCells (putCells enc 0 d)))[i]?:=λi hi=>by
 show(w.heap.modify q _++os)[i]?=_;rw[ae3 (by simpa using hi)]
theorem IL(w:aA)(q m:Nat)(d:Array α)(os:Array Obj):w.grownBy (sortWorld enc w q 0 m d os) (some q):=by
 refine⟨rfl,rfl,rfl,?_,λi hi a=>?_⟩
 .show w.heap.size<=(w.heap.modify q _++os).size;rw[Array.size_append,Array.size_modify];omega
 .rw[Eb w q m d os i hi,ae4,abT (λe=>a (by rw[e]))]
end
theorem X4{base c:Nat}{e:TypeId}(h:bH eI 1 w base e q c (lD (n+2) (n+2))):Holds (eF (n:=n)) w q 0 (Array.ofFn id):=by
 intro j b;have a:j<n+2:=by simpa using b
 have h1:=bM gR h (i:=j) (by rw[DE];exact a) (j:=0) rfl;rw[adT,acD] at h1;rw[acT];refine⟨?_,(dD h j (by have:=h.cap;rw[DE] at this;omega)).2⟩;rw[h1];congr 1
 rw[afZ _ j b];simp[lD,eF,a]
theorem Gl{base c:Nat}{e:TypeId}(h:bH eI 1 w base e q c (lD n n))(a:n<=1)(key:Nat->Int)(os:Array Obj):Sl eI 1 (Sort.grow w os) q (vN key n):=by
 have b:vN key n=lD n n:=by
  rw[Ef];match n,a with
  |0,_=>rfl
  |1,_=>rfl
 rw[b];exact(h.sl gR).keep ⟨rfl,rfl,rfl,by simp[Sort.grow],λk hk=>by
  show(w.heap++os)[k]?=_;rw[ae3 hk]⟩
theorem siW(n:Nat)(h:n<=1):∃f,prog.funcs.findIdx? (·.name== "internal/reflectlite" ++ ".Swapper$" ++toString (Lib.swapperK n TQ 2))=some f:=by
 match n,h with
 |0,_=>exact⟨280,aV⟩
 |1,_=>exact⟨281,aV⟩
theorem YP{cap:Array aC}{bk:Nat}(key:Nat->Int)(y:n<=20)(hb:aD w0 w0 w)(own:bH eI 1 w w0.heap.size 3 q n (lD n n))(hk:bF w bk 254 #[.func (.func gf) #[] cap])(hs:bF w bs 35 #[.slice q n n])(h1:bk≠q)(A:bs≠q)
 (b:∀m,n=m+2->PM (.func (.func gf) #[] cap) m key w0):
 aG prog 226 #[.iface 35 (.slice q n n), .func (.func 227) #[] #[.pointer bk, .pointer bs]] w λe w'=>e= .returned (.tuple #[])/\Sl eI 1 w' q (vN key n)/\w.grownBy w' (some q):=by
 by_cases c:n<=1
 .obtain⟨f,hf⟩:=siW n c;have h:=Any.sort_SliceStable_tiny QQ 35 3 Xy TQ aV aV aV aV 2 (λ_=>by kernel_rfl) q n n c f hf (.func 227) #[] #[.pointer bk, .pointer bs] w;refine Calls.mono (f:=226) h ?_;rintro e w' ⟨rfl,os,rfl⟩;exact⟨rfl,Gl own c key os,rfl,rfl,rfl,by simp[Sort.grow],λk hk _=>by
   show(w.heap++os)[k]?=_;rw[ae3 hk]⟩
 .obtain⟨m,rfl⟩:∃m,n=m+2:=⟨n - 2,aQ⟩
  have hq:=(own.lt q rfl)
  have hH:=X4 own;have hl:LessReads prog 227 #[.pointer bk, .pointer bs] (eF (n:=m)) (yX m key) q 0 (Array.ofFn (n:=m+2) id).size w:=by
   intro d os l hd i j hi o;have jA:(Array.ofFn (n:=m+2) id).size=m+2:=aT;rw[jA] at hd hi o;have g:=IL (enc:=eF (n:=m)) w q d l os;refine b m rfl (sortWorld eF w q 0 d l os) bk bs q (m+2) l (hb.grown g hb.size (λr p=>by injection p with p;omega)) ((hk.grown g (λe=>h1 (by injection e))).cell 0 _ rfl) ((hs.grown g (λe=>A (by injection e))).cell 0 _ rfl) (λt B=>?_) i j hi o;have:=(holds_sortWorld (eF (n:=m)) w q 0 d (Array.ofFn id) l os hq.2 hH (by rw[hd,jA])) t (by rw[hd];exact B);rw[acT] at this;exact this.1
  have s:=Any.sort_SliceStable_small QQ 35 3 Xy TQ aV aV aV aV 2 (λ_=>by kernel_rfl) aV (λ_=>by kernel_rfl) (eF (n:=m)) (λ_=>rfl) (yX m key) 227 #[.pointer bk, .pointer bs]
   (enters_of func227 aV rfl) q 0 (m+2) (Array.ofFn id) aT (by simpa using y) 284 (by rw[siK _ aT];kernel_rfl) true
   (λargs W=>run_callFunc_extern func284 aV aV aV (e:=Extern.ReflectliteSwapper.swap true) aV args W) w hl hH hq.2
  rw[show(Array.ofFn (n:=m+2) id).size=m+2 by simp] at s;refine Calls.mono (f:=226) s ?_;rintro e w' ⟨rfl,d,os,rfl⟩;have g:=IL (enc:=eF (n:=m)) w q d (Sort.insertionSort (yX m key) (Array.ofFn id) 0 (m+2)) os;refine⟨rfl,λ_=>⟨q,0,rfl,λi x j u v hu=>?_⟩,g⟩;have hi:i<m+2:=by have:=(ab7.1 v).1;rw[SD] at this;exact this
  have hc:=(holds_sortWorld (eF (n:=m)) w q 0 d (Array.ofFn id) (Sort.insertionSort (yX m key) (Array.ofFn id) 0 (m+2)) os hq.2 hH (by rw[SI];simp)) i (by rw[SI];exact hi);have o:j=0:=by have:=(ab7.1 hu).1;simp[eI] at this;exact this
  subst o;simp[eI] at hu;subst hu;have C:0+(i *1+0)=0+i:=aQ;rw[C];refine hc.1.trans ?_;have a:((Sort.insertionSort (yX m key) (Array.ofFn id) 0 (m+2)).toList.map λx=>(x.val:Int))[i]?=some x:=v;rw[ad1,acH,acV (by rw[SI];exact hi)] at a;injection a with a;rw[afZ _ i (by rw[SI];exact hi)];exact congrArg (λz=>some (Value.int .i64 z)) a
theorem QT(gf:Nat)(cap:Array aC)(n:Nat)(P:n<=20)(key:Nat->Int)(w:aA)(f:∀m,n=m+2->PM (.func (.func gf) #[] cap) m key w):
 aG prog 179 #[n, .func (.func gf) #[] cap] w λe w'=>∃A c,e= .returned (.slice A n c)/\Sl eI 1 w' A (vN key n)/\aD w w w'/\OM w A:=by
 obtain⟨i0,F,G,H,I⟩:=info_parts I5;have u:=aX w (aI #[.func (.func gf) #[] cap] 254);have bk:=bF.new w 254 #[.func (.func gf) #[] cap];have p:=bO u bk;have J:=aP f;clear f u bk;go_enter func179,ntmps179
 go_wp2_with(at_make;refine wpList_make_full _ rfl _ _ 35 rfl w.heap.size 3 i0 _ 1 underlying35 F G H _ _ _ _ n rfl rfl rfl rfl (by rw[I];omega) dN aT ?_;intro i g s)
 rw[Be] at g;obtain⟨q,hq⟩:∃q,q=(w.alloc (aI #[.func (.func gf) #[] cap] 254)).heap.size:=⟨_,rfl⟩
 have v:q=w.heap.size+1:=by rw[hq];simp
 have yU:bH eI 1 i w.heap.size 3 (some ⟨q,0,none⟩) n (lD n 0):=by
  unfold bH;rw[DE,hq];exact g
 have h:aD w w i:=p.o.1.grown s aT (λk hk=>by cases hk);have x:bF i w.heap.size 254 #[.func (.func gf) #[] cap]:=p.o.2.grown s aT;have K:=(yU.lt q rfl).2;rw[<-v];have y:=h.alloc h.size (aI #[.slice (some ⟨q,0,none⟩) n n] 35);have z:=x.alloc (aI #[.slice (some ⟨q,0,none⟩) n n] 35);have B:=bF.new i 35 #[.slice (some ⟨q,0,none⟩) n n];have l:=yU.alloc (aI #[.slice (some ⟨q,0,none⟩) n n] 35);have a:aH (w.heap.size≠q/\i.heap.size≠q/\w.heap.size<=q/\w.heap.size<=i.heap.size):=⟨aQ,aQ,aQ,h.size⟩
 have M:=dE y z (And.intro B l);clear y z B l h x yU g s hq v K p;generalize i.alloc (aI #[.slice (some ⟨q,0,none⟩) n n] 35)=w4 at *;generalize i.heap.size=bs at *;go_loopw [6,11] (λ_ v11 wr=>∃k:Nat,k<=n/\v11= .int .i64 k/\aH (aD w w wr/\bF wr w.heap.size 254 #[.func (.func gf) #[] cap]/\bF wr bs 35 #[.slice (some ⟨q,0,none⟩) n n]/\bH eI 1 wr w.heap.size 3 (some ⟨q,0,none⟩) n (lD n k))) (λ_ v11 _=>n - (aL v11).toNat)
 case atStart=>exact⟨0,ab0 _,rfl,M.o⟩
 case round=>
  clear M;obtain⟨k,hk,rfl,d⟩:=hrel;by_cases L:k<n
  .have S:(0:Int)<=k:=aQ;have T:(k:Int)<(n:Int):=aQ;have cs:=d.o.2.2.1.cell 0 _ rfl;have C:k<(lD n k).length:=by rw[DE];exact L
   obtain⟨r1,U⟩:=dD d.o.2.2.2 k aQ;obtain⟨v0,r1⟩:=afN.1 r1;obtain⟨o1,o2⟩:=qX LI d.o.2.2.2 C (j:=0) aQ (k:Int) (.int .i64 k) rfl;rw[adT,acD,Ke] at o1;rw[adT,acD] at o2;have Q:aH (aD w w (wr.setCell ⟨q,k,none⟩ k)/\bF (wr.setCell ⟨q,k,none⟩ k) w.heap.size 254 #[.func (.func gf) #[] cap]/\bF (wr.setCell ⟨q,k,none⟩ k) bs 35 #[.slice (some ⟨q,0,none⟩) n n]/\bH eI 1 (wr.setCell ⟨q,k,none⟩ k) w.heap.size 3 (some ⟨q,0,none⟩) n (lD n (k+1))):=
    ⟨d.o.1.grown o2 d.o.1.size (λr D=>by injection D with D;have:=a.o.2.2.1;omega),d.o.2.1.grown o2 (λe=>a.o.1 (by injection e)),d.o.2.2.1.grown o2 (λe=>a.o.2.1 (by injection e)),o1⟩
   clear d o1 o2 C;go_wp2_with fail
   refine⟨⟨k+1,aQ,rfl,Q.o⟩,by simp only[aL];omega⟩
  .obtain rfl:k=n:=aQ;have cs:=d.o.2.2.1.cell 0 _ rfl;have N:=aP (YP key P d.o.1 d.o.2.2.2 d.o.2.1 d.o.2.2.1 a.o.1 a.o.2.1 J.o);go_wp2_with fail
   refine aR N ?_;rintro e V ⟨rfl,E,t⟩;have R:=(d.o.2.2.1.grown t (λe=>a.o.2.1 (by injection e))).cell 0 _ rfl;have O:=bO E (d.o.1.grown t d.o.1.size (λr D=>by injection D with D;have:=a.o.2.2.1;omega));clear E t N d cs;go_wp2_with fail
   go_ret
   exact⟨_,_,rfl,O.o.1,O.o.2,λb hb=>by injection hb with hb;have:=a.o.2.2.1;simp only at hb;omega⟩
theorem Rr{L:List Tk}(h:Sl CB 3 w A L)(hl:L.length<=20)(c:Nat):
 aG prog 124 #[(A,L.length,c)] w λe w'=>∃B d,e= .returned (.slice B L.length d)/\Sl eI 1 w' B (vN (λp=>(L.getD p nK).pe) L.length)/\aD w w w'/\OM w B:=by
 have a:=aX w (aI #[(A,L.length,c)] 291);have bk:=(bF.new w 291 #[(A,L.length,c)]).cell 0 _ rfl;have g:=aP (QT 180 #[.pointer w.heap.size] L.length hl (λp=>(L.getD p nK).pe) (w.alloc (aI #[(A,L.length,c)] 291)) (λm hm=>Mw (h.keep a) hm aQ _ c bk));have f:=aP a;clear h a;generalize (λp=>(L.getD p nK).pe)=key at *;go_enter func124,ntmps124
 go_wp2_with fail
 refine aR g ?_;rintro e k ⟨B,d,rfl,hs,hb,i⟩;have j:=dE hs (f.o.trans (hb.mono f.o.size)) (show OM w B from λb hb=>abX f.o.size (i b hb));clear hs hb i g;go_wp2_with fail
 go_ret
 exact⟨_,_,rfl,j.o⟩
theorem Qy{L:List Tk}(h:Sl CB 3 w A L)(hl:L.length<=20)(c:Nat):
 aG prog 126 #[(A,L.length,c)] w λe w'=>∃B d,e= .returned (.slice B L.length d)/\Sl eI 1 w' B (vN (λp=>(L.getD p nK).de) L.length)/\aD w w w'/\OM w B:=by
 have a:=aX w (aI #[(A,L.length,c)] 291);have bk:=(bF.new w 291 #[(A,L.length,c)]).cell 0 _ rfl;have g:=aP (QT 181 #[.pointer w.heap.size] L.length hl (λp=>(L.getD p nK).de) (w.alloc (aI #[(A,L.length,c)] 291)) (λm hm=>Oq (h.keep a) hm aQ _ c bk));have f:=aP a;clear h a;generalize (λp=>(L.getD p nK).de)=key at *;go_enter func126,ntmps126
 go_wp2_with fail
 refine aR g ?_;rintro e k ⟨B,d,rfl,hs,hb,i⟩;have j:=dE hs (f.o.trans (hb.mono f.o.size)) (show OM w B from λb hb=>abX f.o.size (i b hb));clear hs hb i g;go_wp2_with fail
 go_ret
 exact⟨_,_,rfl,j.o⟩
end
end
section
open Go.RowKit Go.Lib Go.Shelf
variable{w w':aA}{A:Option aJ}
section
structure sR(w:aA)(A:Option aJ)(L:List Tm):Prop where
 o:Sl pP 5 w A L
 sl:∀x∈L,Sl lN 3 w x.A x.t.se
 cp:∀x∈L,x.t.se.length<=x.c
theorem sR.keep{L:List Tm}(h:sR w A L)(hb:aD w w w'):sR w' A L:=⟨h.o.keep hb,λx a=>(h.sl x a).keep hb,h.cp⟩
theorem sR.at_{L:List Tm}(h:sR w A L)(hi:i<L.length):∃b off,A=some ⟨b,off,none⟩/\w.cell? ⟨b,off+i *5,none⟩=some (.int .i64 L[i].t.co)/\w.cell? ⟨b,off+i *5+1,none⟩=some (.int .i64 L[i].t.pe)/\w.cell? ⟨b,off+i *5+2,none⟩=some (.int .i64 L[i].t.de)/\w.cell? ⟨b,off+i *5+3,none⟩=some (.slice L[i].A L[i].t.se.length L[i].c)/\w.cell? ⟨b,off+i *5+4,none⟩=some (.int .i64 L[i].t.po):=by
 obtain⟨b,off,a,hc⟩:=h.o.at_ hi;exact⟨b,off,a,by simpa using hc 0 _ (show(pP L[i])[0]?=some (.int .i64 L[i].t.co) from rfl),by simpa[acY] using hc 1 _ (show(pP L[i])[1]?=some (.int .i64 L[i].t.pe) from rfl),by simpa[acY] using hc 2 _ (show(pP L[i])[2]?=some (.int .i64 L[i].t.de) from rfl),by simpa[acY] using hc 3 _ (show(pP L[i])[3]?=some (.slice L[i].A L[i].t.se.length L[i].c) from rfl),by simpa[acY] using hc 4 _ (show(pP L[i])[4]?=some (.int .i64 L[i].t.po) from rfl)⟩
theorem Zk:jR prog 291 122 3 24:=fX (z:= .agg #[aU,aU,aU]) underlying291 aV (by simp[Value.cells]) aQ
theorem WC{L:List Tm}(h:sR w A L)(hl:L.length<=20)(c:Nat):
 aG prog 125 #[(A,L.length,c)] w λe w'=>∃B d,e= .returned (.slice B L.length d)/\Sl CB 3 w' B (L.map Tm.t)/\aD w w w':=by
 have D:=aP h;clear h;go_enter func125,ntmps125
 go_wp2_with fail
 go_loopw [3,5,8] (λv3 _ v8 wr=>∃k:Nat,k<=L.length/\v8= .int .i64 k/\(∃B d,v3= .slice B k d/\aH (bH CB 3 wr w.heap.size 122 B d ((L.take k).map Tm.t)))/\aH (aD w w wr)) (λ_ _ v8 _=>L.length - (aL v8).toNat)
 case atStart=>exact⟨0,ab0 _,rfl,⟨none,0,rfl,bH.nil _ _ _⟩,Below.refl _ _⟩
 case round=>
  obtain⟨k,hk,rfl,⟨B,d,rfl,l⟩,g⟩:=hrel;by_cases i:k<L.length
  .obtain⟨b,off,rfl,t0,t1,t2,t3,t4⟩:=(D.o.keep g.o).at_ i;have H:(0:Int)<=k:=aQ;have I:(k:Int)<(L.length:Int):=aQ;have E:aH ((L.take (k+1)).map Tm.t=(L.take k).map Tm.t++ [L[k].t]):=by unfold aH;rw[<-acO i,afE];rfl
   have q:((L.take k).map Tm.t).length=k:=bX;generalize L[k]=x at *;have p:=bF.new wr 125 #[x.t.co,x.t.pe,x.t.de,(x.A,x.t.se.length,x.c),x.t.po];have d0:=p.cell 0 _ rfl;have d1:=p.cell 1 _ rfl;have d2:=p.cell 2 _ rfl;have a:aH (bH CB 3 (wr.alloc (aI #[x.t.co,x.t.pe,x.t.de,(x.A,x.t.se.length,x.c),x.t.po] 125)) w.heap.size 122 B d ((L.take k).map Tm.t)/\aD w w (wr.alloc (aI #[x.t.co,x.t.pe,x.t.de,(x.A,x.t.se.length,x.c),x.t.po] 125))):=⟨l.o.alloc _,g.o.alloc g.o.size _⟩
   clear l g p;go_upto_region 5 with(fail)
   generalize wr.alloc (aI #[x.t.co,x.t.pe,x.t.de,(x.A,x.t.se.length,x.c),x.t.po] 125)=F at *;clear t0 t1 t2 t3 t4;have jA:=a.o.2.size;go_wp2_with(at_builtin;refine bQ _ rfl _ _ rfl Zk P0 (a.o.1.alloc _) (n:=k) q rfl (m:=1) rfl (ys:= [x.t]) rfl (Sl.new P0 F x.t _ rfl _) dN aQ bX _ rfl (k+1) rfl ?_;intro A6 c6 z f j s)
   have u:aH (aD w w z):=(a.o.2.alloc jA _).grown j bX (λr G=>(a.o.1.lt r G).1);have v:aH (bH CB 3 z w.heap.size 122 A6 c6 ((L.take (k+1)).map Tm.t)):=by rw[E.o];exact f
   clear f j s a d0 d1 d2;refine⟨⟨k+1,aQ,rfl,⟨A6,c6,rfl,v.o⟩,u.o⟩,by simp only[aL];omega⟩
  .obtain rfl:k=L.length:=aQ;have C:L.take L.length=L:=acC (abQ _);have y:aH (Sl CB 3 wr B (L.map Tm.t)):=by have:=l.o.sl P0;rw[C] at this;exact this
   clear C l;go_wp2_with fail
   go_ret
   exact⟨_,_,rfl,y.o,g.o⟩
def mO(L:List Tk)(od:Int):List Int:=if od=1 then vN (λp=>(L.getD p nK).pe) L.length else vN (λp=>(L.getD p nK).de) L.length
theorem S0(L:List Tk)(od:Int):(mO L od).length=L.length:=by unfold mO;split <;> exact SD _ _
theorem VW(L:List Tk)(od:Int):∀x∈mO L od,0<=x/\x<L.length:=by unfold mO;split <;> exact Pb _ _
theorem TH{L:List Tm}(h:sR w A L)(hl:L.length<=20)(c:Nat)(od:Int):
 aG prog 86 #[(A,L.length,c),od] w λe w'=>∃B d,e= .returned (.slice B L.length d)/\Sl eI 1 w' B (mO (L.map Tm.t) od)/\aD w w w'/\OM w B:=by
 have l:=aP (WC h hl c);clear h;by_cases h1:od=1
 .have o1:(od==1)=true:=by simpa using h1
  have g:aH (mO (L.map Tm.t) od=vN (λp=>((L.map Tm.t).getD p nK).pe) (L.map Tm.t).length):=abS h1;clear h1;go_enter func86,ntmps86
  go_wp2_with fail
  refine aR l ?_;rintro e n ⟨B,d,rfl,hs,hb⟩;have f:=aP (Rr hs (by simpa using hl) d);rw[acU] at f;have a:=aP hb;clear hs hb l;go_wp2_with fail
  refine aR f ?_;rintro e i ⟨j,d3,rfl,hs,hb,k⟩;have m:aH (Sl eI 1 i j (mO (L.map Tm.t) od)/\aD w w i/\OM w j):=⟨by rw[g.o,acU];exact hs,a.o.trans (hb.mono a.o.size),λb hb=>abX a.o.size (k b hb)⟩
  clear hs hb k f a g;go_wp2_with fail
  go_ret
  exact⟨_,_,rfl,m.o⟩
 .have o1:(od==1)=false:=by simpa using h1
  have g:aH (mO (L.map Tm.t) od=vN (λp=>((L.map Tm.t).getD p nK).de) (L.map Tm.t).length):=abT h1;clear h1;go_enter func86,ntmps86
  go_wp2_with fail
  refine aR l ?_;rintro e n ⟨B,d,rfl,hs,hb⟩;have f:=aP (Qy hs (by simpa using hl) d);rw[acU] at f;have a:=aP hb;clear hs hb l;go_wp2_with fail
  refine aR f ?_;rintro e i ⟨j,d3,rfl,hs,hb,k⟩;have m:aH (Sl eI 1 i j (mO (L.map Tm.t) od)/\aD w w i/\OM w j):=⟨by rw[g.o,acU];exact hs,a.o.trans (hb.mono a.o.size),λb hb=>abX a.o.size (k b hb)⟩
  clear hs hb k f a g;go_wp2_with fail
  go_ret
  exact⟨_,_,rfl,m.o⟩
end
end
end Go.Proofs.YtacgiflhgdaeaaaGreat
