/- Texts laid as one. -/
import Derived.Test.YtacgiflhgdaeaaaGreatSZ1
import Derived.Test.YtacgiflhgdaeaaaGreatSZ3
import Derived.Test.YtacgiflhgdaeaaaGreatSZ4
import Derived.Test.YtacgiflhgdaeaaaGreatSZ5
import Derived.Test.YtacgiflhgdaeaaaGreatSZ6
import Derived.Test.YtacgiflhgdaeaaaGreatSZ7
set_option linter.unusedVariables false
set_option linter.unusedSimpArgs false
set_option maxRecDepth 100000
set_option maxHeartbeats 20000000
namespace Go.Proofs.YtacgiflhgdaeaaaGreat
open Go.Proofs.Tryz
open Go renaming World->aA,Value->aC,Addr->aJ,Ending->aM,Calls->aG
open Go.RowKit renaming Below->aD,Hid->aH,intOf->aL
open Go.Obj renaming cells->aI
variable{s:Sd}
section
section
def rU(now:Int)(p:Pv):Pv:={p with sv:=p.sv.map λv=>kI v now p.rd}
def zI(p:Pv):Pv:={p with sv:=p.sv.map C4}
def GJ(v:Sv):Option Int:=v.ch.head?.map Ck.de
def tD(p:Pv):Option Int:=p.sv.bind GJ
def iN(P:List Pv):Nat->Option (Nat×Int)
 |0=>none
 |k+1=>match P[k]?.bind tD with
  |none=>iN P k
  |some d=>match iN P k with
   |none=>some (k,d)
   |some (j,e)=>if d<e then some (k,d) else some (j,e)
def BJ(P:List Pv)(e:Nat):Bool:=match P[e]? with|some p=>p.rd|none=>false
def zF(P:List Pv)(tu:Nat):Option Nat:=((List.range P.length).map λj=>(tu+j)%P.length).find? (BJ P)
structure Rn where
 env:Int
 ch:Bool
def eJ(s:Sd):Sd:={s with P:=s.P.map (rU s.nw),b:=l7 s.b s.nw,nw:=s.nw+1}
def gI(s:Sd):Rn×Sd:=
 match iN (eJ s).P s.P.length with
 |some (i,_)=>(⟨i,true⟩,{eJ s with P:=(eJ s).P.modify i zI})
 |none=>match zF (eJ s).P s.tu.toNat with
  |some e=>(⟨e,false⟩,{eJ s with tu:=((e+1)%s.P.length:Nat)})
  |none=>(⟨-1,false⟩,eJ s)
theorem CO(P:List Pv):∀(k:Nat) (j:Nat) (e:Int),iN P k=some (j,e)->j<k/\P[j]?.bind tD=some e
 |0,_,_,h=>by simp[iN] at h
 |k+1,j,e,h=>by
  unfold iN at h;cases hd:P[k]?.bind tD with
  |none=>
   rw[hd] at h;have:=CO P k j e h;exact⟨aQ,this.2⟩
  |some d=>
   rw[hd] at h;simp only at h;cases hk:iN P k with
   |none=>
    rw[hk] at h;simp at h;obtain⟨rfl,rfl⟩:=h;exact⟨aQ,hd⟩
   |some q=>
    obtain⟨a,b⟩:=q;rw[hk] at h;simp only at h;split at h
    .simp at h;obtain⟨rfl,rfl⟩:=h;exact⟨aQ,hd⟩
    .simp at h;obtain⟨rfl,rfl⟩:=h;have:=CO P k a b hk;exact⟨aQ,this.2⟩
theorem Dg{P:List Pv}{tu k:Nat}(hk:k<P.length)(h:∀j,j<k->BJ P ((tu+j)%P.length)=false)(a:BJ P ((tu+k)%P.length)=true):zF P tu=some ((tu+k)%P.length):=by
 unfold zF;have h1:List.find? (BJ P∘λj=>(tu+j)%P.length) (List.range P.length)=some k:=List.find?_range_eq_some.2 ⟨a,by simpa using hk,λj b=>by simpa using h j b⟩;rw[List.find?_map,h1];rfl
theorem Di{P:List Pv}{tu:Nat}(h:∀j,j<P.length->BJ P ((tu+j)%P.length)=false):zF P tu=none:=by
 unfold zF;rw[List.find?_eq_none];intro x a;obtain⟨j,b,rfl⟩:=ad3.1 a;rw[h j (ac4.1 b)];decide
theorem Bh{P:List Pv}{tu e:Nat}(h:zF P tu=some e):e<P.length/\BJ P e=true:=by
 unfold zF at h;have h1:=List.find?_some h;obtain⟨j,a,rfl⟩:=ad3.1 (afI h);exact⟨af9 _ (by have:=ac4.1 a;omega),h1⟩
theorem xN(s:Sd):(eJ s).P.length=s.P.length:=acS ..
theorem gQ.Ke(h:gQ s){p:Pv}(hp:p∈s.P){v:Sv}(a:p.sv=some v):rX s.nw (kI v s.nw p.rd)/\(BF v=false->BF (kI v s.nw p.rd)=false)/\(kI v s.nw p.rd).bu=v.bu/\(kI v s.nw p.rd).pe=v.pe:=by
 obtain⟨h1,_,b,c,d⟩:=(h.sv p hp v a).begin h.nw.1 p.rd;exact⟨h1,b,c,d⟩
theorem Ro(h:gQ s){p:Pv}(hp:p∈s.P)(hu:kT (rU s.nw p)=true):kT p=true:=by
 unfold kT rU at hu;unfold kT;cases a:p.sv with
 |none=>rw[a] at hu;cases hu
 |some v=>
  rw[a] at hu;simp only[acO] at hu;cases h1:BF v with
  |true=>exact h1
  |false=>rw[(h.Ke hp a).2.1 h1] at hu;cases hu
theorem IS(b:Bs)(now:Int):(l7 b now).L.length<=b.L.length/\(l7 b now).f=b.f:=by
 unfold l7;split
 .exact⟨abM _,rfl⟩
 .exact⟨aeP _ _,rfl⟩
theorem gQ.step(h:gQ s)(g:s.nw<1048576):gQ (eJ s)/\((eJ s).b.L.length+(eJ s).P.countP kT:Int)<=s.nw:=by
 have hl:=xN s;have e:((eJ s).b.L.length+(eJ s).P.countP kT:Int)<=s.nw:=by
  have h1:=(IS s.b s.nw).1;have j:(s.P.map (rU s.nw)).countP kT<=s.P.countP kT:=by
   rw[List.countP_map];exact List.countP_mono_left λp hp hu=>Ro h hp hu
  have k:=h.vM;show(((l7 s.b s.nw).L.length:Int)+((s.P.map (rU s.nw)).countP kT:Int))<=s.nw;omega
 refine⟨⟨by rw[hl];exact h.n,λq hq v c=>?_,h.bk.adv,⟨by show 0<=s.nw+1;have:=h.nw;omega,by show s.nw+1<=_;omega⟩,by rw[hl];exact h.tu,?_,by show _<=s.nw+1;omega,λi q hq=>?_,λi hi=>?_⟩,e⟩
 .obtain⟨p,hp,rfl⟩:=ad3.1 hq;cases d:p.sv with
  |none=>simp[rU,d] at c
  |some u=>
   simp[rU,d] at c;subst c;exact(h.Ke hp d).1.mono (by show _<=s.nw+1;omega)
 .have:=h.bn;show 0<=(l7 s.b s.nw).bn/\(l7 s.b s.nw).bn<=s.nw+1;unfold l7;split
  .omega
  .simp only;omega
 .show(l7 s.b s.nw).f i=_;rw[(IS s.b s.nw).2];have a:(s.P.map (rU s.nw))[i]?=some q:=hq;rw[adZ] at a;cases hp:s.P[i]? with
  |none=>rw[hp] at a;cases a
  |some p=>
   rw[hp] at a;simp at a;subst a;rw[h.has i p hp];cases c:p.sv with
   |none=>simp[rU,c]
   |some v=>
    have:=h.Ke (adF hp) c;simp[rU,c,this.2.2]
 .show(l7 s.b s.nw).f i=_;rw[(IS s.b s.nw).2];exact h.o i (by rw[hl] at hi;exact hi)
theorem gQ.tick(h:gQ s)(E:s.nw<1048576):gQ (gI s).2:=by
 obtain⟨hs,hc⟩:=h.step E;unfold gI;split
 .rename_i i d he;obtain⟨hi,hd⟩:=CO _ _ _ _ he;simp only;generalize t:eJ s=z at *;have y:z.nw=s.nw+1:=by rw[<-t];rfl
  cases hp:z.P[i]? with
  |none=>rw[hp] at hd;cases hd
  |some p=>
   rw[hp] at hd;cases k:p.sv with
   |none=>simp[tD,k] at hd
   |some v=>
    have g:∃x xs,v.ch=x::xs:=by
     cases g:v.ch with
     |nil=>simp[tD,k,GJ,g] at hd
     |cons x xs=>exact⟨x,xs,rfl⟩
    obtain⟨x,xs,g⟩:=g;have A:rX s.nw v:=by
     have a:=hp;rw[<-t] at a;have c:(s.P.map (rU s.nw))[i]?=some p:=a;rw[adZ] at c;cases m:s.P[i]? with
     |none=>rw[m] at c;cases c
     |some p0=>
      rw[m] at c;simp at c;cases r:p0.sv with
      |none=>rw[<-c] at k;simp[rU,r] at k
      |some v0=>
       rw[<-c] at k;simp[rU,r] at k;subst k;exact(h.Ke (adF m) r).1
    have D:=A.run g;have hl:(z.P.modify i zI).length=z.P.length:=adI ..;refine⟨by simp only;rw[hl];exact hs.n,λq hq u hu=>?_,hs.bk,hs.nw,by simp only;rw[hl];exact hs.tu,hs.bn,?_,λj q hq=>?_,λj B=>hs.o j (by simpa only[hl] using B)⟩
    .obtain⟨j,B,rfl⟩:=acF hq;obtain⟨C,a,he⟩:=get_modify (abL B);by_cases l:j=i
     .subst l;rw[hp] at a;injection a with a;subst a;rw[abP rfl] at he;rw[he] at hu;simp[zI,k] at hu;subst hu;rw[show({z with P:=z.P.modify j zI}:Sd).nw=s.nw+1 from y];exact D.1
     .rw[abQ l] at he;rw[he] at hu;exact hs.sv C (adF a) u hu
    .have h1:=tC (f:=zI) hp;have F:(if kT (zI p)=true then 1 else 0)<=1:=by split <;> omega
     show((z.b.L.length:Int)+((z.P.modify i zI).countP kT:Int))<=z.nw;omega
    .obtain⟨C,a,he⟩:=get_modify hq;have:=hs.has j C a;rw[he];simp only;rw[this];split
     .rename_i l;subst l;rw[hp] at a;injection a with a;subst a;simp[zI,k,D.2]
     .rfl
 .split
  .rename_i e he;have:=Bh he;rw[xN] at this;exact⟨hs.n,hs.sv,hs.bk,hs.nw,⟨by show(0:Int)<=((e+1)%s.P.length:Nat);omega,by show(((e+1)%s.P.length:Nat):Int)<(eJ s).P.length;rw[xN];have:=af9 (e+1) (show 0<s.P.length by omega);omega⟩,hs.bn,hs.vM,hs.has,hs.o⟩
  .exact hs
end
end
section
open Go.RowKit Go.Lib Go.Shelf
variable{F:Nat->Prop}{w:aA}{g:Nat}
section
theorem YB(w:aA)(now:Int)(rd:Bool):aG prog 112 #[pK,now,rd] w λe w'=>e= .returned (.bool false)/\w=w':=by
 go_enter func112,ntmps112
 go_wp2_with fail
 go_ret
 exact⟨rfl,rfl⟩
def RN(o:Option (Nat×Int)):Int:=match o with|none=> -1|some (j,_)=>j
def leE(o:Option (Nat×Int)):Int:=match o with|none=>0|some (_,e)=>e
theorem TJ{P:List Pv}{k:Nat}(h:P[k]?.bind tD=none):iN P (k+1)=iN P k:=by
 show(match P[k]?.bind tD with|none=>iN P k|some d=>_)=_;rw[h]
theorem Fx{P:List Pv}{k:Nat}{d:Int}(h:P[k]?.bind tD=some d):iN P (k+1)=match iN P k with
 |none=>some (k,d)
 |some (j,e)=>if d<e then some (k,d) else some (j,e):=by
 show(match P[k]?.bind tD with|none=>iN P k|some d=>_)=_;rw[h];try rfl
theorem RX(h:lP F w g s)(L:s.P.length<=8)(hl:∀p∈s.P,∀v,p.sv=some v->v.ch.length<=4000000):aG prog 113 #[.pointer g] w λe w'=>e= .returned (.int .i64 (RN (iN s.P s.P.length)))/\w=w':=by
 obtain⟨U,q,R,M,B,d,h⟩:=h;have c0:=h.c0;have H:=aP h;have N:=aP hl;obtain⟨n,E⟩:∃n,n=s.P.length:=⟨_,rfl⟩
 rw[<-E] at c0 L;have O:=aP E;have A:aH (RN (iN s.P n)=RN (iN s.P s.P.length)):=by unfold aH;rw[<-E]
 generalize RN (iN s.P s.P.length)=res at *;clear h hl E;go_enter func113,ntmps113
 go_wp2_with fail
 go_loop [3,4,13] (λv3 v4 t=>∃(k:Nat) (x y:Int),t= .int .i64 k/\v3= .int .i64 x/\v4= .int .i64 y/\k<=n/\aH (x=RN (iN s.P k)/\y=leE (iN s.P k))) (λ_ _ t=>n - (aL t).toNat)
 case atStart=>exact⟨0, -1,0,rfl,rfl,rfl,abX _,rfl,rfl⟩
 case round=>
  obtain⟨k,x,y,rfl,rfl,rfl,hk,f⟩:=hrel;by_cases I:k<n
  .have i:k<s.P.length:=by rw[<-O.o];exact I
   have C:k<R.length:=by rw[H.o.len];exact i
   obtain⟨p0,p1,_,_⟩:=H.o.pl C;have V:(0:Int)<=k:=aQ;have Q:(k:Int)<(n:Int):=aQ;have c:=H.o.ml k C i;have l:s.P[k]?=some s.P[k]:=abL i;have HD:aH (s.P[k]?.bind tD=s.P[k].sv.bind GJ):=by unfold aH;rw[l];rfl
   cases m:s.P[k].sv with
   |none=>
    rw[c.2.1 m] at p0;replace p0:w.cell? (q,k *2)=some (.pointer none):=p0;have r:aH (iN s.P (k+1)=iN s.P k):=TJ (by rw[HD.o,m];rfl);clear c m HD l;go_wp2_with fail
    refine aS (OU w) ?_;rintro e G ⟨rfl,rfl⟩;go_wp2_with fail
    go_round
    case rel=>exact⟨k+1,x,y,by go_num,rfl,rfl,aQ,by show _/\_;rw[r.o];exact f.o⟩
    case measure=>simp[aL];omega
   |some v=>
    obtain⟨a,ha,hs⟩:=c.2.2 v m;rw[ha] at p0;replace p0:w.cell? (q,k *2)=some (.pointer a):=p0;have u:=aP (NI hs (N.o _ (abV i) v m));cases hc:v.ch with
    |nil=>
     have r:aH (iN s.P (k+1)=iN s.P k):=TJ (by rw[HD.o,m];simp[GJ,hc]);rw[hc] at u;clear c m HD l hs;go_wp2_with fail
     refine aR u ?_;rintro e G ⟨rfl,rfl⟩;go_wp2_with fail
     go_round
     case rel=>exact⟨k+1,x,y,by go_num,rfl,rfl,aQ,by show _/\_;rw[r.o];exact f.o⟩
     case measure=>simp[aL];omega
    |cons z zs=>
     have b:=aP (Fx (P:=s.P) (k:=k) (d:=z.de) (by rw[HD.o,m];simp[GJ,hc]));replace u:aH (aG prog 116 #[.pointer a] w λe w'=>e= .returned (.tuple #[z.de,true])/\w=w'):=by
      have:=u.o;rw[hc] at this;exact this
     clear c m HD l hs hc;cases he:iN s.P k with
     |none=>
      have r:aH (iN s.P (k+1)=some (k,z.de)):=by unfold aH;rw[b.o,he]
      have S:x= -1:=by rw[f.o.1,he];rfl
      clear he b f;subst S;generalize z.de=D at *;go_wp2_with fail
      refine aR u ?_;rintro e G ⟨rfl,rfl⟩;go_wp2_with fail
      go_round
      case rel=>exact⟨k+1,k,D,by go_num,rfl,rfl,aQ,by show _/\_;rw[r.o];exact⟨rfl,rfl⟩⟩
      case measure=>simp[aL];omega
     |some T=>
      obtain⟨j,e⟩:=T;have J:x=j/\y=e:=by rw[f.o.1,f.o.2,he];exact⟨rfl,rfl⟩
      obtain⟨rfl,rfl⟩:=J;have W:¬(j:Int)= -1:=aQ;by_cases hd:z.de<y
      .have r:aH (iN s.P (k+1)=some (k,z.de)):=by unfold aH;rw[b.o,he];simp only;rw[abP hd]
       clear he b f;generalize z.de=D at *;go_wp2_with fail
       refine aR u ?_;rintro e G ⟨rfl,rfl⟩;go_wp2_with fail
       go_round
       case rel=>exact⟨k+1,k,D,by go_num,rfl,rfl,aQ,by show _/\_;rw[r.o];exact⟨rfl,rfl⟩⟩
       case measure=>simp[aL];omega
      .have r:aH (iN s.P (k+1)=some (j,y)):=by unfold aH;rw[b.o,he];simp only;rw[abQ hd]
       clear he b f;generalize z.de=D at *;have D8:decide (D<y)=false:=ab4 hd;clear hd;go_wp2_with fail
       refine aR u ?_;rintro e G ⟨rfl,rfl⟩;go_wp2_with fail
       go_round
       case rel=>exact⟨k+1,j,y,by go_num,rfl,rfl,aQ,by show _/\_;rw[r.o];exact⟨rfl,rfl⟩⟩
       case measure=>simp[aL];omega
  .obtain rfl:k=n:=aQ;have Q:¬(k:Int)<(k:Int):=aQ;have K:=aP f.o.1;clear f;go_wp2_with fail
   go_ret
   exact⟨by rw[<-A.o,<-K.o];rfl,rfl⟩
end
variable{i q2 q:Nat}{T:Int}{w1 w2:aA}
section
def tT(now:Int)(P:List Pv)(k:Nat):List Pv:=P.mapIdx λi p=>if i<k then rU now p else p
theorem oE(now:Int)(P:List Pv)(k:Nat):(tT now P k).length=P.length:=List.length_mapIdx
theorem vU{now:Int}{P:List Pv}{k:Nat}(hi:i<P.length):(tT now P k)[i]'(by rw[oE];exact hi)=if i<k then rU now P[i] else P[i]:=List.getElem_mapIdx ..
theorem Dj(now:Int)(P:List Pv):tT now P 0=P:=ac9 (oE ..) λi h1 a=>by rw[vU a,abQ (adR _)]
theorem Nu(now:Int)(P:List Pv):tT now P P.length=P.map (rU now):=ac9 (by rw[oE,acS]) λi h1 a=>by
 rw[oE] at h1;rw[vU h1,abP h1,afZ]
theorem R9{now:Int}{P:List Pv}{k:Nat}(hk:k<P.length):(tT now P k).set k (rU now P[k])=tT now P (k+1):=ac9 (by rw[ab1,oE,oE]) λi h1 b=>by
 rw[oE] at b;rw[acK];split
 .rename_i e;subst e;rw[vU b,abP (Nat.lt_succ_self _)]
 .rw[vU b,vU b];rename_i e;by_cases a:i<k
  .rw[abP a,abP aQ]
  .rw[abQ a,abQ aQ]
theorem Jo{now:Int}{P:List Pv}{k:Nat}(hk:k<P.length)(h:rU now P[k]=P[k]):tT now P (k+1)=tT now P k:=by
 rw[<-R9 hk,h];refine ac9 (by rw[ab1]) λi h1 a=>?_
 rw[oE] at a;rw[acK];split
 .rename_i e;subst e;rw[vU a,abQ (adH _)]
 .rfl
section
variable{F:Nat->Prop}{w w':aA}{ow:Nat->Nat}{g q d:Nat}{s:Sd}{R:List Pm}{M:Option Nat}{B:Option aJ}
theorem iP.PN(h:iP F w g s ow q R M B d)(v:Int):iP F (w.setCell (g,5) v) g {s with nw:=v} (nx w ow 1) q R M B d/\Kp F w (w.setCell (g,5) v):=by
 obtain⟨h1,a⟩:=h.bk.cells (bn':=s.b.bn) (us':=s.b.us) (nw':=v) (tu':=s.tu) (aZ (bL w g) 5 _) (by have:=h.bk.b.cB 5 v;simpa[GU] using this);exact h.JZ h1 a
theorem iP.Ws(h:iP F w g s ow q R M B d)(v:Int):iP F (w.setCell (g,6) v) g {s with tu:=v} (nx w ow 1) q R M B d/\Kp F w (w.setCell (g,6) v):=by
 obtain⟨h1,a⟩:=h.bk.cells (bn':=s.b.bn) (us':=s.b.us) (nw':=s.nw) (tu':=v) (aZ (bL w g) 6 _) (by have:=h.bk.b.cB 6 v;simpa[GU] using this);exact h.JZ h1 a
theorem iP.f5(h:iP F w g s ow q R M B d):w.frozen? (g,5)=false/\w.frozen? (g,6)=false:=⟨h.bk.b.frozen 5,h.bk.b.frozen 6⟩
end
theorem rX.Wf{s:Sv}{x:Ck}{xs:List Ck}(h:rX T s)(i:T<=1048576)(hs:s.ch=x::xs):(∀r∈s.rf,r.at_<=x.de)/\(1<=x.lf/\x.lf<=1048576)/\(0<=x.us/\x.us<=1048576)/\0<=s.cg/\s.cg<=1048576:=by
 have a:x∈s.ch:=by rw[hs];simp
 have h1:=h.b.ch x a;have c:=h.b.all;have j:=h.b.bu;have k:=h.b.av;have m:=GO h.b.rf;have n:=MW (l:=xs) λy e=>h.b.ch y (by rw[hs];simp[e])
 have o:=h.cg;rw[hs,oI] at c;exact⟨λr f=>h.b.CC r f x a,aQ,aQ,aQ⟩
theorem modify_eq{l:List Pv}{f:Pv->Pv}(hi:i<l.length):l.modify i f=l.set i (f l[i]):=ac9 (by rw[adI,ab1]) λj h1 a=>by
 rw[List.getElem_modify,acK];split
 .rename_i e;subst e;rfl
 .rfl
def Va(F:Nat->Prop)(g:Nat)(s:Sd)(w:aA)(e:aM)(w':aA):Prop:=e= .returned (.tuple #[.agg #[.int .i64 (gI s).1.env, .bool (gI s).1.ch],true])/\lP F w' g (gI s).2/\Kp F w w'
theorem QD{s':Sd}{x:Rn}(h:lP (Fb F q2) w2 g s')(hq:¬F q2)(k:Kp F w w1)(e:Kp (Fb F q2) w1 w2)(a b:aC)(f:gI s=(x,s')):Va F g s w (.returned (.tuple #[.agg #[x.env,x.ch],true])) ((w2.setCell (q2,0) a).setCell (q2,1) b):=by
 have c:w2.grownBy ((w2.setCell (q2,0) a).setCell (q2,1) b) (some q2):=aZ (aZ (bL _ _) 0 _) 1 _;have fl:Ol F w2:=λb hb=>h.fl b (.inl hb)
 unfold Va;rw[f];exact⟨rfl,(lP.cH g s').unbox h fl c,(k.trans e.unbox).trans (fl.self hq c)⟩
theorem MM{t:TypeId}{x y:aC}(h:bE w q t #[x,y])(a b:aC):((w.setCell (q,0) a).setCell (q,1) b).cell? (q,0)=some a/\((w.setCell (q,0) a).setCell (q,1) b).cell? (q,1)=some b:=by
 have h1:=(h.cB 0 a).cB 1 b;exact⟨h1.cell 0 _ aT,h1.cell 1 _ aT⟩
theorem ZM(h:lP F w g s)(hI:gQ s)(hnw:s.nw<1048576):aG prog 77 #[.pointer g] w (Va F g s w):=by
 have fl:=h.fl;have h1:=(lP.cH g s).box h fl (aI #[aU,false] 69);have xb:=bE.new w 69 #[aU,false];have kk1:=fl.below (aX w (aI #[aU,false] 69));have hFq:¬F w.heap.size:=λhf=>adH _ (fl _ hf)
 clear h fl;obtain⟨n,hn⟩:∃n,n=s.P.length:=⟨_,rfl⟩
 have hn8:n<=8/\1<=n:=by have:=hI.n;omega
 have HN:=aP hn;have hw0:=hI.nw;have HI:=aP hI;clear hn hI;go_enter func77,ntmps77
 go_upto_region 1 with(fail)
 generalize w.alloc (aI #[aU,false] 69)=w1 at *;generalize w.heap.size=q2 at *;obtain⟨ow,q,R,M,B,d,h⟩:=h1;have c5:=h.c5;obtain⟨u,hu⟩:∃u,u=s.nw:=⟨_,rfl⟩
 rw[<-hu] at c5 hw0 hnw;have HU:=aP hu;have hu1:¬(1048576:Int)<=u:=aQ;clear hu;have HH:=aP h;have HK1:=aP kk1;clear h kk1;go_upto_region 3 with(fail)
 have c:=bD c5;refine bM (bQ _) (λ_=>bQ) [] (λ_ _ _=>True) [7] [] 121 (bZ _) (λ_ _ _ h hz=>bV h hz) (λ_ d hd _ v w w' _ h hz=>by cases hd) aV aV bF ?_;repeat refine eK ?_
 refine dI ?_;intro γ w5 hb5 hT;clear c;simp only[cY,Act.put,abN,abU,abS];refine dS ?_;obtain⟨Z,k5⟩:=HH.o.keep hb5;have HA:=R0 Z.bk HI.o.bk s.nw (by have:=HI.o.len;omega);rw[<-HU.o] at HA;have HA':=aP HA;have H5:=bP Z k5;clear hT HA Z k5 hb5;refine wpList_plain rfl (λK hK=>?_);go_wp2_with fail
 refine aR HA' ?_;rintro e w6 ⟨⟨v6,rfl⟩,⟨M6,B6,d6,m6⟩,k6⟩;obtain⟨h6,kk6⟩:=H5.o.1.JZ m6 k6;have hk6:=H5.o.2.trans kk6;have xb6:=hk6.aY xb (.inr rfl);have H6:=aP h6;have HK6:=aP hk6;have c0:=h6.c0;clear H5 HA' m6 k6 kk6 hk6 h6 HH xb;generalize nx w5 (nx w1 ow 0) 1=ow6 at *;clear ow;rw[show({s with b:=l7 s.b u,nw:=s.nw,tu:=s.tu}:Sd).P.length=n from HN.o.symm] at c0;refine hK _ _ ?_;clear hK K;refine cN ?_;try refine dE ?_
 clear c5 w5;go_upto_region 4 with(fail)
 go_wp2_with fail
 go_loopw [31] (λv31 wr=>∃(k:Nat) (ow:Nat->Nat),v31= .int .i64 k/\k<=n/\aH (iP (Fb F q2) wr g {s with P:=tT u s.P k,b:=l7 s.b u,nw:=u} ow q R M6 B6 d6/\Kp (Fb F q2) w6 wr)) (λv31 _=>n - (aL v31).toNat)
 case atStart=>exact⟨0,ow6,rfl,abX _,by show _/\_;rw[Dj];exact⟨H6.o,Kp.refl _ _⟩⟩
 case round=>
  clear c0;obtain⟨k,owk,rfl,hk,S⟩:=hrel;have hRl:R.length=n:=by have:=S.o.1.len;rw[oE] at this;rw[HN.o];exact this
  have c0:=S.o.1.c0;rw[show({s with P:=tT u s.P k,b:=l7 s.b u,nw:=u}:Sd).P.length=n from(oE ..).trans HN.o.symm] at c0;by_cases hkn:k<n
  .have U:k<s.P.length:=by rw[<-HN.o];exact hkn
   have hkR:k<R.length:=by rw[hRl];exact hkn
   have hkb:k<(tT u s.P k).length:=by rw[oE];exact U
   have c5:wr.cell? (g,5)=some (.int .i64 u):=S.o.1.c5;obtain⟨p0,p1,_,_⟩:=S.o.1.pl hkR;have k0:(0:Int)<=k:=aQ;have k1:(k:Int)<(n:Int):=aQ;have y:=S.o.1.ml k hkR hkb;have E:(tT u s.P k)[k]=s.P[k]:=by rw[vU U,abQ (adH _)]
   have L:R[k].rd=s.P[k].rd:=by rw[<-E];exact y.1
   rw[L] at p1;cases r:s.P[k].sv with
   |none=>
    rw[y.2.1 (by rw[E];exact r)] at p0;replace p0:wr.cell? (q,k *2)=some (.pointer none):=p0;have HE:aH (tT u s.P (k+1)=tT u s.P k):=Jo U (by unfold rU;rw[r];cases hp:s.P[k];rw[hp] at r;simp at r;simp[r]);clear y r E L;generalize s.P[k].rd=rd at *;go_upto_region 7 with(fail)
    have z:=bD c0;have c:=bD c5;have A:=bD p0;have C:=bD p1;refine bM (bQ _) (λ_=>bQ) [] (λ_ _ _=>True) [20] [[20,7,6,5,3], [20,19,18,17,15]] 121 (bZ _) (λ_ _ _ h hz=>bV h hz) (λ_ d hd _ v w w' _ h hz=>by cases hd) aV aV bF ?_;repeat refine eK ?_
    refine dI ?_;intro γ w5 hb5 hT;clear z c A C;simp only[cY,Act.put,abN,abU,abS];refine dS ?_;obtain⟨Z,k5⟩:=S.o.1.keep hb5;have H5:=bP Z (S.o.2.trans k5);clear hT Z k5 hb5;refine wpList_plain rfl (λK hK=>?_);go_wp2_with fail
    refine aS (YB w5 u rd) ?_;rintro e w6 ⟨rfl,rfl⟩;refine hK _ _ ?_;clear hK K;refine cN ?_;try refine dE ?_
    go_wp2_with fail
    go_roundw
    case rel=>exact⟨k+1,_,by go_num,aQ,by show _/\_;rw[HE.o];exact H5.o⟩
    case measure=>simp[aL];omega
   |some v=>
    obtain⟨a,ha,hs⟩:=y.2.2 v (by rw[E];exact r);rw[ha] at p0;replace p0:wr.cell? (q,k *2)=some (.pointer a):=p0;have G:=HI.o.sv _ (abV U) v r;have HE:aH ((tT u s.P k).set k {(tT u s.P k)[k] with sv:=some (kI v u s.P[k].rd)}=tT u s.P (k+1)):=by
     unfold aH;rw[<-R9 U,E];unfold rU;rw[r];rfl
    have HV:=aP G;have HA:=aP ha;have HG:aH ((tT u s.P k)[k].sv=some v):=by unfold aH;rw[E];exact r
    clear y r E L ha G hs;generalize s.P[k].rd=rd at *;go_upto_region 7 with(fail)
    have z:=bD c0;have c:=bD c5;have A:=bD p0;have C:=bD p1;refine bM (bQ _) (λ_=>bQ) [] (λ_ _ _=>True) [20] [[20,7,6,5,3], [20,19,18,17,15]] 121 (bZ _) (λ_ _ _ h hz=>bV h hz) (λ_ d hd _ v w w' _ h hz=>by cases hd) aV aV bF ?_;repeat refine eK ?_
    refine dI ?_;intro γ w5 hb5 hT;clear z c A C;simp only[cY,Act.put,abN,abU,abS];refine dS ?_;obtain⟨Z,k5⟩:=S.o.1.keep hb5;obtain⟨a',ha',hs5⟩:=(Z.ml k hkR hkb).2.2 v HG.o;obtain rfl:a=a':=by have:=HA.o;rw[ha'] at this;injection this with this;exact this.symm
    have HB:=aP (Cb hs5 u rd HV.o.b (by have:=HV.o.nw;have:=HU.o;omega) aQ HV.o.nw.1 (by have:=HV.o.len;omega));have H5:=bP Z (S.o.2.trans k5);clear hT Z k5 hb5 ha' hs5;refine wpList_plain rfl (λK hK=>?_);go_wp2_with fail
    refine aR HB ?_;rintro e w6 ⟨rfl,hs6,k6⟩;obtain⟨h7,k7⟩:=H5.o.1.Kb hkb hkR HA.o HG.o hs6 k6;have H7:=bP h7 (H5.o.2.trans k7);clear h7 k7 hs6 k6 H5 HB;refine hK _ _ ?_;clear hK K;refine cN ?_;try refine dE ?_
    go_wp2_with fail
    go_roundw
    case rel=>exact⟨k+1,_,by go_num,aQ,by have:=H7.o;rw[HE.o] at this;exact this⟩
    case measure=>simp[aL];omega
  .obtain rfl:k=n:=aQ;have k1:¬(k:Int)<(k:Int):=aQ;have hall:tT u s.P k=s.P.map (rU u):=by rw[HN.o];exact Nu _ _
   obtain⟨h8,k8⟩:=S.o;obtain⟨h9,k9⟩:=h8.PN (u+1);have c5:wr.cell? (g,5)=some (.int .i64 u):=h8.c5;have f5:=h8.f5.1;have V:({s with P:=tT u s.P k,b:=l7 s.b u,nw:=u+1}:Sd)=eJ s:=by
    rw[hall,HU.o];rfl
   rw[V] at h9;have H9:=aP h9;have HK9:=aP (k8.trans k9);have H:=(k8.trans k9).aY xb6 (.inr rfl);obtain⟨hSI,_⟩:=HI.o.step (by rw[<-HU.o];exact hnw);have HSI:=aP hSI;have f:aH ((eJ s).P.length=k):=by unfold aH;rw[xN];exact HN.o.symm
   have HEa:=aP (RX (F:=Fb F q2) (w:=wr.setCell ⟨g,5,none⟩ (.int .i64 (u+1))) ⟨_,_,_,_,_,_,h9⟩ (by rw[f.o];exact hn8.1) (λp hp v r=>by have:=(hSI.sv p hp v r).len;omega));clear h8 k8 h9 k9 hall V hSI S H6 xb6 hRl;generalize nx wr owk 1=ow9 at *;clear owk;have HT:aH (gI s=match iN (eJ s).P k with
    |some (i,_)=>(⟨i,true⟩,{eJ s with P:=(eJ s).P.modify i zI})
    |none=>match zF (eJ s).P s.tu.toNat with
     |some e=>(⟨e,false⟩,{eJ s with tu:=((e+1)%k:Nat)})
     |none=>(⟨-1,false⟩,eJ s)):=by
    unfold aH;rw[HN.o];rfl
   have hEL:iN (eJ s).P (eJ s).P.length=iN (eJ s).P k:=by rw[f.o]
   rw[hEL] at HEa;clear hEL;go_upto_region 10 with(fail)
   generalize wr.setCell (g,5) (.int .i64 (u+1))=w9 at *;go_wp2_with fail
   refine aR HEa ?_;rintro e w10 ⟨rfl,rfl⟩;clear HEa c5 f5 c0;have x0:=H.cell 0 (.int .i64 0) rfl;have x1:=H.cell 1 (.bool false) rfl;have y0:=H.frozen 0;have y1:=H.frozen 1;have c0:=H9.o.c0;rw[f.o] at c0;cases he:iN (eJ s).P k with
   |some jd=>
    obtain⟨i,dd⟩:=jd;rw[he] at HT;obtain⟨hik,hdd⟩:=CO _ _ _ _ he;have N:i<(eJ s).P.length:=by rw[f.o];exact hik
    have hiR:i<R.length:=by rw[H9.o.len];exact N
    rw[abL N] at hdd;cases r:(eJ s).P[i].sv with
    |none=>simp[tD,r] at hdd
    |some v=>
     have I:∃x xs,v.ch=x::xs:=by
      cases I:v.ch with
      |nil=>simp[tD,r,GJ,I] at hdd
      |cons x xs=>exact⟨x,xs,rfl⟩
     obtain⟨x,xs,I⟩:=I;obtain⟨p0,_,_,_⟩:=H9.o.pl hiR;obtain⟨a,ha,hs⟩:=(H9.o.ml i hiR N).2.2 v r;rw[ha] at p0;replace p0:w9.cell? (q,i *2)=some (.pointer a):=p0;have G:=HSI.o.sv _ (abV N) v r;have hnn:(eJ s).nw<=1048576:=HSI.o.nw.2;obtain⟨r1,r2,r3,r4⟩:=G.Wf hnn I;have HB:=aP (Gz hs I r1 (by have:=G.len;omega) (by have:=G.len;omega) r2 r3 r4);have HV:=aP r;have HA:=aP ha;have i0:(0:Int)<=i:=aQ;have i1:(i:Int)<(k:Int):=aQ;clear r1 r2 r3 r4 G hs ha r hdd I hnn he HSI;simp only[RN];go_wp2_with fail
     refine aR HB ?_;rintro e w11 ⟨rfl,hs11,X⟩;obtain⟨O,J⟩:=H9.o.Kb N hiR HA.o HV.o hs11 X;have hm:(eJ s).P.set i {(eJ s).P[i] with sv:=some (C4 v)}=(eJ s).P.modify i zI:=by
      rw[modify_eq N];unfold zI;rw[HV.o];rfl
     rw[hm] at O;have D:=J.aY H (.inr rfl);have hE:=QD (s:=s) (x:=⟨i,true⟩) ⟨_,_,_,_,_,_,O⟩ hFq HK1.o (HK6.o.trans (HK9.o.trans J)) (.int .i64 i) (.bool true) HT.o;have HE:=aP hE;clear hE O J hm hs11 X x0 x1 y0 y1 H HB;have x0:=D.cell 0 (.int .i64 0) rfl;have x1:=D.cell 1 (.bool false) rfl;have y0:=D.frozen 0;have y1:=D.frozen 1;go_wp2_with fail
     have hE:=HE.o;obtain⟨z0,z1⟩:=MM D (.int .i64 i) (.bool true);clear HE;generalize (w11.setCell (q2,0) i).setCell (q2,1) (.bool true)=W at *;refine bodyPost_ret (v:= .tuple #[.agg #[i,true],true]) ?_ rfl hE;simp[z0,z1,results,results77,go_sem]
   |none=>
    rw[he] at HT;have c6:w9.cell? (g,6)=some (.int .i64 s.tu):=H9.o.c6;have f6:=H9.o.f5.2;have htu:=HI.o.tu;rw[<-HN.o] at htu;obtain⟨T,hT⟩:=abR htu.1;rw[hT] at c6 htu HT;have hTk:T<k:=aQ;have HTT:aH ((eJ s).tu=(T:Int)):=hT;clear htu hT he x0 x1 y0 y1;simp only[RN];go_upto_region 14 with(fail)
    go_wp2_with fail
    go_loopw [83] (λv83 wz=>∃j:Nat,v83= .int .i64 j/\j<=k/\aH (∀m,m<j->BJ (eJ s).P ((T+m)%k)=false)/\aD w9 w9 wz) (λv83 _=>k - (aL v83).toNat)
    case atStart=>exact⟨0,rfl,abX _,λm hm=>absurd hm (adR _),Below.refl _ _⟩
    case round=>
     clear c0 c6 f6;obtain⟨j,rfl,hj,HJ,hB⟩:=hrel;obtain⟨l,Y⟩:=H9.o.keep hB;have t:=Y.aY H (.inr rfl);have x0:=t.cell 0 (.int .i64 0) rfl;have x1:=t.cell 1 (.bool false) rfl;have y0:=t.frozen 0;have y1:=t.frozen 1;have c0:=l.c0;rw[f.o] at c0;have c6:wr.cell? (g,6)=some (.int .i64 T):=by rw[<-HTT.o];exact l.c6
     have f6:=l.f5.2;have hBB:=aP hB;clear hB;by_cases hjk:j<k
     .have j0:(0:Int)<=j:=aQ;have j1:(j:Int)<(k:Int):=aQ;obtain⟨m,hm⟩:∃m,m=(T+j)%k:=⟨_,rfl⟩
      have hmk:m<k:=by rw[hm];exact af9 _ aQ
      have hrem:Int.tmod ((T:Int)+(j:Int)) (k:Int)=(m:Int):=by rw[hm,<-Int.natCast_add,Int.ofNat_tmod]
      have y:m<(eJ s).P.length:=by rw[f.o];exact hmk
      have hmR:m<R.length:=by rw[l.len];exact y
      obtain⟨_,p1,_,_⟩:=l.pl hmR;have m0:(0:Int)<=m:=aQ;have m1:(m:Int)<(k:Int):=aQ;have L:R[m].rd=BJ (eJ s).P m:=by
       rw[(l.ml m hmR y).1];unfold BJ;rw[abL y]
      rw[L] at p1;have HM:=aP hm;have H10:=aP l;have K10:=aP Y;clear L hm l Y;cases Q:BJ (eJ s).P m
      .rw[Q] at p1;have HRR:=aP Q;clear Q;go_upto_region 17 with(fail)
       go_quiet (fail)
       go_wp2_with fail
       go_roundw
       case rel=>
        refine⟨j+1,by go_num,aQ,λi hi=>?_,fN hBB.o _⟩;by_cases hij:i<j
        .exact HJ.o i hij
        .obtain rfl:i=j:=aQ;rw[<-HM.o];exact HRR.o
       case measure=>simp[aL];omega
      .rw[Q] at p1;have HRR:=aP Q;clear Q;go_upto_region 17 with(fail)
       go_quiet (fail)
       go_wp2_with fail
       have hnx:zF (eJ s).P T=some m:=by
        have:=Dg (P:=(eJ s).P) (tu:=T) (k:=j) (by rw[f.o];exact hjk) (by rw[f.o];exact HJ.o) (by rw[f.o,<-HM.o];exact HRR.o);rw[f.o,<-HM.o] at this;exact this
       obtain⟨h11,X⟩:=H10.o.keep (w':=wr.drewN nq) (fN (Below.refl _ _) nq);obtain⟨O,J⟩:=h11.Ws (((m:Int)+1)%(k:Int));have hc:(((m:Int)+1)%(k:Int))=(((m+1)%k:Nat):Int):=aT;have hE:=QD (s:=s) (x:=⟨m,false⟩) ⟨_,_,_,_,_,_,O⟩ hFq HK1.o (HK6.o.trans (HK9.o.trans (K10.o.trans (X.trans J)))) (.int .i64 m) (.bool false) (by rw[HT.o];simp only[abW];rw[hnx,hc]);obtain⟨z0,z1⟩:=MM ((X.trans J).aY t (.inr rfl)) (.int .i64 m) (.bool false);clear O J;generalize (((wr.drewN nq).setCell (g,6) (.int .i64 (((m:Int)+1)%(k:Int)))).setCell (q2,0) (.int .i64 m)).setCell (q2,1) (.bool false)=W at *;refine bodyPost_ret (v:= .tuple #[.agg #[.int .i64 m,false],true]) ?_ rfl hE;simp[z0,z1,results,results77,go_sem]
     .obtain rfl:j=k:=aQ;have j1:¬(j:Int)<(j:Int):=aQ;have H10:=aP l;have K10:=aP Y;clear l Y;go_wp2_with fail
      have hnx:zF (eJ s).P T=none:=Di (by rw[f.o];exact HJ.o);have hE:=QD (s:=s) (x:=⟨-1,false⟩) ⟨_,_,_,_,_,_,H10.o⟩ hFq HK1.o (HK6.o.trans (HK9.o.trans K10.o)) (.int .i64 (-1)) (.bool false) (by rw[HT.o];simp only[abW];rw[hnx]);obtain⟨z0,z1⟩:=MM t (.int .i64 (-1)) (.bool false);generalize (wr.setCell (q2,0) (.int .i64 (-1))).setCell (q2,1) (.bool false)=W at *;refine bodyPost_ret (v:= .tuple #[.agg #[.int .i64 (-1),false],true]) ?_ rfl hE;simp[z0,z1,results,results77,go_sem]
end
variable{n:Nat}
section
def A7(n:Nat):Sd:=⟨List.replicate n ⟨none,false⟩,⟨0,0,λ_=>none, []⟩,0,0⟩
theorem gQ.new(h1:1<=n)(b:n<=8):gQ (A7 n):=by
 have hl:(A7 n).P.length=n:=ad6;refine⟨by rw[hl];omega,λp hp v a=>?_,⟨λx v h=>(by cases h),λp hp=>(by cases hp),rfl,(by show(0:Int)<=4294967296;omega)⟩,(by show(0:Int)<=0/\(0:Int)<=1048576;omega),(by rw[hl];show(0:Int)<=0/\(0:Int)<n;omega),(by show(0:Int)<=0/\(0:Int)<=0;omega),?_,λi p hp=>?_,λi hi=>rfl⟩
 .have:=ac5 hp;subst this;cases a
 .show((0:Nat):Int)+((List.replicate n ⟨none,false⟩:List Pv).countP kT:Int)<=0;rw[List.countP_replicate];simp[kT]
 .have:=ac5 (adF hp);subst this;rfl
def SnR(n:Nat)(w:aA)(e:aM)(w':aA):Prop:=∃g,e= .returned (.tuple #[.pointer (some ⟨g,0,none⟩),aU])/\lP (λb=>b<w.heap.size) w' g (A7 n)/\aD w w w'
theorem Ql:(prog.info? 219).map (λi=>(i.zero,i.size,i.bytes))=some (some (.agg #[pK,false]),2,16):=aV
theorem SL(w:aA):aG prog 139 #[.int .i64 4] w (SnR 4 w):=by
 obtain⟨t,g,j,k,l⟩:=info_parts Ql;go_enter func139,ntmps139
 go_wp2_with(at_make;refine wpList_make_full _ rfl _ _ 180 rfl w.heap.size 219 t _ 2 underlying180 g j k _ _ _ _ 4 rfl rfl aQ aQ (by rw[l];omega) dN (abM _) ?_;intro c a d)
 go_ret2
 have ho:bI KX 2 c w.heap.size 219 (some ⟨w.heap.size,0,none⟩) 4 (List.replicate 4 ⟨none,false⟩):=by
  have e:(madeCells (Value.agg #[pK,false]).cells (4 *2)).toList=(List.replicate 4 (⟨none,false⟩:Pm)).flatMap KX:=aV;rw[e] at a;exact a
 have hb:aD w w c:=⟨d.os,d.tape,d.output,d.size,λi hi=>d.block i hi aT⟩
 have hq:w.heap.size<c.heap.size:=(ho.lt _ rfl).2;have f:=aX c (aI #[.slice w.heap.size 4 4,aU,bC, .map none,bH,aU,aU] 186);have u:=bE.new c 186 #[.slice w.heap.size 4 4,aU,bC, .map none,bH,aU,aU];have o:=hb.trans (f.mono hb.size);have m:=ho.keep f;refine⟨c.heap.size,rfl,⟨λb=>if b<w.heap.size then 0 else if b=w.heap.size then 2 else 1,w.heap.size,_,none,none,0,λb hb=>⟨abO hb o.size,abP hb⟩,⟨u,bI.nil _ _ _,⟨λ_ _=>rfl,λr n=>(by cases n)⟩,Fo.ol _ _ _,λh=>h.2 ?_,λq hq=>(by cases hq),λr n=>(by cases n)⟩,m.from_ (abX _),?_,rfl,λi h1 y=>?_⟩,o⟩
 .show(if _ then _ else _)=_;rw[abQ aQ,abQ aQ]
 .show(if _ then _ else _)=_;rw[abQ aQ,abP rfl]
 .have hp:∀(r:Pm) (p:Pv),r=⟨none,false⟩->p=⟨none,false⟩->∀W s,GR W s i r p:=by
   rintro r p rfl rfl W s;exact⟨rfl,λ_=>rfl,λv x=>(by cases x)⟩
  exact hp _ _ (ae0 ..) (ae0 ..) _ _
end
end
section
open Go.RowKit Go.Lib
variable{H F:Nat->Prop}{i j g q:Nat}{w:aA}
section
structure Ln where
 ra:Bool
 ma:Bool
 se:Bool
 dr:Int
def K0(s:Ln):List aC:= [.bool s.ra, .bool s.ma, .bool s.se, .int .i64 s.dr]
theorem ET:eW K0 4:=⟨λ_=>rfl,λx u hu=>by simp[K0] at hu;rcases hu with rfl|rfl|rfl|rfl <;> rfl⟩
structure Ir(F:Nat->Prop)(w:aA)(g q:Nat)(L:List Ln):Prop where
 b:bE w g 334 #[.slice q L.length L.length]
 o:bI K0 4 w 0 267 q L.length L
 n8:L.length<=8
 fl:Ol F w
 fg:¬F g
 fq:¬F q
 ne:g≠q
section
variable{F G:Nat->Prop}{w w':aA}{g q:Nat}{L:List Ln}
theorem Ir.kp(h:Ir F w g q L)(k:Kp G w w')(c:G g)(hq:G q)(fl:Ol H w')(fg:¬H g)(fq:¬H q):Ir H w' g q L:=⟨k.aY h.b c,h.o.kp k (λr a=>by injection a with a;rw[<-a];exact hq),h.n8,fl,fg,fq,h.ne⟩
theorem Ir.set(h:Ir F w g q L)(hi:i<L.length)(a:j<4)(x:Ln)(v:aC)(c:K0 x=(K0 L[i]).set j v):Ir F (w.setCell (q,i *4+j) v) g q (L.set i x)/\Kp F w (w.setCell (q,i *4+j) v):=by
 obtain⟨h1,d⟩:=qM ET.len h.o hi a x v c;have k:=h.fl.self h.fq d;exact⟨⟨by rw[ab1];exact h.b.rI (p:=⟨q,i *4+j,none⟩) h.ne v,by rw[ab1];exact h1,by rw[ab1];exact h.n8,h.fl.kp k,h.fg,h.fq,h.ne⟩,k⟩
theorem Ir.at_(h:Ir F w g q L)(hi:i<L.length):w.cell? (q,i *4)=some (.bool L[i].ra)/\w.cell? (q,i *4+1)=some (.bool L[i].ma)/\w.cell? (q,i *4+2)=some (.bool L[i].se)/\w.cell? (q,i *4+3)=some (.int .i64 L[i].dr):=
 ⟨bN ET h.o hi (j:=0) rfl,bN ET h.o hi (j:=1) rfl,bN ET h.o hi (j:=2) rfl,bN ET h.o hi (j:=3) rfl⟩
end
theorem F9{L:List Ln}(h:Ir F w g q L)(i:Nat)(hi:i<L.length):aG prog 102 #[.pointer g,i] w λe w'=>e= .returned (.pointer (some ⟨q,i *4,none⟩))/\w=w':=by
 have c0:=h.b.cell 0 _ rfl;have i0:¬(i:Int)<0:=aQ;have i2:(0:Int)<=i:=aQ;have i1:(i:Int)<(L.length:Int):=aQ;clear h;generalize L.length=n at *;go_enter func102,ntmps102
 go_wp2_with fail
 go_ret
 exact⟨aT,rfl⟩
theorem IZ{L:List Ln}(h:Ir F w g q L)(i:Int)(hi:i<0\/L.length<=i):aG prog 102 #[.pointer g,i] w λe w'=>e= .returned (.pointer none)/\w=w':=by
 have c0:=h.b.cell 0 _ rfl;clear h;generalize L.length=n at *;by_cases a:i<0
 .go_enter func102,ntmps102
  go_wp2_with fail
  go_ret
  exact⟨rfl,rfl⟩
 .have h1:(n:Int)<=i:=aQ;clear hi;go_enter func102,ntmps102
  go_wp2_with fail
  go_ret
  exact⟨rfl,rfl⟩
def Aa(F:Nat->Prop)(g q n:Nat)(w:aA)(e:aM)(w':aA):Prop:=∃(v:Int) (L:List Ln),e= .returned (.int .i64 v)/\L.length=n/\Ir F w' g q L/\Kp F w w'
section
variable{F:Nat->Prop}{w:aA}{g q:Nat}{L:List Ln}
theorem Ir.fz(h:Ir F w g q L)(hi:i<L.length):w.frozen? (q,i *4)=false/\w.frozen? (q,i *4+1)=false/\w.frozen? (q,i *4+2)=false/\w.frozen? (q,i *4+3)=false:=by
 have:=adE 4 (show i+1<=L.length from hi);exact⟨(dF h.o _ aQ).2,(dF h.o _ aQ).2,(dF h.o _ aQ).2,(dF h.o _ aQ).2⟩
theorem Ir.same(h:Ir F w g q L)(v:Int):Aa F g q L.length w (.returned (.int .i64 v)) w:=⟨v,L,rfl,rfl,h,Kp.refl _ _⟩
theorem Ir.done(h:Ir F w g q L)(v:Int)(hi:i<L.length)(a:j<4)(x:Ln)(u:aC)(b:K0 x=(K0 L[i]).set j u):Aa F g q L.length w (.returned (.int .i64 v)) (w.setCell (q,i *4+j) u):=⟨v,_,rfl,by rw[ab1],(h.set hi a x u b).1,(h.set hi a x u b).2⟩
end
theorem YG{L:List Ln}(h:Ir F w g q L)(i:Int):aG prog 74 #[.pointer g,i] w (Aa F g q L.length w):=by
 by_cases ho:i<0\/L.length<=i
 .have a:=aP (IZ h i ho);have c:=aP h.same;clear h ho;go_enter func74,ntmps74
  go_wp2_with fail
  refine aR a ?_;rintro e b ⟨rfl,rfl⟩;go_wp2_with fail
  go_ret
  exact c.o _
 .obtain⟨n,rfl⟩:=abR (show 0<=i by omega);have hi:n<L.length:=aQ;have a:=aP (F9 h n hi);obtain⟨c0,c1,c2,c3⟩:=h.at_ hi;have d:=aP (λv=>h.done v hi (j:=0) aQ {L[n] with ra:=true} (.bool true) rfl);have f:=aP (λv x=>h.done v hi (j:=3) aQ {L[n] with dr:=x} (.int .i64 x) rfl);obtain⟨f0,f1,f2,f3⟩:=h.fz hi;clear h ho;generalize L[n]=x at *;obtain⟨r1,k,l,m⟩:=x;simp only at c0 c1 c2 c3;cases r1
  .go_enter func74,ntmps74
   go_wp2_with fail
   refine aR a ?_;rintro e b ⟨rfl,rfl⟩;go_wp2_with fail
   go_ret
   exact d.o _
  .go_enter func74,ntmps74
   go_wp2_with fail
   refine aR a ?_;rintro e b ⟨rfl,rfl⟩;go_wp2_with fail
   go_ret
   exact f.o _ _
theorem P1{L:List Ln}(h:Ir F w g q L)(i:Int)(m:Bool):aG prog 195 #[.pointer g,i,m] w (Aa F g q L.length w):=by
 by_cases ho:i<0\/L.length<=i
 .have a:=aP (IZ h i ho);have b:=aP h.same;clear h ho;go_enter func195,ntmps195
  go_wp2_with fail
  refine aR a ?_;rintro e c ⟨rfl,rfl⟩;go_wp2_with fail
  go_ret
  exact b.o _
 .obtain⟨n,rfl⟩:=abR (show 0<=i by omega);have hi:n<L.length:=aQ;have a:=aP (F9 h n hi);obtain⟨c0,c1,c2,c3⟩:=h.at_ hi;obtain⟨f0,f1,f2,f3⟩:=h.fz hi;have d:=aP (λv=>h.done v hi (j:=1) aQ {L[n] with ma:=m} (.bool m) rfl);clear h ho;go_enter func195,ntmps195
  go_wp2_with fail
  refine aR a ?_;rintro e c ⟨rfl,rfl⟩;go_wp2_with fail
  go_ret
  exact d.o _
theorem TY{L:List Ln}(h:Ir F w g q L)(i:Int):aG prog 196 #[.pointer g,i] w (Aa F g q L.length w):=by
 by_cases ho:i<0\/L.length<=i
 .have a:=aP (IZ h i ho);have b:=aP h.same;clear h ho;go_enter func196,ntmps196
  go_wp2_with fail
  refine aR a ?_;rintro e c ⟨rfl,rfl⟩;go_wp2_with fail
  go_ret
  exact b.o _
 .obtain⟨n,rfl⟩:=abR (show 0<=i by omega);have hi:n<L.length:=aQ;have a:=aP (F9 h n hi);have b:=aP h.same;obtain⟨c0,c1,c2,c3⟩:=h.at_ hi;obtain⟨f0,f1,f2,f3⟩:=h.fz hi;have d:=aP (λv=>h.done v hi (j:=2) aQ {L[n] with se:=false} (.bool false) rfl);clear h ho;generalize L[n]=x at *;obtain⟨r1,k,f,l⟩:=x;simp only at c0 c1 c2 c3;cases f
  all_goals
   go_enter func196,ntmps196
   go_wp2_with fail
   refine aR a ?_;rintro e c ⟨rfl,rfl⟩;go_wp2_with fail
   go_ret
   first|exact d.o _|exact b.o _
theorem Gb{L:List Ln}(h:Ir F w g q L):aG prog 153 #[.pointer g] w λe w'=>e= .returned (.int .i64 L.length)/\w=w':=by
 have c0:=h.b.cell 0 _ rfl;clear h;go_enter func153,ntmps153
 go_wp2_with fail
 go_ret
 exact⟨rfl,rfl⟩
end
section
def CK(L:List Ln):Nat:=L.countP λx=>!x.se
theorem Mz{L:List Ln}(hi:i<L.length)(h:L[i].se=false){x:Ln}(a:x.se=true):CK (L.set i x)<CK L:=by
 have h1:0<CK L:=List.countP_pos_iff.2 ⟨L[i],abV hi,by simp[h]⟩;unfold CK at *;rw[List.countP_set hi];simp[h,a];omega
def Xu(F:Nat->Prop)(g q:Nat)(L:List Ln)(w:aA)(e:aM)(w':aA):Prop:=∃L':List Ln,L'.length=L.length/\Ir F w' g q L'/\Kp F w w'/\((∃i:Nat,i<L.length/\e= .returned (.tuple #[i,true])/\CK L'<CK L)\/e= .returned (.tuple #[aU,false]))
theorem Ig{L:List Ln}(h:Ir F w g q L):aG prog 109 #[.pointer g] w (Xu F g q L w):=by
 have a:=aP h;have c:=aP (Gb h);have d:=h.n8;clear h;go_enter func109,ntmps109
 go_wp2_with fail
 refine aR c ?_;rintro e f ⟨rfl,rfl⟩;go_wp2_with fail
 go_loop [8] (λv8=>∃k:Nat,v8= .int .i64 k/\k<=L.length) (λv8=>L.length - (aL v8).toNat)
 case atStart=>exact⟨0,rfl,abX _⟩
 case round=>
  obtain⟨k,rfl,hk⟩:=hrel;by_cases hi:k<L.length
  .have l:=aP (F9 a.o k hi);obtain⟨c0,c1,c2,c3⟩:=a.o.at_ hi;obtain⟨f0,f1,f2,f3⟩:=a.o.fz hi;have h1:=a.o.set hi (j:=2) aQ {L[k] with se:=true} (.bool true) rfl;have b:=h1.1.set (i:=k) (by rw[ab1];exact hi) (j:=0) aQ {L[k] with se:=true,ra:=false} (.bool false) (by rw[List.getElem_set_self];rfl);rw[List.set_set] at b;have HD:aH (L[k].se=false->Xu F g q L w (.returned (.tuple #[k,true])) ((w.setCell (q,k *4+2) (.bool true)).setCell (q,k *4+0) (.bool false))):=λhs=>⟨_,by rw[ab1],b.1,h1.2.trans b.2, .inl ⟨k,hi,rfl,Mz hi hs rfl⟩⟩
   have p:(k:Int)<(L.length:Int):=aQ;clear h1 b;generalize L[k]=x at *;obtain⟨r1,m,n,r⟩:=x;simp only at c0 c1 c2 c3 HD;cases r1 <;> cases m <;> cases n
   all_goals
    go_wp2_with fail
    refine aR l ?_;rintro e f ⟨rfl,rfl⟩;go_wp2_with fail
    first
     |(go_round;(case rel=>exact⟨k+1,by go_num,aQ⟩);(case measure=>simp[aL];omega))
     |(go_ret2;exact HD.o trivial)
  .obtain rfl:k=L.length:=aQ;go_wp2_with fail
   go_ret2
   exact⟨L,rfl,a.o,Kp.refl _ _, .inr rfl⟩
end
end
section
open Go.RowKit Go.Lib Go.Shelf dL Fr Up Nt
structure Kv where
 c:Cf
 f:dU
 t:List En
 b:List Nt
 v:List Vc
 s:Sd
 n:Nat
 p:Nat×Nat
structure Ka where
 gf:Nat
 gt:Nat
 gc:Nat
 gi:Nat
 gr:Nat
 gb:Nat
 gs:Nat
 gw:Nat
 al:List Int
 bd:List Int
 iq:Nat
 ln:List Ln
def pA(g:Nat):aC:= .pointer g
def kL(a:Ka):List aC:= [pA a.gf,pA a.gt,pA a.gc,pA a.gi,pA a.gr,pA a.gb,pA a.gs, .int .i64 6, .int .i64 2, .int .i64 4,pA a.gw]++(a.al.map (Value.int .i64)++a.bd.map (Value.int .i64))
def T5(g:Nat)(s:dU):Pt:=⟨λF w=>DM F w g s,DM.cH g s⟩
def Lp(g:Nat)(L:List En):Pt:=⟨λF w=>jO F w g L,jO.cH g L⟩
def UP(g:Nat)(C:Cf):Pt:=⟨λF w=>eQ F w g C,eQ.cH g C⟩
theorem Ir.cH(g q:Nat)(L:List Ln):dV (λF w=>Ir F w g q L):=λ_ _ _ _ _ h k c fl hH=>
 h.kp k (c g h.b.lt h.fg) (c q (h.o.lt q rfl).2 h.fq) fl (hH g h.b.lt h.fg) (hH q (h.o.lt q rfl).2 h.fq)
def Z9(g q:Nat)(L:List Ln):Pt:=⟨λF w=>Ir F w g q L,Ir.cH g q L⟩
def Ks(g:Nat):Pt:=⟨λF w=>u7 F w g,u7.cH g⟩
def UB(g:Nat)(L:List Nt)(VS:List Vc):Pt:=⟨λF w=>vK F w g L VS,vK.cH g L VS⟩
def Da(g:Nat)(s:Sd):Pt:=⟨λF w=>lP F w g s,lP.cH g s⟩
def RP(g n:Nat):Pt:=⟨λF w=>CF F w g n,CF.cH g n⟩
def Le(g:Nat)(a:Ka)(k:Kv):List Pt:= [PB g 64 (kL a).toArray,T5 a.gf k.f,Lp a.gt k.t,UP a.gc k.c,Z9 a.gi a.iq a.ln,Ks a.gr,UB a.gb k.b k.v,Da a.gs k.s,RP a.gw k.n]
structure bT(F:Nat->Prop)(w:aA)(g:Nat)(a:Ka)(k:Kv):Prop where
 o:Ob (Le g a k) F w
 al:a.al.length=8
 bd:a.bd.length=8
 ln:a.ln.length=2
 pp:k.p=(a.gt,a.gf)
def KM(F:Nat->Prop)(w:aA)(g:Nat)(k:Kv):Prop:=∃a,bT F w g a k
theorem bT.cH(g:Nat)(a:Ka)(k:Kv):dV (λF w=>bT F w g a k):=λF G H w w' h x b fl hH=>⟨Ob.cH _ F G H w w' h.o x b fl hH,h.al,h.bd,h.ln,h.pp⟩
variable{i:Nat}
section
variable{F:Nat->Prop}{w w':aA}{g:Nat}{a:Ka}{k:Kv}
theorem bT.fl(h:bT F w g a k):Ol F w:=h.o.fl
theorem bT.below(h:bT F w g a k)(hb:aD w w w'):bT F w' g a k/\Kp F w w':=⟨⟨h.o.below hb,h.al,h.bd,h.ln,h.pp⟩,h.o.NV hb⟩
theorem bT.bk(h:bT F w g a k):bE w g 64 (kL a).toArray:=by
 obtain⟨c,h1⟩:=h.o;exact(h1.get 0 (p:=PB g 64 (kL a).toArray) rfl).b
theorem bT.pf(h:bT F w g a k):w.cell? (g,0)=some (pA a.gf):=h.bk.cell 0 _ rfl
theorem bT.pt(h:bT F w g a k):w.cell? (g,1)=some (pA a.gt):=h.bk.cell 1 _ rfl
theorem bT.pc(h:bT F w g a k):w.cell? (g,2)=some (pA a.gc):=h.bk.cell 2 _ rfl
theorem bT.pi(h:bT F w g a k):w.cell? (g,3)=some (pA a.gi):=h.bk.cell 3 _ rfl
theorem bT.pr(h:bT F w g a k):w.cell? (g,4)=some (pA a.gr):=h.bk.cell 4 _ rfl
theorem bT.pb(h:bT F w g a k):w.cell? (g,5)=some (pA a.gb):=h.bk.cell 5 _ rfl
theorem bT.ps(h:bT F w g a k):w.cell? (g,6)=some (pA a.gs):=h.bk.cell 6 _ rfl
theorem bT.pw(h:bT F w g a k):w.cell? (g,10)=some (pA a.gw):=h.bk.cell 10 _ rfl
theorem bT.MA(h:bT F w g a k):w.cell? (g,7)=some (.int .i64 6)/\w.cell? (g,8)=some (.int .i64 2)/\w.cell? (g,9)=some (.int .i64 4):=⟨h.bk.cell 7 _ rfl,h.bk.cell 8 _ rfl,h.bk.cell 9 _ rfl⟩
theorem bT.fz(h:bT F w g a k)(i:Nat):w.frozen? (g,i)=false:=h.bk.frozen i
theorem bT.p7(h:bT F w g a k)(hi:i<8):∃v:Int,w.cell? (g,11+i)=some (.int .i64 v):=by
 have hl:=h.al;refine⟨a.al[i]'(by omega),h.bk.cell (11+i) _ ?_⟩;rw[ab5,kL,abZ aT,acA bX];simp[show 11+i - 11=i by omega,hl,hi]
theorem bT.Bu(h:bT F w g a k)(hi:i<8):∃v:Int,w.cell? (g,19+i)=some (.int .i64 v)/\a.bd.getD i 0=v:=by
 have hl:=h.al;have hm:=h.bd;refine⟨a.bd[i]'(by omega),h.bk.cell (19+i) _ ?_,by simp[hm,hi]⟩;rw[ab5,kL,abZ bX,abZ bX];simp[hl,hm,hi,show 19+i - 11 - 8=i by omega]
theorem bT.bound(h:bT F w g a k)(hi:i<8):∃v:Int,w.cell? (g,19+i)=some (.int .i64 v):=by
 obtain⟨v,h1,_⟩:=h.Bu hi;exact⟨v,h1⟩
theorem bT.store(h:bT F w g a k)(i:Nat)(hi:11<=i/\i<27)(v:Int):(∃a',bT F (w.setCell (g,i) v) g a' k)/\Kp F w (w.setCell (g,i) v):=by
 obtain⟨G,b,back⟩:=h.o.use 0 _ rfl;have hl:=h.al;have hm:=h.bd;by_cases c:i<19
 .obtain⟨b1,b2⟩:=back (PB g 64 (kL {a with al:=a.al.set (i - 11) v}).toArray) _ (b.set i (.int .i64 v) (by
   rw[abN];congr 1
   unfold kL;rw[ab7 _ _ bX,adT _ _ bX,adP];simp)).1 (b.set i (.int .i64 v) rfl).2
  exact⟨⟨_,b1,by simp[hl],hm,h.ln,h.pp⟩,b2⟩
 .obtain⟨b1,b2⟩:=back (PB g 64 (kL {a with bd:=a.bd.set (i - 19) v}).toArray) _ (b.set i (.int .i64 v) (by
   rw[abN];congr 1
   unfold kL;rw[ab7 _ _ bX,ab7 _ _ bX,adP];simp[hl,show i - 11 - 8=i - 19 by omega])).1 (b.set i (.int .i64 v) rfl).2
  exact⟨⟨_,b1,hl,by simp[hm],h.ln,h.pp⟩,b2⟩
theorem bT.fr(h:bT F w g a k):∃G,DM G w a.gf k.f/\(∀(f:dU) (w':aA),DM G w' a.gf f->Kp G w w'->bT F w' g a {k with f:=f}/\Kp F w w'):=by
 obtain⟨G,c,back⟩:=h.o.use 1 _ rfl;exact⟨G,c,λf w' b k'=>⟨⟨(back (T5 a.gf f) w' b k').1,h.al,h.bd,h.ln,h.pp⟩,(back (T5 a.gf f) w' b k').2⟩⟩
theorem bT.tb(h:bT F w g a k):∃G,jO G w a.gt k.t/\(∀(t:List En) (w':aA),jO G w' a.gt t->Kp G w w'->bT F w' g a {k with t:=t}/\Kp F w w'):=by
 obtain⟨G,c,back⟩:=h.o.use 2 _ rfl;exact⟨G,c,λf w' b k'=>⟨⟨(back (Lp a.gt f) w' b k').1,h.al,h.bd,h.ln,h.pp⟩,(back (Lp a.gt f) w' b k').2⟩⟩
theorem bT.cp(h:bT F w g a k):∃G,eQ G w a.gc k.c/\(∀(c:Cf) (w':aA),eQ G w' a.gc c->Kp G w w'->bT F w' g a {k with c:=c}/\Kp F w w'):=by
 obtain⟨G,d,back⟩:=h.o.use 3 _ rfl;exact⟨G,d,λf w' b k'=>⟨⟨(back (UP a.gc f) w' b k').1,h.al,h.bd,h.ln,h.pp⟩,(back (UP a.gc f) w' b k').2⟩⟩
theorem bT.ir(h:bT F w g a k):∃G,Ir G w a.gi a.iq a.ln/\(∀(L:List Ln) (w':aA),L.length=a.ln.length->Ir G w' a.gi a.iq L->Kp G w w'->bT F w' g {a with ln:=L} k/\Kp F w w'):=by
 obtain⟨G,c,back⟩:=h.o.use 4 _ rfl;exact⟨G,c,λL w' d b k'=>⟨⟨(back (Z9 a.gi a.iq L) w' b k').1,h.al,h.bd,(by show L.length=2;rw[d];exact h.ln),h.pp⟩,(back (Z9 a.gi a.iq L) w' b k').2⟩⟩
theorem bT.rw(h:bT F w g a k):∃G,u7 G w a.gr/\(∀(w':aA),u7 G w' a.gr->Kp G w w'->bT F w' g a k/\Kp F w w'):=by
 obtain⟨G,c,back⟩:=h.o.use 5 _ rfl;exact⟨G,c,λw' b k'=>⟨⟨(back (Ks a.gr) w' b k').1,h.al,h.bd,h.ln,h.pp⟩,(back (Ks a.gr) w' b k').2⟩⟩
theorem bT.bo(h:bT F w g a k):∃G,vK G w a.gb k.b k.v/\(∀(b:List Nt) (v:List Vc) (w':aA),vK G w' a.gb b v->Kp G w w'->bT F w' g a {k with b:=b,v:=v}/\Kp F w w'):=by
 obtain⟨G,d,back⟩:=h.o.use 6 _ rfl;exact⟨G,d,λb v w' c k'=>⟨⟨(back (UB a.gb b v) w' c k').1,h.al,h.bd,h.ln,h.pp⟩,(back (UB a.gb b v) w' c k').2⟩⟩
theorem bT.sd(h:bT F w g a k):∃G,lP G w a.gs k.s/\(∀(s:Sd) (w':aA),lP G w' a.gs s->Kp G w w'->bT F w' g a {k with s:=s}/\Kp F w w'):=by
 obtain⟨G,c,back⟩:=h.o.use 7 _ rfl;exact⟨G,c,λf w' b k'=>⟨⟨(back (Da a.gs f) w' b k').1,h.al,h.bd,h.ln,h.pp⟩,(back (Da a.gs f) w' b k').2⟩⟩
theorem bT.wh(h:bT F w g a k):∃G,CF G w a.gw k.n/\(∀(n:Nat) (w':aA),CF G w' a.gw n->Kp G w w'->bT F w' g a {k with n:=n}/\Kp F w w'):=by
 obtain⟨G,c,back⟩:=h.o.use 8 _ rfl;exact⟨G,c,λf w' b k'=>⟨⟨(back (RP a.gw f) w' b k').1,h.al,h.bd,h.ln,h.pp⟩,(back (RP a.gw f) w' b k').2⟩⟩
end
variable{k:Kv}{n m:Nat}
section
structure KI(k:Kv)(n:Nat):Prop where
 sd:gQ k.s
 p4:k.s.P.length=4
 cn:0<=k.c.n/\k.c.n<=n
 tl:k.t.length<=16
 tu:qC k.t
 bb:∀x∈k.b,(0<=x.cZ/\x.cZ<4)/\0<=x.dJ/\x.dJ<6
 bu:k.b.Pairwise λx y=>¬(x.cZ=y.cZ/\x.dJ=y.dJ)
 f6:k.f.n=6
 an:k.n<=n
theorem KI.mono(h:KI k n)(hm:n<=m):KI k m:=⟨h.sd,h.p4,⟨h.cn.1,by have:=h.cn.2;omega⟩,h.tl,h.tu,h.bb,h.bu,h.f6,abT h.an hm⟩
theorem KI.p8(h:KI k n):k.s.P.length<=8:=by have:=h.p4;omega
def oC(e:Int):Bool:=decide (0<=e/\e<4)
def dQ(k:Kv)(e:Int):Kv:=if oC e then {k with s:=jZ k.s e true} else k
def GB(t:List En)(e o:Int):List En:=t.filter λx=>!(decide (x.frame=o/\x.env=e))
def yK(t:List En)(p:cP):List En:=if p.h.kd=1 then GB t p.e p.h.ob else t
def iI(t:List En)(l:List cP):List En:=l.foldl yK t
def rO(o:Int)(p:cP):Option Int:=if p.h.kd=1/\p.h.ob=o then some p.s else none
def eV(k:Kv)(e o:Int):List Int:=(rS k.c e).filterMap (rO o)
def kY(k:Kv)(o:Int):Bool:=(List.range 8).any λe=>decide (0<(eV k (e:Nat) o).length)
def qP(L:List Nt)(o:Int):Nat->List Nt
 |0=>L
 |n+1=>qH (qP L o n) (n:Nat) o
def GF(k:Kv)(o:Int)(L:List cP):Kv:={k with c:=iA k.c (L.filter (nZ 1 o)),t:=iI k.t (L.filter (nZ 1 o)),b:=qP k.b o 8,f:=uJ k.f o}
def kD(k:Kv)(o:Int)(k':Kv):Prop:=∃L,L.Perm (lE k.c)/\k'=GF k o L
def gY(k:Kv)(num:Int)(self:Bool)(L:List cP):Kv:={k with c:=iA k.c (dC num self L).2,t:=iI k.t (dC num self L).2}
def xY(k:Kv)(L:List cP):Prop:=L.Perm (lE k.c)/\L.Pairwise λx y=>x.h.nu<=y.h.nu
inductive gC:List cP->Kv->Kv->Prop
 |nil (k:Kv):gC [] k k
 |skip {p:cP} {l:List cP} {k k':Kv} (h:¬(p.h.kd=1/\kY k p.h.ob=false/\dM k.f p.h.ob=true)) (r:gC l k k'):gC (p::l) k k'
 |fY {p:cP} {l:List cP} {k k1 k':Kv} (h:p.h.kd=1/\kY k p.h.ob=false/\dM k.f p.h.ob=true) (r1:kD k p.h.ob k1) (r:gC l k1 k'):gC (p::l) k k'
inductive jA (e:Int):List Int->Kv->Kv->Prop
 |nil (k:Kv):jA e [] k k
 |no {s:Int} {l:List Int} {k k':Kv} (h:eX k.c e s=none) (r:jA e l k k'):jA e (s::l) k k'
 |drop {s:Int} {l:List Int} {k k':Kv} {i:Nat} (h:eX k.c e s=some i) (L:List cP) (hL:xY k L) (r:jA e l (gY k (bG k.c i).nu true L) k'):jA e (s::l) k k'
inductive nJ (e o:Int) (k k':Kv):Prop
 |no (h:eV k e o= []) (h':k'=k)
 |keep (h:eV k e o≠[]) (r:jA e (eV k e o) k k') (h2:kY k' o=true)
 |fY (h:eV k e o≠[]) {k1:Kv} (r:jA e (eV k e o) k k1) (h2:kY k1 o=false) (r2:kD k1 o k')
def dY(k:Kv)(l:List Int):Kv:=l.foldl dQ k
inductive kB:List Nt->Kv->Kv->Prop
 |nil (k:Kv):kB [] k k
 |cons {x:Nt} {l:List Nt} {k k1 k':Kv} (r1:nJ x.cZ x.dJ k k1) (r:kB l (dQ k1 x.cZ) k'):kB (x::l) k k'
def kQ(k k':Kv):Prop:=∃(l1 l2:List Int) (T:List Nt) (k2:Kv),T.Perm (jT 0 (k.b.filter λx=>decide (x.dD<=k.s.nw)))/\
 kB T {dY k l1 with b:=k.b.filter λx=>decide (k.s.nw<x.dD),v:=T.foldl jI k.v} k2/\k'=dY k2 l2
def gZ(k:Kv)(e o gr:Int):Int×Kv:=
 if !(oC e)\/o<0\/6<=o then(1,k) else if eV k e o= [] then(23,k) else
 if(gU k.b e o k.s.nw gr).1≠0 then((gU k.b e o k.s.nw gr).1,k) else(0,dQ {k with b:=(gU k.b e o k.s.nw gr).2} e)
def lJ(k:Kv)(e s:Int):Int×Int×Kv:=
 if 16<=s then(0,1,k) else if(mH k.c e s).isSome then(0,7,k) else match jH k.f with
 |none=>(0,20,{k with f:=fV k.f})
 |some i=>if(dB k.c e s 1 i 15 0).1≠0 then(0,(dB k.c e s 1 i 15 0).1,{k with f:=fV k.f,c:=(dB k.c e s 1 i 15 0).2}) else(i,0,{k with f:=fV k.f,c:=(dB k.c e s 1 i 15 0).2})
def rM(k:Kv)(e s E:Int)(k':Kv):Prop:=match jK k.c e s 1 8 with
 |none=>E=23/\k'=k
 |some h=>E=0/\kD k h.ob k'
def C8(k:Kv)(e s at_:Int):Int×Int:=match jK k.c e s 1 1 with
 |none=>(0,23)
 |some h=>(if fQ k.f h.ob at_≠0 then 0 else IntKind.u64.wrap (rR k.f h.ob at_),fQ k.f h.ob at_)
def oD(k:Kv)(e s at_ v:Int):Int×Kv:=match jK k.c e s 1 2 with
 |none=>(23,k)
 |some h=>if 255<v then(1,k) else(fQ k.f h.ob at_,{k with f:=iV k.f h.ob at_ (v%256)})
def mP(k:Kv)(e s pg wr:Int):Int×Kv:=if 1<wr then(1,k) else match jK k.c e s 1 (if wr=1 then 3 else 1) with
 |none=>(23,k)
 |some h=>(if lI ⟨e,pg,h.ob,decide (wr=1)⟩ then 0 else 1,{k with t:=x8 k.t ⟨e,pg,h.ob,decide (wr=1)⟩})
def PI(t:List En)(e pg:Int):List En:=t.filter λx=>!(decide (x.env=e/\x.dA=pg))
def wP(k:Kv)(e s E:Int)(k':Kv):Prop:=match eX k.c e s with
 |none=>E=23/\k'=k
 |some i=>E=0/\∃L,xY k L/\gC (dC (bG k.c i).nu true L).2 (gY k (bG k.c i).nu true L) k'
def pW(k:Kv)(e s E:Int)(k':Kv):Prop:=match r8 k.c e s with
 |none=>E=23/\k'=k
 |some i=>E=0/\∃L,xY k L/\k'=gY k (bG k.c i).nu false L
def gT(k:Kv)(e op A B C D E:Int)(k':Kv):Prop:=
 if op=7 then(E,k')=((gV k.c e A e B C 0).1,{k with c:=(gV k.c e A e B C 0).2})
 else if op=8 then(if oC B then(E,k')=((gV k.c e A B C D 4).1,{k with c:=(gV k.c e A B C D 4).2}) else E=1/\k'=k)
 else if op=9 then pW k e A E k' else wP k e A E k'
def mQ(k:Kv)(e op C D E:Int)(k':Kv):Prop:=
 if op=15 then E=zH k.s e C D/\k'={k with s:=qK k.s e C D}
 else if op=16 then E=zN k.s e/\k'={k with s:=sD k.s e}
 else k'=k\/k'={k with s:=jZ k.s e false}
inductive lH (k:Kv) (e op A B C D:Int):Int->Int->Kv->Prop
 |alloc (h:op=1):lH k e op A B C D (lJ k e A).1 (lJ k e A).2.1 (lJ k e A).2.2
 |free (h:op=2) {E:Int} {k':Kv} (r:rM k e A E k'):lH k e op A B C D 0 E k'
 |read (h:op=3):lH k e op A B C D (C8 k e A B).1 (C8 k e A B).2 k
 |write (h:op=4):lH k e op A B C D 0 (oD k e A B C).1 (oD k e A B C).2
 |load (h:op=5):lH k e op A B C D 0 (mP k e A B C).1 (mP k e A B C).2
 |zG (h:op=6) {E:Int}:lH k e op A B C D 0 E {k with t:=PI k.t e A}
 |hand (h:7<=op/\op<=10) {E:Int} {k':Kv} (r:gT k e op A B C D E k'):lH k e op A B C D 0 E k'
 |line (h:11<=op/\op<=13) {E:Int}:lH k e op A B C D 0 E k
 |p7 (h:op=14) {E:Int} {m:Nat} (hm:k.n<=m/\m<=k.n+1):lH k e op A B C D 0 E {k with n:=m}
 |time (h:op=15\/op=16\/op=19) {E:Int} {k':Kv} (r:mQ k e op C D E k'):lH k e op A B C D 0 E k'
 |send (h:op=17) {E:Int} {k':Kv} (r:k'=k\/∃o,k'=dQ k o):lH k e op A B C D 0 E k'
 |next (h:op=18) {N E:Int} (hN:0<=N/\N<18446744073709551616):lH k e op A B C D N E k
 |null (h:op=0):lH k e op A B C D 0 0 k
end
variable{F:Nat->Prop}{w:aA}{g:Nat}
section
theorem CH{a:Ka}(h:bT F w g a k)(e:Int):aG prog 103 #[.pointer g,e] w λr w'=>r= .returned (.bool (oC e))/\w=w':=by
 obtain⟨_,_,c9⟩:=h.MA;clear h;by_cases c:e<0
 .have b:aH (oC e=false):=by unfold aH oC;simp;omega
  go_enter func103,ntmps103
  go_wp2_with fail
  go_ret
  rw[b.o];exact⟨rfl,rfl⟩
 .have h1:0<=e:=aQ;clear c;by_cases d:e<4
  .have b:aH (oC e=true):=by unfold aH oC;simp;omega
   go_enter func103,ntmps103
   go_wp2_with fail
   go_ret
   rw[b.o];exact⟨rfl,rfl⟩
  .have b:aH (oC e=false):=by unfold aH oC;simp;omega
   go_enter func103,ntmps103
   go_wp2_with fail
   go_ret
   rw[b.o];exact⟨rfl,rfl⟩
def FM(a:Ka)(i:Int):Int:=if 0<=i/\i<2 then a.bd.getD i.toNat 0 else -1
theorem CX{a:Ka}(h:bT F w g a k)(i:Int):aG prog 110 #[.pointer g,i] w λr w'=>r= .returned (.int .i64 (FM a i))/\w=w':=by
 obtain⟨_,c8,_⟩:=h.MA;by_cases c:i<0
 .have b:aH (FM a i= -1):=by unfold aH FM;rw[abQ aQ]
  clear h;go_enter func110,ntmps110
  go_wp2_with fail
  go_ret
  rw[b.o];exact⟨rfl,rfl⟩
 .by_cases d:2<=i
  .have b:aH (FM a i= -1):=by unfold aH FM;rw[abQ aQ]
   clear h;go_enter func110,ntmps110
   go_wp2_with fail
   go_ret
   rw[b.o];exact⟨rfl,rfl⟩
  .obtain⟨n,rfl⟩:=abR (show 0<=i by omega);obtain⟨v,e,hd⟩:=h.Bu (i:=n) aQ;have b:aH (FM a n=v):=by unfold aH FM;rw[abP aQ,abW];exact hd
   have n8:(n:Int)<8:=aQ;clear h hd;go_enter func110,ntmps110
   go_wp2_with fail
   go_ret
   rw[b.o];exact⟨rfl,rfl⟩
def gK(F:Nat->Prop)(g:Nat)(k:Kv)(v:aC)(w:aA)(e:aM)(w':aA):Prop:=e= .returned v/\KM F w' g k/\Kp F w w'
theorem NC{a:Ka}(h:bT F w g a k)(i v:Int):aG prog 194 #[.pointer g,i,v] w (gK F g k (.tuple #[]) w):=by
 obtain⟨_,c8,_⟩:=h.MA;by_cases b:0<=i/\i<2
 .obtain⟨n,rfl⟩:=abR b.1;have n8:(n:Int)<2:=b.2;obtain⟨u,hu⟩:=h.bound (i:=n) aQ;have f0:=h.fz (19+n);have c:aH (gK F g k (.tuple #[]) w (.returned (.tuple #[])) (w.setCell (g,19+n) v)):=⟨rfl,(h.store (19+n) aQ v).1,(h.store (19+n) aQ v).2⟩
  clear h b;go_enter func194,ntmps194
  go_wp2_with fail
  go_end0
  exact c.o
 .have c:aH (gK F g k (.tuple #[]) w (.returned (.tuple #[])) w):=⟨rfl,⟨a,h⟩,Kp.refl _ _⟩
  clear h;by_cases h1:i<0
  .go_enter func194,ntmps194
   go_wp2_with fail
   go_end0
   exact c.o
  .have d:0<=i:=aQ;have e:¬i<2:=aQ;clear b h1;go_enter func194,ntmps194
   go_wp2_with fail
   go_end0
   exact c.o
theorem tU{a:Ka}(h:bT F w g a k)(W:k.s.P.length<=8)(e kd x b:Int)(hk:1<=kd/\kd<=8):
 aG prog 83 #[.pointer g,e, .agg #[kd,x, .int .u64 b]] w λr w'=>∃v:Int,r= .returned (.int .i64 v)/\bT F w' g a (dQ k e)/\Kp F w w':=by
 have fl:=h.fl;have h1:=(bT.cH g a k).box h fl (aI #[kd,x, .int .u64 b] 248);have z:=fl.below (aX w (aI #[kd,x, .int .u64 b] 248));have C:=bE.new w 248 #[kd,x, .int .u64 b];have A:=aP (CH h1 e);have H1:=bP h1 z;have D:=aP (λ(w':aA) (k':Kv) (I:bT (Fb F w) w' g a k')=>dV.less (bT.cH g a k') I (λb hb=>I.fl b (.inl hb)));by_cases he:0<=e/\e<4
 .have E:aH (dQ k e={k with s:=jZ k.s e true}):=by unfold aH dQ oC;rw[abP (by simpa using he)]
  have m:aH (oC e=true):=by unfold aH oC;simpa using he
  rw[m.o] at A;clear h h1 z fl;go_enter func83,ntmps83
  go_upto_region 1 with(fail)
  generalize w.alloc (aI #[kd,x, .int .u64 b] 248)=w1 at *;generalize w.heap.size=q1 at *;go_wp2_with fail
  refine aR A ?_;rintro r J ⟨rfl,rfl⟩;obtain⟨G,hs,back⟩:=H1.o.1.sd;have ps:=H1.o.1.ps;have L:=aP (xD hs W e true);have n:=aP back;clear hs back;unfold pA at ps;go_wp2_with fail
  refine aR L ?_;rintro r J ⟨rfl,p,q⟩;obtain⟨M,H⟩:=n.o _ _ p q;have B:=bP M (H1.o.2.trans H.unbox);have c:=H.aY C (.inr rfl);clear M H p q n L C H1;have pr:=B.o.1.pr;unfold pA at pr;have X:=c.cell 0 kd rfl;have Y:=c.cell 1 x rfl;have Z:=c.cell 2 (.int .u64 b) rfl;go_upto_region 6 with(fail)
  have f:=bD pr;have i:=bD X;have j:=bD Y;have l:=bD Z;refine bM (bQ _) (λ_=>bQ) [] (λ_ _ _=>True) [6,7] [] 26 (bZ _) (λ_ _ _ h N=>bV h N) (λ_ d hd _ v w w' _ h N=>by cases hd) aV aV bF ?_;repeat refine eK ?_
  refine dI ?_;intro γ w5 hb5 hT;clear f i j l;simp only[cY,Act.put,abN,abU,abS];refine dS ?_;obtain⟨O,Q⟩:=B.o.1.below hb5;obtain⟨G,R,back⟩:=O.rw;have S:=aP (OV R e aQ kd x b hk);have n:=aP back;have T:=aP (B.o.2.trans Q.unbox);clear R back O Q hb5 hT B c;refine wpList_plain rfl (λK hK=>?_);go_wp2_with fail
  refine aR S ?_;rintro r w6 ⟨v,rfl,t,u⟩;obtain⟨U,V⟩:=n.o _ t u;have y:=bP (D.o _ _ U) (T.o.trans V.unbox);clear U V t u n S T;refine hK _ _ ?_;clear hK K;refine wpList_plain rfl (λK hK=>?_);go_simp
  refine hK _ _ ?_;clear hK K;refine cN ?_;try refine dE ?_
  go_wp2_with fail
  go_ret
  rw[E.o];exact⟨v,rfl,y.o.1,y.o.2⟩
 .have E:aH (dQ k e=k):=by unfold aH dQ oC;rw[abQ (by simpa using he)]
  have m:aH (oC e=false):=by unfold aH oC;simpa using he
  rw[m.o] at A;have y:=bP (D.o _ _ h1) z;clear h h1 z fl C H1 D;go_enter func83,ntmps83
  go_upto_region 1 with(fail)
  generalize w.alloc (aI #[kd,x, .int .u64 b] 248)=w1 at *;go_wp2_with fail
  refine aR A ?_;rintro r J ⟨rfl,rfl⟩;go_wp2_with fail
  go_ret
  rw[E.o];exact⟨1,rfl,y.o.1,y.o.2⟩
end
section
def Lh(L:List Int)(w:aA)(e:aM)(w':aA):Prop:=∃A c,e= .returned (.slice A L.length c)/\bI eI 1 w' w.heap.size 3 A c L/\aD w w w'
theorem WE(o:Int)(L:List cP)(p:cP):(L++ [p]).filterMap (rO o)=L.filterMap (rO o)++(if p.h.kd=1/\p.h.ob=o then [p.s] else []):=by
 rw[adX];congr 1
 simp only[af5,List.filterMap_nil,rO];split
 .rename_i h;split at h
  .cases h
  .rename_i a;rw[abQ a]
 .rename_i h;split at h
  .rename_i a;injection h with h;rw[abP a,h]
  .cases h
theorem CV{a:Ka}(h:bT F w g a k)(e o:Int):aG prog 104 #[.pointer g,e,o] w (Lh (eV k e o) w):=by
 obtain⟨G,hc,_⟩:=h.cp;have Y:=aP (CY hc e);have Q:=EC k.c e;have pc:=h.pc;unfold eV;generalize rS k.c e=L at *;generalize a.gc=gc at *;clear h hc;unfold pA at pc;go_enter func104,ntmps104
 go_wp2_with fail
 refine aR Y ?_;rintro x K ⟨A,c,rfl,own,D⟩;obtain⟨n,M⟩:∃n,n=L.length:=⟨_,rfl⟩
 have C:=dH M own D;rw[<-M];rw[<-M] at Q;clear M own D pc Y;go_wp2_with fail
 go_loopw [7,17] (λv7 v17 wr=>∃(i m:Nat) (u:Option aJ) (c2:Nat) (R:List Int),v17= .int .i64 i/\v7= .slice u m c2/\i<=n/\m<=i/\aH (m=R.length/\R=(L.take i).filterMap (rO o)/\bI eI 1 wr K.heap.size 3 u c2 R/\aD K K wr)) (λ_ v17 _=>n - (aL v17).toNat)
 case atStart=>exact⟨0,0,none,0, [],rfl,rfl,abX _,abM _,rfl,rfl,bI.nil _ _ _,Below.refl _ _⟩
 case round=>
  obtain⟨i,m,u,c2,R,rfl,rfl,hi,hm,l⟩:=hrel;by_cases S:i<n
  .have b:i<L.length:=by rw[<-C.o.1];exact S
   have z:=C.o.2.1.keep l.o.2.2.2;obtain⟨q,rfl⟩:∃q,A=some ⟨q,0,none⟩:=by
    rcases z.shape with⟨_,T,_⟩|T
    .rw[T] at b;simp at b
    .exact T
   have Z:=bN fX z b (j:=0) (v:= .int .i64 L[i].e) rfl;have e1:=bN fX z b (j:=1) (v:= .int .i64 L[i].s) rfl;have e2:=bN fX z b (j:=2) (v:= .int .i64 L[i].h.kd) rfl;have e3:=bN fX z b (j:=3) (v:= .int .i64 L[i].h.ob) rfl;have e4:=bN fX z b (j:=4) (v:= .int .i64 L[i].h.rt) rfl;rw[acC] at Z;have k0:(0:Int)<=i:=aQ;have k1:(i:Int)<(n:Int):=aQ;clear z;have E:L.take (i+1)=L.take i++ [L[i]]:=by rw[acV,abL b];rfl
   have f:aH ((L.take (i+1)).filterMap (rO o)=R++(if L[i].h.kd=1/\L[i].h.ob=o then [L[i].s] else [])):=by unfold aH;rw[E,WE,<-l.o.2.1]
   clear E;generalize L[i]=y at *;obtain⟨N,p,r,B,O,y6,y7⟩:=y;simp only at Z e1 e2 e3 e4 f;have HB:=l.o.2.2.2.alloc l.o.2.2.2.size (aI #[N,p,r,B,O] 156);have HW:=l.o.2.2.1.alloc (aI #[N,p,r,B,O] 156);have d:=bP HB HW;clear HB HW;by_cases hc:r=1
   .by_cases hd:B=o
    .have H:aH ((L.take (i+1)).filterMap (rO o)=R++ [p]):=by unfold aH;rw[f.o,abP ⟨hc,hd⟩]
     clear f;have I:(r==1)=true:=by simp[hc]
     have U:(B==o)=true:=by simp[hd]
     clear hc hd;have V:aH (K.heap.size<=(wr.alloc (aI #[N,p,r,B,O] 156)).heap.size):=d.o.1.size;go_wp2_with(at_builtin;refine bS _ rfl _ _ rfl Cs gJ (d.o.2.alloc _) (n:=m) l.o.1.symm rfl (m:=1) rfl (ys:= [p]) rfl (Sl.fL gJ (wr.alloc (aI #[N,p,r,B,O] 156)) p _ rfl _ aT) dN aQ (abT V.o aT) _ rfl (m+1) rfl ?_;intro A9 c9 w9 t J W;(have P:=aP (And.intro t (LM (d.o.1.alloc d.o.1.size _) J (λq hq=>(l.o.2.2.1.lt q hq).1))));clear t J W)
     go_roundw
     case rel=>exact⟨i+1,m+1,A9,c9,R++ [p],by go_num,rfl,aQ,aQ,by rw[ab2,<-l.o.1];rfl,H.o.symm,P.o.1,P.o.2⟩
     case measure=>simp[aL];omega
    .have H:aH ((L.take (i+1)).filterMap (rO o)=R):=by unfold aH;rw[f.o,abQ (λh=>hd h.2),aeF]
     clear f;have I:(r==1)=true:=by simp[hc]
     have U:(B==o)=false:=by simp[hd]
     clear hc hd;go_wp2_with fail
     go_roundw
     case rel=>exact⟨i+1,m,u,c2,R,by go_num,rfl,aQ,aQ,l.o.1,H.o.symm,d.o.2,d.o.1⟩
     case measure=>simp[aL];omega
   .have H:aH ((L.take (i+1)).filterMap (rO o)=R):=by unfold aH;rw[f.o,abQ (λh=>hc h.1),aeF]
    clear f;have I:(r==1)=false:=by simp[hc]
    clear hc;go_wp2_with fail
    go_roundw
    case rel=>exact⟨i+1,m,u,c2,R,by go_num,rfl,aQ,aQ,l.o.1,H.o.symm,d.o.2,d.o.1⟩
    case measure=>simp[aL];omega
  .obtain rfl:i=n:=aQ;have k1:¬(i:Int)<(i:Int):=aQ;have X:R=L.filterMap (rO o):=by rw[l.o.2.1,ab8 (by rw[<-C.o.1];exact abM _)]
   have P:aH (Lh (L.filterMap (rO o)) w (.returned (.slice u m c2)) wr):=⟨u,c2,by rw[<-X,<-l.o.1],by rw[<-X];exact l.o.2.2.1.from_ C.o.2.2.size,C.o.2.2.trans (l.o.2.2.2.mono C.o.2.2.size)⟩
   clear X;go_wp2_with fail
   go_ret
   exact P.o
theorem Ua{o:Int}(hi:i<8)(h:0<(eV k (i:Nat) o).length):kY k o=true:=by
 unfold kY;rw[aeK];exact⟨i,ac4.2 hi,by simpa using h⟩
theorem To{o:Int}(h:∀i:Nat,i<8->¬0<(eV k (i:Nat) o).length):kY k o=false:=by
 unfold kY;rw[List.any_eq_false];intro i hi;have:=h i (ac4.1 hi);simpa using this
theorem QG{a:Ka}(h:bT F w g a k)(o:Int):aG prog 151 #[.pointer g,o] w λe w'=>e= .returned (.bool (kY k o))/\aD w w w':=by
 have u:=aP h;clear h;go_enter func151,ntmps151
 go_wp2_with fail
 go_loopw [6] (λv6 wr=>∃i:Nat,v6= .int .i64 i/\i<=8/\aH ((∀j:Nat,j<i->¬0<(eV k (j:Nat) o).length)/\aD w w wr)) (λv6 _=>8 - (aL v6).toNat)
 case atStart=>exact⟨0,rfl,aQ,λj l=>absurd l (adR _),Below.refl _ _⟩
 case round=>
  obtain⟨i,rfl,hi,b⟩:=hrel;by_cases m:i<8
  .have B:(i:Int)<8:=aQ;have r:=aP (CV (u.o.below b.o.2).1 (i:Nat) o);have v:aH (∀j:Nat,j<i+1->(∀j:Nat,j<i->¬0<(eV k (j:Nat) o).length)->¬0<(eV k (i:Nat) o).length->¬0<(eV k (j:Nat) o).length):=λj l h1 y=>by
    by_cases he:j=i
    .rw[he];exact y
    .exact h1 j aQ
   have z:aH (0<(eV k (i:Nat) o).length->kY k o=true):=Ua m;generalize eV k (i:Nat) o=L at *;go_wp2_with fail
   refine aR r ?_;rintro x C ⟨A,c,rfl,own,hb⟩;clear own;have s:=aP (b.o.2.trans (hb.mono b.o.2.size));clear hb r;obtain⟨n,p⟩:∃n,n=L.length:=⟨_,rfl⟩
   rw[<-p];have d:=aP p;clear p;by_cases t:0<n
   .have q:(0:Int)<(n:Int):=aQ;have f:aH (kY k o=true):=z.o (by rw[<-d.o];exact t);go_wp2_with fail
    go_ret
    rw[f.o];exact⟨rfl,s.o⟩
   .have q:¬(0:Int)<(n:Int):=aQ;have f:aH (¬0<L.length):=by unfold aH;rw[<-d.o];exact t
    go_wp2_with fail
    go_roundw
    case rel=>exact⟨i+1,by go_num,aQ,λj l=>v.o j l b.o.1 f.o,s.o⟩
    case measure=>simp[aL];omega
  .obtain rfl:i=8:=aQ;have f:aH (kY k o=false):=To b.o.1;go_wp2_with fail
   go_ret
   rw[f.o];exact⟨rfl,b.o.2⟩
end
end
section
open Go.RowKit Go.Lib Go.Shelf dL
variable{sz q:Nat}{w:aA}{P:Program}
section
theorem aaA:∀(cur:Array aC) (o:Nat) (a:List aC) (j:Nat),j<o->(lay cur o a)[j]?=cur[j]?
 |_,_, [],_,_=>rfl
 |cur,o,v::r,j,hj=>by
  rw[lay,aaA _ (o+1) r j aQ,Array.getElem?_setIfInBounds_ne aQ]
theorem Ep{α:Type}{enc:α->List aC}{base:Nat}{e:TypeId}{c:Nat}{R:List α}(h:bI enc sz w base e q c R){o:Nat}(ho:R.length *sz<=o)(a:List aC):
 bI enc sz (w.setCells q o a) base e q c R/\w.grownBy (w.setCells q o a) (some q):=by
 obtain⟨cur,h1,b,d,f,g,i⟩:=eZ h;refine⟨⟨h.1, .inr ⟨q,c,_,rfl,h1,iX q e a o w cur b,d,f,by rw[lay_size];exact g,?_⟩⟩,fF q _ _ w w (bL w q)⟩;rw[<-i];apply aeU;intro j;rw[acJ,acJ];split
 .rw[acE,acE];exact aaA cur o a j aQ
 .rfl
theorem M2(w:aA)(t e ty:TypeId)(z:aC)(f:P.underlying t=some (.slice e))(g:∀w,(zeroValue e).run P w= .ok z w)(n:Nat)(zs:List aC)(h:(Builtin.zeroCells z.cells (n+1)).toList=zs)(h1:∀u∈zs,u.oneCell'=true)(b o c:Nat)
 (hc:∀j,j<zs.length->(w.cell? ⟨b,o+j,none⟩).isSome=true/\w.frozen? ⟨b,o+j,none⟩=false):
 (Builtin.clear_ #[t] ty #[.slice (some ⟨b,o,none⟩) (n+1) c]).run P w= .ok (.tuple #[]) (w.setCells b o zs):=by
 have a:=run_storeCells_cells (P:=P) b o zs 0 w (λj d=>(hc j d).1) (λj d=>(hc j d).2) h1;simp only[acC] at a;simp[Builtin.clear_,run_underlying f,g,h,a]
theorem Cv(n:Nat):∀u∈(Builtin.zeroCells (Value.agg #[aU,aU,aU,false]).cells n).toList,u.oneCell'=true:=by
 intro u hu;simp only[Builtin.zeroCells,Array.toList_map,ad3] at hu;obtain⟨i,_,rfl⟩:=hu;have h:i%4=0\/i%4=1\/i%4=2\/i%4=3:=aQ;show(#[Value.int .i64 0,aU,aU,false][i%4]!).oneCell'=true;rcases h with h|h|h|h <;> rw[h] <;> rfl
theorem Z5(n:Nat):(Builtin.zeroCells (Value.agg #[aU,aU,aU,false]).cells n).toList.length=n *4:=by
 rw[aeO,size_zeroCells];rfl
structure SP(f:FuncId)(gz:En->Bool)(b1 b2:Nat)(v1 v2:aC):Prop where
 en:∀args w,(callFunc f args).run prog w= .ok (.enter f args) w
 run:∀(e:En) (w:aA),w.cell? (b1,0)=some v1->w.cell? (b2,0)=some v2->aG prog f #[.agg #[e.env,e.dA,e.frame,e.write], .pointer b1, .pointer b2] w λr w'=>r= .returned (.bool (gz e))/\aD w.heap.size w w'
namespace Df
def gz(a b:Int)(x:En):Bool:=decide (x.frame=b/\x.env=a)
theorem tM(a b:Int)(e:En)(b1 b2:Nat)(w:aA)(ha:0<=a)(c1:w.cell? (b1,0)=some (.int .i64 b))(c2:w.cell? (b2,0)=some (.int .i64 a)):
 aG prog 237 #[.agg #[e.env,e.dA,e.frame,e.write], .pointer b1, .pointer b2] w λr w'=>r= .returned (.bool (gz a b e))/\aD w w w':=by
 have h:=aX w (aI #[e.env,e.dA,e.frame,e.write] 396);have j:=aP h;replace c1:=bK h c1;replace c2:=bK h c2;clear h;obtain⟨r0,c⟩:∃r,gz a b e=r:=⟨_,rfl⟩
 rw[c];have k:=aP c;clear c;obtain⟨l,n,i,p⟩:=e;have a0:¬a<0:=aQ;by_cases h1:i=b
 .by_cases d:l=a
  .have f:aH (r0=true):=by unfold aH;rw[<-k.o];simp[gz,h1,d]
   have g:(i==b)=true:=by simp[h1]
   have m:(l==a)=true:=by simp[d]
   clear h1 d;go_enter func237,ntmps237
   go_wp2_with fail
   go_ret
   rw[f.o];exact⟨rfl,j.o⟩
  .have f:aH (r0=false):=by unfold aH;rw[<-k.o];simp[gz,h1,d]
   have g:(i==b)=true:=by simp[h1]
   have m:(l==a)=false:=by simp[d]
   clear h1 d;go_enter func237,ntmps237
   go_wp2_with fail
   go_ret
   rw[f.o];exact⟨rfl,j.o⟩
 .have f:aH (r0=false):=by unfold aH;rw[<-k.o];simp[gz,h1]
  have g:(i==b)=false:=by simp[h1]
  clear h1;go_enter func237,ntmps237
  go_wp2_with fail
  go_ret
  rw[f.o];exact⟨rfl,j.o⟩
theorem Vg(a b:Int)(ha:0<=a)(b1 b2:Nat):SP 237 (gz a b) b1 b2 (.int .i64 b) (.int .i64 a):=⟨enters_of func237 aV rfl,λe w=>tM a b e b1 b2 w ha⟩
end Df
namespace Dr
def gz(a b:Int)(x:En):Bool:=decide (x.env=a/\x.dA=b)
theorem tM(a b:Int)(e:En)(b1 b2:Nat)(w:aA)(c1:w.cell? (b1,0)=some (.int .i64 a))(c2:w.cell? (b2,0)=some (.int .i64 b)):
 aG prog 212 #[.agg #[e.env,e.dA,e.frame,e.write], .pointer b1, .pointer b2] w λr w'=>r= .returned (.bool (gz a b e))/\aD w w w':=by
 have h:=aX w (aI #[e.env,e.dA,e.frame,e.write] 396);have j:=aP h;replace c1:=bK h c1;replace c2:=bK h c2;clear h;obtain⟨r0,c⟩:∃r,gz a b e=r:=⟨_,rfl⟩
 rw[c];have k:=aP c;clear c;obtain⟨i,l,n,p⟩:=e;skip
 by_cases h1:i=a
 .by_cases d:l=b
  .have f:aH (r0=true):=by unfold aH;rw[<-k.o];simp[gz,h1,d]
   have g:(i==a)=true:=by simp[h1]
   have m:(l==b)=true:=by simp[d]
   clear h1 d;go_enter func212,ntmps212
   go_wp2_with fail
   go_ret
   rw[f.o];exact⟨rfl,j.o⟩
  .have f:aH (r0=false):=by unfold aH;rw[<-k.o];simp[gz,h1,d]
   have g:(i==a)=true:=by simp[h1]
   have m:(l==b)=false:=by simp[d]
   clear h1 d;go_enter func212,ntmps212
   go_wp2_with fail
   go_ret
   rw[f.o];exact⟨rfl,j.o⟩
 .have f:aH (r0=false):=by unfold aH;rw[<-k.o];simp[gz,h1]
  have g:(i==a)=false:=by simp[h1]
  clear h1;go_enter func212,ntmps212
  go_wp2_with fail
  go_ret
  rw[f.o];exact⟨rfl,j.o⟩
theorem Vg(a b:Int)(b1 b2:Nat):SP 212 (gz a b) b1 b2 (.int .i64 a) (.int .i64 b):=⟨enters_of func212 aV rfl,λe w=>tM a b e b1 b2 w⟩
end Dr
namespace Df
def BO(gz:En->Bool)(L:List En):Int:=match L.findIdx? (gz) with
 |some i=>(i:Int)
 |none=> -1
variable{L:List En}
theorem CP{gz:En->Bool}{k:Nat}(hk:k<L.length)(h:gz L[k]=true)(b:∀j,(a:j<k)->gz L[j]=false):BO gz L=k:=by
 unfold BO;rw[ab9.2 ⟨hk,h,λj a=>by rw[b j a];simp⟩]
theorem zA{gz:En->Bool}(h:∀j,(a:j<L.length)->gz L[j]=false):BO gz L= -1:=by
 unfold BO;rw[ac0.2 (λx b=>by obtain⟨j,a,rfl⟩:=acF b;exact h j a)]
variable{f:FuncId}{v1 v2:aC}{b1 b2:Nat}
theorem uB{gz:En->Bool}(K:SP f gz b1 b2 v1 v2)(w:aA)(A:Option aJ)(L:List En)(c:Nat)(hs:Sl eE 4 w A L)(hl:L.length<=1000)(c1:w.cell? (b1,0)=some v1)(c2:w.cell? (b2,0)=some v2):
 aG prog 274 #[(A,L.length,c), .func (.func f) #[] #[.pointer b1, .pointer b2]] w λe w'=>e= .returned (.int .i64 (BO gz L))/\aD w w w':=by
 have s:=K.en;go_enter func274,ntmps274
 go_wp2
 go_loopw [5,8] (λ_ p wr=>∃k:Nat,k<=L.length/\p= .int .i64 k/\aD w w wr/\aH (∀j,(a:j<L.length)->j<k->gz L[j]=false)) (λ_ i _=>L.length - (aL i).toNat)
 case atStart=>exact⟨0,abX _,rfl,Below.refl _ w,λj a h=>absurd h (adR _)⟩
 case round=>
  obtain⟨k,hk,rfl,d,l⟩:=hrel;by_cases g:k<L.length
  .obtain⟨b,off,rfl,t,u,v,x⟩:=(hs.keep d).X4 g;have z:(0:Int)<=k:=aQ;have B:(k:Int)<(L.length:Int):=aQ;have hc:=K.run L[k] wr (bK d c1) (bK d c2);have HQ:aH (gz L[k]=true->BO gz L=k):=λh=>CP g h (λj a=>l.o j aQ a)
   have q:aH (gz L[k]=false->∀j,(a:j<L.length)->j<k+1->gz L[j]=false):=λh j a r=>by
    by_cases he:j=k
    .subst he;exact h
    .exact l.o j a aQ
   clear l;generalize L[k]=y at *;cases hq:gz y with
   |true=>
    rw[hq] at hc;have m:=aP (HQ.o hq);go_wp2_with(go_at_fn (f);(with_reducible refine hc.mono ?_);rintro e w' ⟨rfl,hb⟩)
    go_ret
    exact⟨lT m.o.symm,fO d (abM _) hb⟩
   |false=>
    rw[hq] at hc;have n:=aP (q.o hq);go_wp2_with(go_at_fn (f);(with_reducible refine hc.mono ?_);rintro e w' ⟨rfl,hb⟩)
    go_roundw
    case rel=>exact⟨k+1,aQ,by go_num,fO d (abM _) hb,n.o⟩
    case measure=>simp[aL];omega
  .obtain rfl:k=L.length:=aQ;go_wp2
   go_ret
   exact⟨lT (zA (λj a=>l.o j a a)).symm,d⟩
def st(gz:En->Bool)(L:List En):List En:=L.filter λx=>!(gz x)
theorem Qg{gz:En->Bool}(h:L.findIdx? (gz)=none):st gz L=L:=by
 rw[ac0] at h;exact List.filter_eq_self.2 λx a=>by rw[h x a];rfl
variable{i:Nat}
theorem Ma{gz:En->Bool}(h:L.findIdx? (gz)=some i):st gz (L.take (i+1))=L.take i:=by
 obtain⟨hi,h1,a⟩:=ab9.1 h;unfold st;rw[acV,abL hi,ad8];have b:(L.take i).filter (λx=>!(gz x))=L.take i:=List.filter_eq_self.2 λx c=>by
  obtain⟨j,d,rfl⟩:=acF c;rw[acQ] at d;rw[afV];have:=a j aQ;simpa using this
 rw[b];simp[h1]
variable{j:Nat}
theorem UX{gz:En->Bool}(a:j<L.length):st gz (L.take (j+1))=st gz (L.take j)++(if gz L[j] then [] else [L[j]]):=by
 unfold st;rw[acV,abL a,ad8];cases h:gz L[j] <;> simp[h]
structure DL(gz:En->Bool)(L:List En)(w wr:aA)(base q c i j:Nat)(R:List En):Prop where
 len:R.length=L.length
 tk:R.take i=st gz (L.take j)
 dr:R.drop j=L.drop j
 o:bI eE 4 wr base 396 q c R
 g:w.grownBy wr (some q)
 il:i<j/\j<=L.length
variable{wr:aA}
theorem DL.at_{gz:En->Bool}{R:List En}{base c:Nat}(h:DL gz L w wr base q c i j R)(b:j<L.length):∃a:j<R.length,R[j]=L[j]:=by
 have a:j<R.length:=by have:=h.len;omega
 refine⟨a,?_⟩;have:=congrArg (λl=>l[0]?) h.dr;simp only[adD,acC] at this;rw[abL a,abL b] at this;exact Option.some.inj this
theorem DL.skip{gz:En->Bool}{L R:List En}{w wr w':aA}{base q c i j:Nat}(h:DL gz L w wr base q c i j R)(a:j<L.length)(b:gz L[j]=true)(hb:aD wr wr w'):DL gz L w w' base q c i (j+1) R:=by
 refine⟨h.len,?_,?_,h.o.keep hb,oU h.g hb,by have:=h.il;omega⟩
 .rw[UX a,b,abP rfl,aeF];exact h.tk
 .have:=congrArg (List.drop 1) h.dr;simpa[List.drop_drop] using this
variable{w':aA}
theorem DL.move{gz:En->Bool}{R:List En}{base c:Nat}(h:DL gz L w wr base q c i j R)(b:j<L.length)(d:gz L[j]=false)(hb:aD wr wr w'):DL gz L w (w'.setCells q (i *4) (eE L[j])) base q c (i+1) (j+1) (R.set i L[j]):=by
 have a:i<R.length:=by have:=h.il;have:=h.len;omega
 obtain⟨o1,o2⟩:=L5 rQ.len aQ (h.o.keep hb) a L[j];refine⟨by rw[ab1];exact h.len,?_,?_,o1,o8 (oU h.g hb) o2,by have:=h.il;omega⟩
 .rw[UX b,d,<-h.tk,acV,List.getElem?_set_self a,List.take_set_of_le (abM _)];simp
 .rw[List.drop_set_of_lt (by have:=h.il;omega)];have:=congrArg (List.drop 1) h.dr;simpa[List.drop_drop] using this
def PL(gz:En->Bool)(L:List En)(q c base:Nat)(w:aA)(e:aM)(w':aA):Prop:=e= .returned (.slice q (st gz L).length c)/\bI eE 4 w' base 396 q c (st gz L)/\w.grownBy w' (some q)
theorem Ey{gz:En->Bool}(K:SP f gz b1 b2 v1 v2)(w:aA)(q c base:Nat)(L:List En)(own:bI eE 4 w base 396 q c L)(hl:L.length<=1000)(H:b1≠q)(I:b2≠q)(c1:w.cell? (b1,0)=some v1)(c2:w.cell? (b2,0)=some v2):
 aG prog 247 #[.slice q L.length c, .func (.func f) #[] #[.pointer b1, .pointer b2]] w (PL gz L q c base w):=by
 have eg:=K.en;have a:=uB K w q L c (own.sl rQ) hl c1 c2;have Z:=aP own;obtain⟨n,C⟩:∃n,n=L.length:=⟨_,rfl⟩
 have D:=aP C;rw[<-C] at a hl⊢;cases hf:L.findIdx? (gz) with
 |none=>
  have hp:BO gz L= -1:=by unfold BO;rw[hf]
  rw[hp] at a;have a:=aP a;have E:=aP (Qg hf);clear hf hp own C;go_enter func247,ntmps247
  go_wp2_with fail
  refine aR a ?_;rintro e w2 ⟨rfl,hb⟩;go_wp2_with fail
  go_ret
  unfold PL;rw[E.o];exact⟨by rw[D.o];rfl,Z.o.keep hb,oU (bL w q) hb⟩
 |some i=>
  have hp:BO gz L=(i:Int):=by unfold BO;rw[hf]
  rw[hp] at a;have a:=aP a;have hi:i<n:=by have:=(ab9.1 hf).1;omega
  have E:=aP (Ma hf);have r:aH (L.length<=c/\c<=maxLen):=by obtain⟨_,_,_,h3,h4,_,_⟩:=eZ own;exact⟨h3,h4⟩
  clear hf hp C;go_enter func247,ntmps247
  go_wp2_with fail
  refine aR a ?_;rintro e w2 ⟨rfl,hb⟩;have s:aH (DL gz L w w2 base q c i (i+1) L):=⟨rfl,E.o.symm,rfl,Z.o.keep hb,oU (bL w q) hb,aQ,by have:=D.o;omega⟩
  have i1:((i:Int)== -1)=false:=by rw[af7];omega
  clear hb own E;go_wp2_with fail
  go_loopw [5,6] (λv5 v6 wr=>∃(i j:Nat) (R:List En),v5= .int .i64 i/\v6= .int .i64 j/\i<j/\j<=n/\aH (DL gz L w wr base q c i j R)) (λ_ v6 _=>n - (aL v6).toNat)
  case atStart=>exact⟨i,i+1,L,rfl,by go_num,aQ,aQ,s⟩
  case round=>
   clear s;obtain⟨i,j,R,rfl,rfl,hij,hj,b⟩:=hrel;by_cases hlt:j<n
   .have h:j<L.length:=by have:=D.o;omega
    obtain⟨J,he⟩:=b.o.at_ h;have u:i<R.length:=aQ;obtain⟨y0,y1,y2,y3⟩:=D0 b.o.o J;rw[he] at y0 y1 y2 y3;have M:wr.cell? (b1,0)=some v1:=by rw[World.cell?_of_block (w:=w) (b.o.g.block b1 (World.block_lt_of_cell? w _ c1) (λe=>H (by injection e)))];exact c1
    have N:wr.cell? (b2,0)=some v2:=by rw[World.cell?_of_block (w:=w) (b.o.g.block b2 (World.block_lt_of_cell? w _ c2) (λe=>I (by injection e)))];exact c2
    have F:=aX wr (aI #[.int .i64 L[j].env, .int .i64 L[j].dA, .int .i64 L[j].frame, .bool L[j].write] 396);have hc:=K.run L[j] _ (bK F M) (bK F N);have k:aH (gz L[j]=true->∀W,aD wr wr W->DL gz L w W base q c i (j+1) R):=λO W hb=>b.o.skip h O hb
    have l:aH (gz L[j]=false->∀W,aD wr wr W->DL gz L w (W.setCells q (i *4) (eE L[j])) base q c (i+1) (j+1) (R.set i L[j])):=λO W hb=>b.o.move h O hb
    have P:aH (∀W,aD wr wr W->(W.cell? (q,i *4)=some (.int .i64 R[i].env)/\W.cell? (q,i *4+1)=some (.int .i64 R[i].dA)/\W.cell? (q,i *4+2)=some (.int .i64 R[i].frame)/\W.cell? (q,i *4+3)=some (.bool R[i].write))/\W.frozen? (q,i *4)=false/\W.frozen? (q,i *4+1)=false/\W.frozen? (q,i *4+2)=false/\W.frozen? (q,i *4+3)=false):=λW hb=>by
     have ho:=b.o.o.keep hb;have Q:=r.o.1;have hc2:=b.o.len;exact⟨D0 ho u,(dF ho _ aQ).2,(dF ho _ aQ).2,(dF ho _ aQ).2,(dF ho _ aQ).2⟩
    generalize R[i]=ri at *;have yb:=bE.new wr 396 #[.int .i64 L[j].env, .int .i64 L[j].dA, .int .i64 L[j].frame, .bool L[j].write];have j0:(0:Int)<=j:=aQ;have j1:(j:Int)<(n:Int):=aQ;have i0:(0:Int)<=i:=aQ;have i1:(i:Int)<(n:Int):=aQ;generalize L[j]=y at *;clear he b;obtain⟨G,z2,z3,z4⟩:=y;simp only at y0 y1 y2 y3 hc;have d:=aP F;clear F;cases hq:gz ⟨G,z2,z3,z4⟩ with
    |true=>
     rw[hq] at hc;have v:=aP (k.o hq);clear hq k l;go_wp2_with(go_at_fn (f);(with_reducible refine hc.mono ?_);rintro e w' ⟨rfl,hb⟩;(have S:=aP (v.o w' (d.o.trans (hb.mono aT))));clear hb)
     go_roundw
     case rel=>exact⟨i,j+1,R,rfl,by go_num,aQ,aQ,S.o⟩
     case measure=>simp[aL];omega
    |false=>
     rw[hq] at hc;have x:=aP (l.o hq);have z:aH (wr.heap.size<=(wr.alloc (aI #[G,z2,z3,z4] 396)).heap.size):=d.o.size;clear hq k l;go_wp2_with(go_at_fn (f);(with_reducible refine hc.mono ?_);rintro e w4 ⟨rfl,hb⟩;(have S:=aP (x.o w4 (d.o.trans (hb.mono z.o))));(have x0:=bK hb (yb.cell 0 G rfl));(have x1:=bK hb (yb.cell 1 z2 rfl));(have x2:=bK hb (yb.cell 2 z3 rfl));(have x3:=bK hb (yb.cell 3 (.bool z4) rfl));(obtain⟨⟨r0,r1,r2,r3⟩,f0,f1,f2,f3⟩:=P.o w4 (d.o.trans (hb.mono z.o)));clear hb yb)
     go_roundw
     case rel=>exact⟨i+1,j+1,R.set i ⟨G,z2,z3,z4⟩,by go_num,by go_num,aQ,aQ,S.o⟩
     case measure=>simp[aL];omega
   .obtain rfl:j=n:=aQ;have j1:¬(j:Int)<(j:Int):=aQ;have A:j=L.length:=D.o;have T:R.take i=st gz L:=by have:=b.o.tk;rw[A,adS] at this;exact this
    have u:i<R.length:=by have:=b.o.len;omega
    have o1:=Ov rQ.len b.o.o (n:=i) aQ;rw[T] at o1;have p:(st gz L).length=i:=by rw[<-T,acQ];omega
    have B:=Z5 (j - i);have HZ:aH (PL gz L q c base w (.returned (.slice q i c)) (wr.setCells q (i *4) (Builtin.zeroCells (Value.agg #[aU,aU,aU,false]).cells (j - i)).toList)):=by
     obtain⟨t1,t2⟩:=Ep o1 (o:=i *4) (by rw[p];omega) (Builtin.zeroCells (Value.agg #[aU,aU,aU,false]).cells (j - i)).toList;exact⟨by rw[p],t1,o8 b.o.g t2⟩
    obtain⟨m,hm⟩:∃m,j - i=m+1:=⟨j - i - 1,aQ⟩
    have U:∀ty V X,V=j - i->(Builtin.clear_ #[312] ty #[.slice (some ⟨q,i *4,none⟩) V X]).run prog wr= .ok (.tuple #[]) (wr.setCells q (i *4) (Builtin.zeroCells (Value.agg #[aU,aU,aU,false]).cells (j - i)).toList):=λty V X Y=>by
     rw[Y,hm];exact M2 wr _ 396 ty _ underlying312 TP m _ rfl (Cv _) q (i *4) X (λt ht=>by
      rw[<-hm,B] at ht;have Q:=r.o.1;exact dF b.o.o (i *4+t) aQ)
    have ic1:i<=c:=by have:=r.o.1;omega
    have jc1:j<=c:=by have:=r.o.1;omega
    have cm:c<=maxLen:=r.o.2;simp only[maxLen] at cm;have i0:(0:Int)<=i:=aQ;have i1:(i:Int)<=(j:Int):=aQ;clear T o1 p B b A;go_wp2_with(at_builtin;exact U _ _ _ aQ)
    go_ret
    have hh:=HZ.o;rw[hm] at hh;exact hh
def YA(F:Nat->Prop)(g:Nat)(gz:En->Bool)(L:List En)(w:aA)(e:aM)(w':aA):Prop:=∃v:Int,e= .returned (.int .i64 v)/\jO F w' g (st gz L)/\Kp F w w'
end Df
end
variable{F:Nat->Prop}{g:Nat}{L:List En}
section
namespace Df
variable{F:Nat->Prop}{g b1 b2:Nat}{L:List En}{h:Int}{f:FuncId}{v1 v2:aC}
theorem Og{c:Nat}{m:Int}{gz:En->Bool}(K:SP f gz b1 b2 v1 v2)(t:Tb w g q c L h m)(z:Ol F w)(A:¬F g)(hq:¬F q)(hl:L.length<=1000)(f1:F b1)(f2:F b2)(c1:w.cell? (b1,0)=some v1)(c2:w.cell? (b2,0)=some v2):
 aG prog 211 #[.pointer g, .func (.func f) #[] #[.pointer b1, .pointer b2]] w (YA F g gz L w):=by
 have c0:=t.1.cell 0 (.slice q L.length c) rfl;have u:g≠q:=λe=>by have:=(t.2.lt q rfl).1;omega
 have HD:=aP (Ey K w q c (g+1) L t.2 hl (λe=>hq (e ▸ f1)) (λe=>hq (e ▸ f2)) c1 c2);have B:=aP t;have b:=dH z A hq;have hle:(st gz L).length<=L.length:=aeP _ _;obtain⟨n,l⟩:∃n,n=L.length:=⟨_,rfl⟩
 have D:=aP l;rw[<-l] at c0 hl hle;have v:aH (aG prog 247 #[.slice q n c, .func (.func f) #[] #[.pointer b1, .pointer b2]] w (PL gz L q c (g+1) w)):=by
  have:=HD.o;rw[<-l] at this;exact this
 clear HD t z A hq l f1 f2 c1 c2;go_enter func211,ntmps211
 go_upto_region 4 with(fail)
 go_wp2_with fail
 refine aR v ?_;rintro e d ⟨rfl,k,i⟩;have a:bE d g 314 #[.slice q L.length c,h,m]:=B.o.1.grown i (λe=>u (by injection e));have f0:=a.frozen 0;have d0:d.cell? (g,0)=some (.slice q L.length c):=a.cell 0 _ rfl;have j:Tb (d.setCell (g,0) (.slice q (st gz L).length c)) g q c (st gz L) h m:=Tb.slot B.o a k;have p:Kp F w d:=b.o.1.self b.o.2.2 i;have x:=(b.o.1.kp p).self b.o.2.1 (aZ (bL d g) 0 (.slice q (st gz L).length c));have E:=j.1.cell 0 (.slice q (st gz L).length c) rfl;have C:aH (jO F (d.setCell (g,0) (.slice q (st gz L).length c)) g (st gz L)/\Kp F w (d.setCell (g,0) (.slice q (st gz L).length c))):=
  ⟨⟨_,_,_,_,j,(b.o.1.kp p).kp x,b.o.2.1,λr y=>by injection y with y;rw[<-y];exact b.o.2.2⟩,p.trans x⟩
 clear k i a j p x c0;generalize (st gz L).length=s at *;go_wp2_with fail
 go_ret
 exact⟨_,rfl,C.o.1,C.o.2⟩
theorem Mw{c:Nat}{m:Int}{gz:En->Bool}(K:SP f gz b1 b2 v1 v2)(t:Tb w g none c [] h m)(l:Ol F w)(n:¬F g)(c1:w.cell? (b1,0)=some v1)(c2:w.cell? (b2,0)=some v2):
 aG prog 211 #[.pointer g, .func (.func f) #[] #[.pointer b1, .pointer b2]] w (YA F g gz [] w):=by
 have c0:=t.1.cell 0 (.slice none 0 c) rfl;have f0:=t.1.frozen 0;have q:aH (aG prog 274 #[.slice none 0 c, .func (.func f) #[] #[.pointer b1, .pointer b2]] w λe w'=>e= .returned (.int .i64 (-1))/\aD w w w'):=uB K w none [] c (Sl.nil _ _) aT c1 c2;have j:=aP t;have i:=bP l n;have HD:aH (aG prog 247 #[.slice none 0 c, .func (.func f) #[] #[.pointer b1, .pointer b2]] w λe w'=>e= .returned (.slice none 0 c)/\aD w w w'):=by
  unfold aH;clear j i c0 f0 l n t;go_enter func247,ntmps247
  go_wp2_with fail
  refine aR q ?_;rintro e b ⟨rfl,hb⟩;go_wp2_with fail
  go_ret
  exact⟨rfl,hb⟩
 clear q t l n c1 c2;go_enter func211,ntmps211
 go_upto_region 4 with(fail)
 go_wp2_with fail
 refine aR HD ?_;rintro e b ⟨rfl,hb⟩;have a:=j.o.1.keep hb;have f0:=a.frozen 0;have d0:b.cell? (g,0)=some (.slice none 0 c):=a.cell 0 _ rfl;have d:Tb (b.setCell (g,0) (.slice none 0 c)) g none c [] h m:=Tb.slot j.o a (j.o.2.keep hb);have k:Kp F w b:=i.o.1.below hb;have p:=(i.o.1.kp k).self i.o.2 (aZ (bL b g) 0 (.slice none 0 c));have v:=d.1.cell 0 (.slice none 0 c) rfl;have s:aH (jO F (b.setCell (g,0) (.slice none 0 c)) g []/\Kp F w (b.setCell (g,0) (.slice none 0 c))):=
  ⟨⟨_,_,_,_,d,(i.o.1.kp k).kp p,i.o.2,λr u=>by cases u⟩,k.trans p⟩
 clear hb a d k p c0;go_wp2_with fail
 go_ret
 exact⟨_,rfl,s.o.1,s.o.2⟩
theorem UO{gz:En->Bool}(K:SP f gz b1 b2 v1 v2)(t:jO F w g L)(hl:L.length<=1000)(f1:F b1)(f2:F b2)(c1:w.cell? (b1,0)=some v1)(c2:w.cell? (b2,0)=some v2):
 aG prog 211 #[.pointer g, .func (.func f) #[] #[.pointer b1, .pointer b2]] w (YA F g gz L w):=by
 obtain⟨A,c,x,m,t1,t2,t3,t4⟩:=t;rcases t1.2.shape with⟨rfl,rfl,rfl⟩|⟨q,rfl⟩
 .exact Mw K t1 t2 t3 c1 c2
 .exact Og K t1 t2 t3 (t4 q rfl) hl f1 f2 c1 c2
end Df
theorem Bv(h:jO F w g L)(hl:L.length<=100)(a p:Int)(ha:0<=a):aG prog 193 #[.pointer g,a,p] w λe w'=>∃v:Int,e= .returned (.int .i64 v)/\jO F w' g (Df.st (Df.gz a p) L)/\Kp F w w':=by
 have fl:Ol F w:=by obtain⟨_,_,_,_,_,f,_⟩:=h;exact f
 have h1:=(jO.cH g L).box h fl (aI #[a] 3);have c:Ol (Fb F w) (w.alloc (aI #[a] 3)):=Fb.ol fl aT aT;have i:=(jO.cH g L).box h1 c (aI #[p] 3);have b1:=(bE.new w 3 #[a]).alloc (aI #[p] 3);have b2:=bE.fL (w.alloc (aI #[a] 3)) 3 #[p] (g:=w.heap.size+1) aT;have t:(w.alloc (aI #[a] 3)).heap.size=w.heap.size+1:=aT;rw[t] at i;have j:=fl.below (aX w (aI #[a] 3));have k:=(fl.kp j).below (aX (w.alloc (aI #[a] 3)) (aI #[p] 3));have l:=aP (Df.UO (Df.Vg a p ha (w.heap.size+1) w.heap.size) i aQ (.inr rfl) (.inl (.inr rfl)) (b2.cell 0 _ rfl) (b1.cell 0 _ rfl));have m:aH (∀W d,jO (Fb (Fb F w) (w.heap.size+1)) W g d->Kp (Fb (Fb F w) (w.heap.size+1)) ((w.alloc (aI #[a] 3)).alloc (aI #[p] 3)) W->jO F W g d/\Kp F w W):=λW d x u=>by
  have n:Ol (Fb (Fb F w) (w.heap.size+1)) W:=by obtain⟨_,_,_,_,_,f,_⟩:=x;exact f
  exact⟨dV.less (jO.cH g d) (dV.less (jO.cH g d) x (λb hb=>n b (.inl hb))) (λb hb=>n b (.inl (.inl hb))),(j.trans k).trans u.unbox.unbox⟩
 clear h fl h1 c i b1 b2 j k;go_enter func193,ntmps193
 go_wp2_with fail
 refine aR l ?_;rintro e y ⟨v,rfl,q,r⟩;have s:=aP (m.o _ _ q r);clear q r m l;go_wp2_with fail
 go_ret
 exact⟨_,rfl,s.o.1,s.o.2⟩
theorem Ed(h:jO F w g L)(hl:L.length<=100)(a p:Int):aG prog 168 #[.pointer g,a,p] w λe w'=>∃v:Bool,e= .returned (.bool v)/\jO F w' g (Df.st (Dr.gz a p) L)/\Kp F w w':=by
 have fl:Ol F w:=by obtain⟨_,_,_,_,_,f,_⟩:=h;exact f
 have h1:=(jO.cH g L).box h fl (aI #[a] 3);have c:Ol (Fb F w) (w.alloc (aI #[a] 3)):=Fb.ol fl aT aT;have i:=(jO.cH g L).box h1 c (aI #[p] 3);have b1:=(bE.new w 3 #[a]).alloc (aI #[p] 3);have b2:=bE.fL (w.alloc (aI #[a] 3)) 3 #[p] (g:=w.heap.size+1) aT;have t:(w.alloc (aI #[a] 3)).heap.size=w.heap.size+1:=aT;rw[t] at i;have j:=fl.below (aX w (aI #[a] 3));have k:=(fl.kp j).below (aX (w.alloc (aI #[a] 3)) (aI #[p] 3));have l:=aP (Df.UO (Dr.Vg a p w.heap.size (w.heap.size+1)) i aQ (.inl (.inr rfl)) (.inr rfl) (b1.cell 0 _ rfl) (b2.cell 0 _ rfl));have m:aH (∀W d,jO (Fb (Fb F w) (w.heap.size+1)) W g d->Kp (Fb (Fb F w) (w.heap.size+1)) ((w.alloc (aI #[a] 3)).alloc (aI #[p] 3)) W->jO F W g d/\Kp F w W):=λW d x u=>by
  have n:Ol (Fb (Fb F w) (w.heap.size+1)) W:=by obtain⟨_,_,_,_,_,f,_⟩:=x;exact f
  exact⟨dV.less (jO.cH g d) (dV.less (jO.cH g d) x (λb hb=>n b (.inl hb))) (λb hb=>n b (.inl (.inl hb))),(j.trans k).trans u.unbox.unbox⟩
 clear h fl h1 c i b1 b2 j k;go_enter func168,ntmps168
 go_wp2_with fail
 refine aR l ?_;rintro e y ⟨v,rfl,q,r⟩;have s:=aP (m.o _ _ q r);clear q r m l;go_wp2_with fail
 go_ret
 exact⟨_,rfl,s.o.1,s.o.2⟩
end
end
section
open Go.RowKit Go.Lib Go.Shelf dL Fr Up Nt
variable{F:Nat->Prop}{w wr w':aA}{g q:Nat}{L:List En}{k k':Kv}{a':Ka}{A:Option aJ}
section
theorem W0(h:jO F w g L)(hl:L.length<=100)(e o:Int)(he:0<=e):aG prog 193 #[.pointer g,e,o] w λr w'=>∃v:Int,r= .returned (.int .i64 v)/\jO F w' g (GB L e o)/\Kp F w w':=Bv h hl e o he
theorem ZR(h:jO F w g L)(hl:L.length<=100)(e p:Int):aG prog 168 #[.pointer g,e,p] w λr w'=>∃v:Bool,r= .returned (.bool v)/\jO F w' g (PI L e p)/\Kp F w w':=Ed h hl e p
theorem XZ(t:List En)(L:List cP)(p:cP):iI t (L++ [p])=yK (iI t L) p:=by
 unfold iI;rw[ad1];rfl
theorem Bw(t:List En)(e o:Int):(GB t e o).length<=t.length:=aeP _ _
theorem Bp(t:List En)(p:cP):(yK t p).length<=t.length:=by
 unfold yK;split
 .exact Bw _ _ _
 .exact abM _
theorem EE(t:List En)(L:List cP):(iI t L).length<=t.length:=by
 unfold iI;induction L generalizing t with
 |nil=>exact abM _
 |cons p L a=>exact abT (a _) (Bp _ _)
structure NS(F:Nat->Prop)(w wr:aA)(g:Nat)(a:Ka)(k:Kv)(B q c:Nat)(L:List cP):Prop where
 m:bT F wr g a k
 k:Kp F w wr
 o:bI oK 5 wr B 156 q c L
theorem NS.keep{B c:Nat}{a:Ka}{L:List cP}(h:NS F w wr g a k B q c L)(hb:aD wr wr w'):NS F w w' g a k B q c L:=⟨(h.m.below hb).1,h.k.trans (h.m.below hb).2,h.o.keep hb⟩
theorem NS.eY{B c:Nat}{a:Ka}{L:List cP}(h:NS F w wr g a k B q c L)(hq:F q)(m:bT F w' g a' k')(kp:Kp F wr w'):NS F w w' g a' k' B q c L:=⟨m,h.k.trans kp,h.o.kp kp (λb hb=>by injection hb with hb;rw[<-hb];exact hq)⟩
theorem Dc{B c:Nat}{a:Ka}{L:List cP}(h:bT F w g a k)(ht:k.t.length<=100)(ho:bI oK 5 w B 156 q c L)(hq:F q)(hl:L.length<=1000)(he:∀p∈L,0<=p.e):
 aG prog 150 #[.pointer g, .slice q L.length c] w (gK F g {k with t:=iI k.t L} (.tuple #[]) w):=by
 have HI:aH (NS F w w g a k B q c L):=⟨h,Kp.refl _ _,ho⟩
 have HL:=aP he;obtain⟨n,hn⟩:∃n,n=L.length:=⟨_,rfl⟩
 have HN:=aP hn;rw[<-hn] at hl⊢;have HQ:=aP hq;have HT:=aP ht;clear h ho hn he hq ht;go_enter func150,ntmps150
 go_wp2_with fail
 go_loopw [9] (λv9 wr=>∃(i:Nat) (a:Ka),v9= .int .i64 i/\i<=n/\aH (NS F w wr g a {k with t:=iI k.t (L.take i)} B q c L)) (λv9 _=>n - (aL v9).toNat)
 case atStart=>exact⟨0,a,rfl,abX _,HI.o⟩
 case round=>
  clear HI a;obtain⟨i,a,rfl,hi,X⟩:=hrel;by_cases hkn:i<n
  .have z:i<L.length:=by rw[<-HN.o];exact hkn
   have V:=X.o.o;have e0:=bN fX V z (j:=0) (v:= .int .i64 L[i].e) rfl;have e1:=bN fX V z (j:=1) (v:= .int .i64 L[i].s) rfl;have e2:=bN fX V z (j:=2) (v:= .int .i64 L[i].h.kd) rfl;have e3:=bN fX V z (j:=3) (v:= .int .i64 L[i].h.ob) rfl;have e4:=bN fX V z (j:=4) (v:= .int .i64 L[i].h.rt) rfl;rw[acC] at e0;have k0:(0:Int)<=i:=aQ;have k1:(i:Int)<(n:Int):=aQ;clear V;have Y:L.take (i+1)=L.take i++ [L[i]]:=by rw[acV,abL z];rfl
   have I:aH (iI k.t (L.take (i+1))=yK (iI k.t (L.take i)) L[i]):=by unfold aH;rw[Y,XZ]
   have Z:=HL.o L[i] (abV z);have HGL:aH ((iI k.t (L.take i)).length<=100):=abT (EE _ _) HT.o;generalize iI k.t (L.take i)=t0 at *;generalize L.take i=LT at *;clear Y;generalize L[i]=y at *;obtain⟨A,y2,H,x,y5,y6,y7⟩:=y;simp only at e0 e1 e2 e3 e4 Z;have a1:=aX wr (aI #[A,y2,H,x,y5] 156);have yb:=bE.new wr 156 #[A,y2,H,x,y5];have D:=aP (X.o.keep a1);clear a1 X;by_cases hc:H=1
   .have R:aH (iI k.t (L.take (i+1))=GB t0 A x):=by unfold aH;rw[I.o];exact abP hc
    clear I;have hc':(H==1)=true:=by simp[hc]
    clear hc;go_upto_region 5 with(fail)
    clear e0 e1 e2 e3 e4;generalize wr.alloc (aI #[A,y2,H,x,y5] 156)=w3 at *;generalize wr.heap.size=q3 at *;have x0:=yb.cell 0 A rfl;have x3:=yb.cell 3 x rfl;have pt:=D.o.m.pt;unfold pA at pt;clear yb;have J:=bD pt;have b:=bD x0;have M:=bD x3;refine bM (bQ _) (λ_=>bQ) [] (λ_ _ _=>True) [9] [] 67 (bZ _) (λ_ _ _ h hz=>bV h hz) (λ_ d hd _ v w w' _ h hz=>by cases hd) aV aV bF ?_;repeat refine eK ?_
    refine dI ?_;intro γ w5 u hT;clear J b M;simp only[cY,Act.put,abN,abU,abS];refine dS ?_;have S:=D.o.keep u;obtain⟨G,hr,back⟩:=S.m.tb;have HR:=aP (W0 hr HGL.o A x Z);have T:=aP back;have N:=aP S;clear hr back S u hT D;refine wpList_plain rfl (λK hK=>?_);go_wp2_with fail
    refine aR HR ?_;rintro r w6 ⟨v,rfl,hr6,kr6⟩;obtain⟨U,k6⟩:=T.o _ _ hr6 kr6;have H6:=aP (N.o.eY HQ.o U k6);clear U k6 hr6 kr6 T HR N;refine hK _ _ ?_;clear hK K;refine cN ?_;try refine dE ?_
    go_wp2_with fail
    go_roundw
    case rel=>exact⟨i+1,a,by go_num,aQ,by rw[R.o];exact H6.o⟩
    case measure=>simp[aL];omega
   .have R:aH (iI k.t (L.take (i+1))=t0):=by unfold aH;rw[I.o];exact abQ hc
    clear I;have hc':(H==1)=false:=by simp[hc]
    clear hc;by_cases hd:H=2
    .have hd':(H==2)=true:=by simp[hd]
     clear hd;go_upto_region 7 with(fail)
     clear e0 e1 e2 e3 e4;generalize wr.alloc (aI #[A,y2,H,x,y5] 156)=w3 at *;generalize wr.heap.size=q3 at *;have x0:=yb.cell 0 A rfl;have x3:=yb.cell 3 x rfl;have pc:=D.o.m.pc;unfold pA at pc;clear yb;go_upto_region 8 with(fail)
     have O:aH (∀W,aD w3 w3 W->aG prog 110 #[.pointer g,x] W λe w'=>e= .returned (.int .i64 (FM a x))/\W=w'):=λW hW=>CX (D.o.m.below hW).1 x
     obtain⟨G,hcp,_⟩:=D.o.m.cp;have P:aH (∀W,aD w3 w3 W->aG prog 15 #[.pointer a.gc,A, .int .i64 2,x] W λe w'=>e= .returned (.int .i64 (iZ k.c A 2 x))/\aD W.heap.size W w'):=λW hW=>RG (hcp.keep hW) A 2 x
     clear hcp;generalize iZ k.c A 2 x=fd at *;obtain⟨an,han⟩:∃an,bits .and .i64 fd 2=an:=⟨_,rfl⟩
     generalize hbv:FM a x=bv at *;clear hbv;by_cases Q:bv=A
     .have hb1':(bv !=A)=false:=by simp[Q]
      clear Q;by_cases C:an=0
      .have han':(an !=0)=false:=by simp[C]
       clear C;(have f:=cC.cell pc;have b:=cC.cell x0;refine dG aV aV ?_;(repeat (go_big_quiet_step ((first|(go_at_call 110;with_reducible exact pI (O.o _ (cC.ok _)))|(go_at_call 15;with_reducible exact gR (P.o _ (cC.ok _)))))));refine wpQuiet_nil ?_;clear f b;intro w5 l;have u:=cC.below l;clear l)
       have S:=D.o.keep u;have N:=aP S;have HK1:=aP (NC S.m x (-1));clear S u D O P;go_wp2_with fail
       refine aR HK1 ?_;rintro r w6 ⟨rfl,⟨a6,U⟩,k6⟩;have h6':=N.o.eY HQ.o U k6;obtain⟨G,E,back⟩:=U.ir;have HMk:=aP (P1 E x true);have T:=aP back;have pi:=U.pi;unfold pA at pi;have H6:=aP h6';clear U k6 h6' E back N HK1;go_wp2_with fail
       refine aR HMk ?_;rintro r w7 ⟨v7,L7,rfl,hL7,hi7,k7⟩;obtain⟨h7,kk7⟩:=T.o L7 _ hL7 hi7 k7;have h7':=H6.o.eY HQ.o h7 kk7;obtain⟨G,E,back⟩:=h7.ir;have HAk:=aP (TY E x);have T:=aP back;have pi:=h7.pi;unfold pA at pi;have H7:=aP h7';clear h7 kk7 h7' E back H6 HMk hL7 hi7 k7;go_wp2_with fail
       refine aR HAk ?_;rintro r w8 ⟨v8,L8,rfl,hL8,hi8,k8⟩;obtain⟨h8,kk8⟩:=T.o L8 _ hL8 hi8 k8;have H8:=aP (H7.o.eY HQ.o h8 kk8);clear h8 kk8 H7 HAk hL8 hi8 k8 T;go_wp2_with fail
       go_roundw
       case rel=>exact⟨i+1,_,by go_num,aQ,by rw[R.o];exact H8.o⟩
       case measure=>simp[aL];omega
      .have han':(an !=0)=true:=by simp[C]
       clear C;(have f:=cC.cell pc;have b:=cC.cell x0;refine dG aV aV ?_;(repeat (go_big_quiet_step ((first|(go_at_call 110;with_reducible exact pI (O.o _ (cC.ok _)))|(go_at_call 15;with_reducible exact gR (P.o _ (cC.ok _)))))));refine wpQuiet_nil ?_;clear f b;intro w5 l;have u:=cC.below l;clear l)
       have N:=aP (D.o.keep u);clear u D;go_wp2_with fail
       go_roundw
       case rel=>exact⟨i+1,a,by go_num,aQ,by rw[R.o];exact N.o⟩
       case measure=>simp[aL];omega
     .have hb1':(bv !=A)=true:=by simp[Q]
      clear Q;(have f:=cC.cell pc;have b:=cC.cell x0;refine dG aV aV ?_;(repeat (go_big_quiet_step ((first|(go_at_call 110;with_reducible exact pI (O.o _ (cC.ok _)))|(go_at_call 15;with_reducible exact gR (P.o _ (cC.ok _)))))));refine wpQuiet_nil ?_;clear f b;intro w5 l;have u:=cC.below l;clear l)
      have N:=aP (D.o.keep u);clear u D;go_wp2_with fail
      go_roundw
      case rel=>exact⟨i+1,a,by go_num,aQ,by rw[R.o];exact N.o⟩
      case measure=>simp[aL];omega
    .have hd':(H==2)=false:=by simp[hd]
     clear hd;go_wp2_with fail
     go_roundw
     case rel=>exact⟨i+1,a,by go_num,aQ,by rw[R.o];exact D.o⟩
     case measure=>simp[aL];omega
  .obtain rfl:i=n:=aQ;have k1:¬(i:Int)<(i:Int):=aQ;have R:aH (L.take i=L):=ab8 (by rw[<-HN.o];exact abM _);have HF:aH (gK F g {k with t:=iI k.t L} (.tuple #[]) w (.returned (.tuple #[])) wr):=⟨rfl,⟨a,by have:=X.o.m;rw[R.o] at this;exact this⟩,X.o.k⟩
   go_wp2_with fail
   go_end0
   exact HF.o
theorem Ab(h:KM F w g k):aG prog 150 #[.pointer g,bH] w (gK F g k (.tuple #[]) w):=by
 have a:aH (gK F g k (.tuple #[]) w (.returned (.tuple #[])) w):=⟨rfl,h,Kp.refl _ _⟩
 clear h;go_enter func150,ntmps150
 go_wp2_with fail
 refine wp_loop_rounds 1 ?_;rw[rounds_succ];go_wp2_with fail
 go_end0
 exact a.o
theorem AI{B c:Nat}{a:Ka}{L:List cP}(h:bT F w g a k)(b:k.t.length<=100)(ho:bI oK 5 w B 156 A c L)(hq:∀q,aY A=some q->F q)(hl:L.length<=1000)(he:∀p∈L,0<=p.e):
 aG prog 150 #[.pointer g,(A,L.length,c)] w (gK F g {k with t:=iI k.t L} (.tuple #[]) w):=by
 rcases ho.shape with⟨rfl,rfl,rfl⟩|⟨q,rfl⟩
 .exact Ab ⟨a,h⟩
 .exact Dc h b ho (hq q rfl) hl he
end
variable{l:List Pt}{G:Nat->Prop}{C C':Cf}{a:Ka}
section
theorem Ob.MX(h:Ob l F w)(i:Nat)(p:Pt)(hp:l[i]?=some p):∃G,p.X G w/\(∀(n:Pt) (w':aA) (X:Nat->Prop),(∀b,X b->w.heap.size<=b)->n.X (λb=>G b\/X b) w'->Ol (λb=>G b\/X b) w'->Kp G w w'->Ob (l.set i n) (λb=>F b\/X b) w'/\Kp F w w'):=by
 obtain⟨v,h⟩:=h;refine⟨_,h.get i hp,λn w' X x y o k=>⟨⟨λb=> @ite Nat (X b) (Classical.propDecidable _) 0 (nx w v (i+1) b),λb hb=>?_,λm q hm=>?_⟩,h.1.kp k aQ⟩⟩
 .rcases hb with hb|hb
  .have h1:=h.1 b hb;refine⟨abO h1.1 k.size,?_⟩;simp only;split
   .rfl
   .rw[yX h1.1,h1.2]
  .exact⟨o b (.inr hb),by simp only;rw[abP hb]⟩
 .rw[acW] at hm;split at hm
  .rename_i e;subst e;split at hm
   .injection hm with hm;subst hm;refine n.cH _ (λ_=>True) _ w' w' y (Kp.refl _ _) (λ_ _ _=>trivial) (Fo.ol _ _ _) (λr d f hf=>?_);have c:=hf.2;simp only at c;have s:¬X r:=λhc=>f (.inr hc)
    rw[abQ s] at c;rcases aeE r w with j|t
    .rw[yX j] at c;exact f (.inl ⟨j,c⟩)
    .exact c (K8 t)
   .cases hm
  .rename_i u;refine q.cH _ _ _ w w' (h.2 m q hm) k (λr d f=>⟨d,λe=>f ⟨d,λz=>u aQ⟩⟩) (Fo.ol _ _ _) (λr d f hf=>?_);have h1:v r=m+1:=acD λhc=>f ⟨d,hc⟩
   have c:=hf.2;simp only at c;rw[abQ (λhc=>by have:=x r hc;omega),yX d] at c;exact c h1
def cI(F:Nat->Prop)(A:Option aJ):Nat->Prop:=λb=>F b\/Go.Proofs.YtacgiflhgdaeaaaGreat.aY A=some b
section
variable{F:Nat->Prop}{w w':aA}{g:Nat}{a:Ka}{k:Kv}
theorem bT.Sy(h:bT F w g a k):∃G,eQ G w a.gc k.c/\(∀(c:Cf) (w':aA) (A:Option aJ),(∀q,Go.Proofs.YtacgiflhgdaeaaaGreat.aY A=some q->w.heap.size<=q)->eQ (cI G A) w' a.gc c->Kp G w w'->bT (cI F A) w' g a {k with c:=c}/\Kp F w w'):=by
 obtain⟨G,e,back⟩:=h.o.MX 3 _ rfl;exact⟨G,e,λc w' A d b k'=>⟨⟨(back (UP a.gc c) w' _ d b b.fl k').1,h.al,h.bd,h.ln,h.pp⟩,(back (UP a.gc c) w' _ d b b.fl k').2⟩⟩
theorem bT.less(h:bT F w g a k)(c:∀b,G b->F b):bT G w g a k:=bT.cH g a k F (λ_=>True) G w w h (Kp.refl _ _) (λ_ _ _=>trivial) (λb hb=>h.fl b (c b hb)) (λr _ d hf=>d (c r hf))
theorem KM.less(h:KM F w g k)(c:∀b,G b->F b):KM G w g k:=by
 obtain⟨a,h⟩:=h;exact⟨a,h.less c⟩
end
theorem eQ.LR{c:Nat}{L:List cP}(d:eQ F w g C)(h:eQ F w' g C')(ho:bI oK 5 w' w.heap.size 156 A c L):eQ (cI F A) w' g C':=
 ⟨h.b,h.len,λb hb=>by
  rcases hb with hb|hb
  .exact h.fl b hb
  .exact(ho.lt b hb).2,λhc=>by
  rcases hc with hc|hc
  .exact h.fg hc
  .have:=(ho.lt g hc).1;have:=d.b.lt;omega⟩
structure KW(k:Kv):Prop where
 t:k.t.length<=100
 b:k.b.length<=400
 cn:0<=k.c.n/\k.c.n<=1000000000
 sd:gQ k.s
 be:∀x∈k.b,0<=x.cZ/\x.cZ<8
 n:k.n<=1000000000
theorem KW.p8(h:KW k):k.s.P.length<=8:=h.sd.n.2
theorem K4(L:List Nt)(e o:Int):(qH L e o).length<=L.length/\∀x∈qH L e o,x∈L:=by
 unfold qH;split
 .exact⟨aeL _ _,λx b=>aeD b⟩
 .exact⟨abM _,λx b=>b⟩
theorem vC(L:List Nt)(o:Int):∀n,(qP L o n).length<=L.length/\∀x∈qP L o n,x∈L
 |0=>⟨abM _,λx b=>b⟩
 |n+1=>⟨abT (K4 _ _ _).1 (vC L o n).1,λx b=>(vC L o n).2 x ((K4 _ _ _).2 x b)⟩
theorem kD.kw{o:Int}(h:kD k o k')(w:KW k):KW k':=by
 obtain⟨L,_,rfl⟩:=h;exact⟨abT (EE _ _) w.t,abT (vC _ _ _).1 w.b,by show 0<=(iA _ _).n/\(iA _ _).n<=_;rw[FR];exact w.cn,w.sd,λx c=>w.be x ((vC _ _ _).2 x c),w.n⟩
theorem LH{p:cP}(h:p∈lE C):0<=p.e:=by
 unfold lE uV at h;obtain⟨k,_,hk⟩:=ad7.1 h;unfold OH at hk;split at hk
 .cases hk
 .injection hk with hk;subst hk;exact Int.natCast_nonneg _
theorem CU(C:Cf):(lE C).length<=128:=JQ C 128
theorem FD(h:bT F w g a k)(hw:KW k)(o:Int):aG prog 152 #[.pointer g,o] w λe w'=>∃k',kD k o k'/\gK F g k' (.tuple #[]) w e w':=by
 obtain⟨G,j,back⟩:=h.Sy;have I:=aP (Db j 1 o);have d:=aP back;have J:=aP j;have K:=aP hw;have pc:=h.pc;unfold pA at pc;clear h j back hw;go_enter func152,ntmps152
 go_wp2_with fail
 refine aR I ?_;rintro e Z ⟨A,c,L,rfl,D,ho,s,u⟩;obtain⟨M,N⟩:=d.o _ _ A (λq hq=>(ho.lt q hq).1) (J.o.LR s ho) u;have hlen:(L.filter (nZ 1 o)).length<=128:=abT (aeP _ _) (by rw[D.length_eq];exact CU _);have O:=aP (AI M K.o.t ho (λq hq=> .inr hq) aQ (λp hp=>LH (D.mem_iff.1 (ac1.1 hp).1)));have V:=aP D;have P:=aP N;clear D ho s u M N d J I pc;generalize W:(L.filter (nZ 1 o)).length=n at *;clear W;go_wp2_with fail
 refine aR O ?_;rintro e Q ⟨rfl,R,S⟩;have T:aH (KM F Q g {k with c:=iA k.c (L.filter (nZ 1 o)),t:=iI k.t (L.filter (nZ 1 o))}/\Kp F w Q):=⟨R.less (λb hb=> .inl hb),P.o.trans (S.mono (λb hb=> .inl hb))⟩
 clear R S P O;go_wp2_with fail
 go_loopw [13] (λl wr=>∃i:Nat,l= .int .i64 i/\i<=8/\aH (KM F wr g {k with c:=iA k.c (L.filter (nZ 1 o)),t:=iI k.t (L.filter (nZ 1 o)),b:=qP k.b o i}/\Kp F w wr)) (λl _=>8 - (aL l).toNat)
 case atStart=>exact⟨0,rfl,aQ,T.o⟩
 case round=>
  clear T;obtain⟨i,rfl,hi,E⟩:=hrel;obtain⟨X,h1⟩:=E.o.1;by_cases Y:i<8
  .have k1:(i:Int)<8:=aQ;have pb:=h1.pb;unfold pA at pb;obtain⟨G,hb,back⟩:=h1.bo;have v:=aP (WG (i:Nat) o hb (abT (vC _ _ _).1 (abT K.o.b aQ)));have d:=aP back;clear hb back h1;go_wp2_with fail
   refine aR v ?_;rintro e w5 ⟨rfl,x,U⟩;obtain⟨y,z⟩:=d.o _ _ _ x U;have H:aH (KM F w5 g {k with c:=iA k.c (L.filter (nZ 1 o)),t:=iI k.t (L.filter (nZ 1 o)),b:=qP k.b o (i+1)}/\Kp F w w5):=⟨⟨_,y⟩,E.o.2.trans z⟩
   clear x U y z d v pb;go_wp2_with fail
   go_roundw
   case rel=>exact⟨i+1,by go_num,aQ,H.o⟩
   case measure=>simp[aL];omega
  .obtain rfl:i=8:=aQ;have pf:=h1.pf;unfold pA at pf;obtain⟨G,hf,back⟩:=h1.fr;have r:=aP (Ic k.f X.gf o wr hf.m);have B:=aP hf;generalize (if dM k.f o=true then(0:Int) else 6)=ev at r;have d:=aP back;clear hf back h1;go_wp2_with fail
   refine aR r ?_;rintro e w5 ⟨rfl,C,g5⟩;obtain⟨t1,t2⟩:=B.o.eY C g5;obtain⟨y,z⟩:=d.o _ _ t1 t2;have H:aH (∃k',kD k o k'/\gK F g k' (.tuple #[]) w (.returned (.tuple #[])) w5):=⟨_,⟨L,V.o,rfl⟩,rfl,⟨_,y⟩,E.o.2.trans z⟩
   clear C g5 t1 t2 y z d B r pf;go_wp2_with fail
   go_end0
   exact H.o
end
variable{X:(Nat->Prop)->aA->Prop}{e:Int}{k1:Kv}{i:Nat}
section
theorem dV.row(M:dV X)(h:X F w)(fl:Ol F w)(hb:aD w w w')(c:∀q,Go.Proofs.YtacgiflhgdaeaaaGreat.aY A=some q->w.heap.size<=q/\q<w'.heap.size):X (cI F A) w':=
 M F (λb=>b<w.heap.size) (cI F A) w w' h (Kp.cD hb λ_ hb=>hb) (λ_ d _=>d) (λb a=>by
  rcases a with a|a
  .exact abO (fl b a) hb.size
  .exact(c b a).2) (λr d e hc=>by
  rcases hc with hc|hc
  .exact e hc
  .have:=(c r hc).1;omega)
theorem xC(num:Int)(self:Bool)(L:List cP):(dC num self L).2.length<=L.length/\∀p∈(dC num self L).2,p∈L:=by
 suffices h:∀(st:List Int×List cP),(L.foldl (fC num self) st).2.length<=st.2.length+L.length/\∀p∈(L.foldl (fC num self) st).2,p∈st.2\/p∈L by
  have:=h ([num], []);refine⟨by unfold dC;simpa using this.1,λp hp=>?_⟩;rcases this.2 p hp with h1|h1
  .cases h1
  .exact h1
 induction L with
 |nil=>intro st;exact⟨aT,λp hp=> .inl hp⟩
 |cons x L c=>
  intro st;have h1:=c (fC num self st x);have d:(fC num self st x).2.length<=st.2.length+1/\∀p∈(fC num self st x).2,p∈st.2\/p=x:=by
   unfold fC;split
   .split
    .exact⟨aT,λp hp=>by simpa using hp⟩
    .exact⟨aT,λp hp=> .inl hp⟩
   .split
    .exact⟨aT,λp hp=>by simpa using hp⟩
    .exact⟨aT,λp hp=> .inl hp⟩
  refine⟨by simp only[ad4,acN];omega,λp hp=>?_⟩;rcases h1.2 p hp with a|a
  .rcases d.2 p a with b|b
   .exact .inl b
   .exact .inr (by simp[b])
  .exact .inr (by simp[a])
theorem KW.nD{k:Kv}(w:KW k)(num:Int)(self:Bool)(L:List cP):KW (gY k num self L):=⟨abT (EE _ _) w.t,w.b,by show 0<=(iA _ _).n/\(iA _ _).n<=_;rw[FR];exact w.cn,w.sd,w.be,w.n⟩
theorem jA.ZJ{s:Int}{l:List Int}(h:jA e l k k1)(b:eX k1.c e s=none):jA e (l++ [s]) k k1:=by
 induction h with
 |nil k=>exact .no b (.nil k)
 |no h r a=>first|exact .no h (a b)|exact .no h a
 |drop h L d r a=>first|exact .drop h L d (a b)|exact .drop h L d a
theorem jA.snoc{s:Int}{l:List Int}(h:jA e l k k1)(d:eX k1.c e s=some i)(L:List cP)(f:xY k1 L):jA e (l++ [s]) k (gY k1 (bG k1.c i).nu true L):=by
 induction h with
 |nil k=>exact .drop d L f (.nil _)
 |no h r a=>first|exact .no h (a d f)|exact .no h a
 |drop h g b r a=>first|exact .drop h g b (a d f)|exact .drop h g b a
theorem eQ.mono(h:eQ F w g C)(a:∀b,G b->F b):eQ G w g C:=⟨h.b,h.len,λb hb=>h.fl b (a b hb),λhf=>h.fg (a _ hf)⟩
theorem IT{a:Ka}(h:bT F w g a k)(hw:KW k)(e s:Int):aG prog 149 #[.pointer a.gc,e,s] w λx w'=>
 (eX k.c e s=none/\x= .returned (.tuple #[bH, .int .i64 23])/\bT F w' g a k/\Kp F w w')\/
 (∃i A c L,eX k.c e s=some i/\x= .returned (.tuple #[.slice A (dC (bG k.c i).nu true L).2.length c,aU])/\xY k L/\bI oK 5 w' w.heap.size 156 A c (dC (bG k.c i).nu true L).2/\bT (cI F A) w' g a {k with c:=iA k.c (dC (bG k.c i).nu true L).2}/\Kp F w w'):=by
 obtain⟨G,d,back⟩:=h.Sy;have hd:=Ek d e s;cases hf:eX k.c e s with
 |none=>
  rw[hf] at hd;refine hd.mono ?_;rintro x w' ⟨rfl,hc,f⟩;obtain⟨h1,j⟩:=back k.c w' none (λq hq=>by cases hq) (hc.mono (λb hb=>by
   rcases hb with hb|hb
   .exact hb
   .cases hb)) f
  exact .inl ⟨rfl,rfl,h1.less (λb hb=> .inl hb),j⟩
 |some i=>
  rw[hf] at hd;refine hd.mono ?_;rintro x w' ⟨A,c,L,rfl,l,m,ho,hc,f⟩;obtain⟨h1,j⟩:=back _ _ A (λq hq=>(ho.lt q hq).1) (d.LR hc ho) f;exact .inr ⟨i,A,c,L,rfl,rfl,⟨l,m⟩,ho,h1,j⟩
end
section
theorem jA.kw{l:List Int}(h:jA e l k k')(w:KW k):KW k':=by
 induction h with
 |nil k=>exact w
 |no h r a=>exact a w
 |drop h L b r a=>exact a (w.nD _ _ _)
theorem nJ.kw{o:Int}(h:nJ e o k k')(w:KW k):KW k':=by
 cases h with
 |no h a=>rw[a];exact w
 |keep h r b=>exact r.kw w
 |fY h r b c=>exact c.kw (r.kw w)
theorem WV(k:Kv)(e o:Int):(eV k e o).length<=16:=by
 unfold eV;exact abT (afK _ _) (EC _ _)
theorem Dd{a:Ka}(h:bT F w g a k)(hw:KW k)(e o:Int):aG prog 108 #[.pointer g,e,o] w λr w'=>∃k',nJ e o k k'/\gK F g k' (.tuple #[]) w r w':=by
 have HS:=aP (CV h e o);have HM:=aP h;have HW:=aP hw;have h16:=WV k e o;have HR0:aH (eV k e o= []->nJ e o k k):=λh=> .no h rfl
 have HR1:aH (∀k',eV k e o≠[]->jA e (eV k e o) k k'->kY k' o=true->nJ e o k k'):=λk' h r C=> .keep h r C
 have HR2:aH (∀d k',eV k e o≠[]->jA e (eV k e o) k d->kY d o=false->kD d o k'->nJ e o k k'):=λd k' h r C r2=> .fY h r C r2
 generalize eV k e o=S at *;clear h hw;go_enter func108,ntmps108
 go_wp2_with fail
 refine aR HS ?_;rintro x Y ⟨A,c,rfl,own,D⟩;obtain⟨n,Z⟩:∃n,n=S.length:=⟨_,rfl⟩
 have HN:=aP Z;rw[<-Z];rw[<-Z] at h16;have H1:=aP (dV.row (bT.cH g a k) HM.o HM.o.fl D (λq hq=>own.lt q hq));have E:=aP (HM.o.below D).2;have HA:=aP own;clear Z own D HS;by_cases y:n=0
 .have K:((n:Int)==0)=true:=by simp[y]
  have HE:aH (∃k',nJ e o k k'/\gK F g k' (.tuple #[]) w (.returned (.tuple #[])) Y):=⟨k,HR0.o (acM (by rw[<-HN.o];exact y)),rfl,⟨a,H1.o.less (λb hb=> .inl hb)⟩,E.o⟩
  clear y;go_wp2_with fail
  refine bodyPost_ret (v:= .tuple #[]) (by simp[results,results108,go_sem]) rfl ?_;exact HE.o
 .have K:((n:Int)==0)=false:=by rw[af7];omega
  have M:aH (S≠[]):=λe=>y (by rw[HN.o,e];rfl)
  go_wp2_with fail
  go_loopw [20] (λv20 wr=>∃i:Nat,v20= .int .i64 i/\i<=n/\aH (∃k',jA e (S.take i) k k'/\KM (cI F A) wr g k'/\Kp (cI F A) Y wr)) (λv20 _=>n - (aL v20).toNat)
  case atStart=>exact⟨0,rfl,abX _,k, .nil k,⟨a,H1.o⟩,Kp.refl _ _⟩
  case round=>
   clear H1;obtain⟨i,rfl,hi,HX⟩:=hrel;obtain⟨d,B,⟨a1,h1⟩,hK⟩:=HX.o;by_cases hkn:i<n
   .have z:i<S.length:=by rw[<-HN.o];exact hkn
    have hA:=HA.o.kp hK (λq hq=> .inr hq);obtain⟨q,rfl⟩:∃q,A=some ⟨q,0,none⟩:=by
     rcases hA.shape with⟨_,C,_⟩|C
     .rw[C] at z;simp at z
     .exact C
    have e0:=bN gJ hA z (j:=0) (v:= .int .i64 S[i]) rfl;rw[adQ,acC] at e0;have k0:(0:Int)<=i:=aQ;have k2:(i:Int)<(n:Int):=aQ;have N:aH (S.take (i+1)=S.take i++ [S[i]]):=by unfold aH;rw[acV,abL z];rfl
    generalize S[i]=s at *;have pc:=h1.pc;unfold pA at pc;have G:=aP (IT h1 (B.kw HW.o) e s);have HD:=bP B hK;have O:=B.kw HW.o;have H:=aP O;clear hA B h1 hK HX O;go_wp2_with fail
    refine aR G ?_;rintro x P (⟨hf,rfl,Q,R⟩|⟨j,A3,c3,L,hf,rfl,hO,T,Q,R⟩)
    .have u:aH (∃k',jA e (S.take (i+1)) k k'/\KM (cI F (some ⟨q,0,none⟩)) P g k'/\Kp (cI F (some ⟨q,0,none⟩)) Y P):=⟨d,by rw[N.o];exact HD.o.1.ZJ hf,⟨_,Q⟩,HD.o.2.trans R⟩
     clear hf Q R G HD;go_wp2_with fail
     go_roundw
     case rel=>exact⟨i+1,by go_num,aQ,u.o⟩
     case measure=>simp[aL];omega
    .have l:=xC (bG d.c j).nu true L;have hlen:(dC (bG d.c j).nu true L).2.length<=128:=abT l.1 (by rw[hO.1.length_eq];exact CU _);have HG:=aP (AI Q H.o.t T (λq hq=> .inr hq) aQ (λp hp=>LH (hO.1.mem_iff.1 (l.2 p hp))));have u:=bP (HD.o.1.snoc hf L hO) R;clear hf hO T Q R G l;generalize hm:(dC (bG d.c j).nu true L).2.length=m at *;clear hm;go_wp2_with fail
     refine aR HG ?_;rintro x w4 ⟨rfl,U,k4⟩;have H4:aH (∃k',jA e (S.take (i+1)) k k'/\KM (cI F (some ⟨q,0,none⟩)) w4 g k'/\Kp (cI F (some ⟨q,0,none⟩)) Y w4):=⟨_,by rw[N.o];exact u.o.1,U.less (λb hb=> .inl hb),HD.o.2.trans (u.o.2.trans (k4.mono (λb hb=> .inl hb)))⟩
     clear U k4 u HG HD;go_wp2_with fail
     go_roundw
     case rel=>exact⟨i+1,by go_num,aQ,H4.o⟩
     case measure=>simp[aL];omega
   .obtain rfl:i=n:=aQ;have k1':¬(i:Int)<(i:Int):=aQ;have V:S.take i=S:=ab8 (by rw[<-HN.o];exact abM _);rw[V] at B;have HH:=aP (QG h1 o);have H:=aP (B.kw HW.o);have HD:=bP B hK;have I:=aP h1;clear V B hK h1 HX;cases J:kY d o with
    |true=>
     rw[J] at HH;have HT:=aP (HR1.o d M.o HD.o.1 J);clear J;go_wp2_with fail
     refine aR HH ?_;rintro x P ⟨rfl,f⟩;have u:aH (∃k',nJ e o k k'/\gK F g k' (.tuple #[]) w (.returned (.tuple #[])) P):=⟨d,HT.o,rfl,⟨a1,(I.o.below f).1.less (λb hb=> .inl hb)⟩,E.o.trans ((HD.o.2.trans (I.o.below f).2).mono (λb hb=> .inl hb))⟩
     clear f;go_wp2_with fail
     go_end0
     exact u.o
    |false=>
     rw[J] at HH;have HT:=aP (λk'=>HR2.o d k' M.o HD.o.1 J);clear J;go_wp2_with fail
     refine aR HH ?_;rintro x P ⟨rfl,f⟩;have u:=aP (I.o.below f);have HL:=aP (FD u.o.1 H.o o);clear f;go_wp2_with fail
     refine aR HL ?_;rintro x w4 ⟨k4,W,rfl,U,X⟩;have H4:aH (∃k',nJ e o k k'/\gK F g k' (.tuple #[]) w (.returned (.tuple #[])) w4):=⟨k4,HT.o _ W,rfl,U.less (λb hb=> .inl hb),E.o.trans ((HD.o.2.trans (u.o.2.trans X)).mono (λb hb=> .inl hb))⟩
     clear W U X;go_wp2_with fail
     go_end0
     exact H4.o
end
end
end Go.Proofs.YtacgiflhgdaeaaaGreat
