/- Texts laid as one. -/
import Derived.Test.YtacgiflhgdaeaaaGreatZ3
import Derived.Test.YtacgiflhgdaeaaaGreatZ27
import Derived.Test.YtacgiflhgdaeaaaGreatZ29
import Derived.Test.YtacgiflhgdaeaaaGreatZ32
set_option linter.unusedVariables false
set_option linter.unusedSimpArgs false
set_option maxRecDepth 100000
set_option maxHeartbeats 20000000
namespace Go.Proofs.YtacgiflhgdaeaaaGreat
open Go.Proofs.Tryz
variable{s z':Sd}{i:Nat}{v:Sv}{ka:List (Bk×Int)}{z t:Int}
section
section
def PH(d now:Int)(p:Pv)(e:Int):Prop:=(p.sv=none->e=0)/\∀v,p.sv=some v->∀d',min d (max (fF v) now)<=d'->d'<=d->e+4294967296 *kY v now d'<=eC v.bu v.pe *(d' - now)
structure Tp(s:Sd)(d:Int)(e:Nat->Int)(E:List (Bk×Int)):Prop where
 L:E.map Prod.fst=s.b.L
 p:∀x∈E,x.2<=x.1.sh *(min x.1.un d - s.nw)
 g:∀i p,s.P[i]?=some p->PH d s.nw p (e i)
 s:0<=e 0+e 1+e 2+e 3+(E.map Prod.snd).sum
def Gh(s:Sd)(d:Int):Prop:=∃e E,Tp s d e E
def J3(p:Pv):Int:=match p.sv with|none=>0|some v=>eC v.bu v.pe
def BW(s:Sd)(i:Nat):Int:=match s.P[i]? with|none=>0|some p=>J3 p
theorem gE.us(h:gE s)(c:s.P.length=4):s.b.us=BW s 0+BW s 1+BW s 2+BW s 3+gF s.b.L:=by
 have key:∀i:Nat,i<4->(s.b.f i).getD 0=BW s i:=λi hi=>by
  have hp:=aaG (l:=s.P) (i:=i) aQ;unfold BW J3;rw[h.has i _ hp,hp];simp only;cases s.P[i].sv <;> rfl
 have a:∀i:Nat,4<=i->(s.b.f i).getD 0=0:=λi hi=>by rw[h.o i aQ];rfl
 have e:=h.bk.all;unfold DB at e;have a0:(s.b.f 0).getD 0=_:=key 0 aQ;have d:(s.b.f 1).getD 0=_:=key 1 aQ;have a2:(s.b.f 2).getD 0=_:=key 2 aQ;have a3:(s.b.f 3).getD 0=_:=key 3 aQ;have a4:(s.b.f 4).getD 0=_:=a 4 aQ;have a5:(s.b.f 5).getD 0=_:=a 5 aQ;have g:(s.b.f 6).getD 0=_:=a 6 aQ;have j:(s.b.f 7).getD 0=_:=a 7 aQ;omega
theorem Gh.late(h:gE s)(t:s.P.length=4)(g:Gh s s.nw):∀p∈s.P,∀v,p.sv=some v->∀x∈v.ch,s.nw<x.de:=by
 obtain⟨e,E,g⟩:=g;have c:∀i p,s.P[i]?=some p->e i<=0/\∀v,p.sv=some v->e i+4294967296 *kY v s.nw s.nw<=0:=λi p hp=>by
  obtain⟨g1,g2⟩:=g.g i p hp;cases d:p.sv with
  |none=>exact⟨by rw[g1 d];exact ab0 _,λv h=>by cases h⟩
  |some v=>
   have:=g2 v d s.nw aQ (ab0 _);rw[Int.sub_self,Int.mul_zero] at this;have hd:=QX (h.sv p (aa1 hp) v d).b s.nw s.nw;exact⟨aQ,λu hu=>by injection hu with hu;subst hu;exact this⟩
 have z:(E.map Prod.snd).sum<=0:=by
  have hp:=g.p;have j:∀x∈E,0<=x.1.sh:=λx k=>h.bk.pn x.1 (by rw[<-g.L];exact adS k)
  clear g c;induction E with
  |nil=>simp
  |cons x E l=>
   have h1:=hp x aT;have A:=l (λy f=>hp y (by simp[f])) (λy f=>j y (by simp[f]));have m:=rX (a:=x.1.sh) (j x aT) (show min x.1.un s.nw - s.nw<=0 by omega);rw[Int.mul_zero] at m;rw[adL,adM];omega
 have hs:=g.s;have all:∀i:Nat,i<4->∃p,s.P[i]?=some p:=λi hi=>⟨_,aaG aQ⟩
 obtain⟨p0,n⟩:=all 0 aQ;obtain⟨p1,q1⟩:=all 1 aQ;obtain⟨p2,o⟩:=all 2 aQ;obtain⟨q,r⟩:=all 3 aQ;have a0:=(c 0 p0 n).1;have B:=(c 1 p1 q1).1;have a2:=(c 2 p2 o).1;have a3:=(c 3 q r).1;intro p hp v d;obtain⟨i,hi,rfl⟩:=aa2 hp;have hq:=aaG hi;have hd:=(c i _ hq).2 v d;have he:e i=0:=by
  have:i=0\/i=1\/i=2\/i=3:=aQ;rcases this with rfl|rfl|rfl|rfl <;> omega
 exact Jp (h.sv _ hp v d).b aQ
theorem Gh.zT{d:Int}(g:Gh s d)(i:Nat)(r:Bool):Gh (FD s i r) d:=by
 obtain⟨e,E,g⟩:=g;refine⟨e,E,g.L,g.p,λj q hq=>?_,g.s⟩;obtain⟨p,hp,he⟩:=get_modify hq;have:=g.g j p hp;rw[he];split
 .exact this
 .exact this
theorem Y6(bu pe:Int):fF (lK bu pe)=0:=CP rfl
theorem Gh.res{d:Int}(h:gE s)(g:Gh s d)(hd:s.nw<=d)(hi:i<s.P.length)(bu pe:Int):Gh (pK s i bu pe) d:=by
 unfold pK;split
 .rename_i he;have l:mY bu pe=true/\s.b.f i=none:=by
   unfold lI at he;split at he
   .rename_i l;split at he
    .cases he
    .rename_i t;exact⟨l,by cases m:s.b.f i with|none=>rfl|some v=>rw[m] at t;simp at t⟩
   .cases he
  have hp:=aaG hi;have c:s.P[i].sv=none:=by
   have:=h.has i _ hp;rw[l.2] at this;cases k:s.P[i].sv with
   |none=>rfl
   |some v=>rw[k] at this;simp at this
  obtain⟨e,E,g⟩:=g;have n:=(g.g i _ hp).1 c;refine⟨e,E,?_,g.p,λj q hq=>?_,g.s⟩
  .rw[g.L];unfold pI;rw[aaK he]
  .obtain⟨p,o,a⟩:=get_modify hq;by_cases u:j=i
   .subst u;rw[aaK rfl] at a;subst a;refine⟨λh=>by simp at h,λv k r h1 y=>?_⟩;injection k with k;subst k;rw[Y6] at h1;have x:=xI l.1;have A:=h.nw.1;simp only at h1⊢;have:=NZ (z:=r - s.nw) x aQ;rw[Mq,n];show 0+4294967296 *(bu *kC (r - s.nw) pe)<=eC bu pe *(r - s.nw);omega
   .rw[aaL u] at a;subst a;exact g.g j q o
 .exact g
theorem Nn(e:Nat->Int)(hi:i<4)(x:Int):(λj=>if j=i then x else e j) 0+(λj=>if j=i then x else e j) 1+(λj=>if j=i then x else e j) 2+(λj=>if j=i then x else e j) 3=e 0+e 1+e 2+e 3 - e i+x:=by
 have:i=0\/i=1\/i=2\/i=3:=aQ;rcases this with rfl|rfl|rfl|rfl <;> simp <;> omega
theorem sum_add(e f:Nat->Int)(hi:i<4):(λj=>e j - f j+if j=i then 4294967296 else 0) 0+(λj=>e j - f j+if j=i then 4294967296 else 0) 1+(λj=>e j - f j+if j=i then 4294967296 else 0) 2+(λj=>e j - f j+if j=i then 4294967296 else 0) 3=e 0+e 1+e 2+e 3 - (f 0+f 1+f 2+f 3)+4294967296:=by
 have:i=0\/i=1\/i=2\/i=3:=aQ;rcases this with rfl|rfl|rfl|rfl <;> simp <;> omega
theorem Gh.rel{d:Int}(h:gE s)(B:s.nw<=s.b.bn+1)(C:s.P.length=4)(g:Gh s d)(hd:s.nw<=d){p:Pv}(hp:s.P[i]?=some p)(l:p.sv=some v):Gh (rG s i v) d:=by
 obtain⟨e,E,g⟩:=g;have hi:i<4:=by rw[<-C];exact(aaX.1 hp).1
 have o:s.b.f i=some (eC v.bu v.pe):=by rw[h.has i p hp,l];rfl
 have c:=h.sv p (aa1 hp) v l;have r:=(g.g i p hp).2 v l;have t:∀j q,(rG s i v).P[j]?=some q->PH d s.nw q (if j=i then 0 else e j):=λj q hq=>by
  obtain⟨G,m,a⟩:=get_modify hq;by_cases y:j=i
  .rw[aaK y] at a⊢;subst a;exact⟨λ_=>rfl,λu hu=>by simp at hu⟩
  .rw[aaL y] at a⊢;subst a;exact g.g j q m
 have hs:=Nn e hi 0;by_cases z:s.b.bn<fF v
 .have n:(rG s i v).b.L=s.b.L++ [⟨eC v.bu v.pe,fF v⟩]:=by
   unfold rG pL;rw[o];simp only;rw[aaK z]
  refine⟨λj=>if j=i then 0 else e j,E++ [(⟨eC v.bu v.pe,fF v⟩,e i)],by rw[n,aeJ,g.L];rfl,λx k=>?_,t,?_⟩
  .rcases aa8.1 k with k|k
   .exact g.p x k
   .rw[aaZ.1 k];simp only;have D:0<=fF v:=(tV.1 (ab0 (fF v))).1;have h1:=r (min d (max (fF v) s.nw)) (ab0 _) aQ;have A:=QX c.b s.nw (min d (max (fF v) s.nw));have F:min d (max (fF v) s.nw)=min (fF v) d:=aQ;rw[F] at h1 A;show e i<=eC v.bu v.pe *(min (fF v) d - s.nw);omega
  .rw[aeJ,List.sum_append,hs];have:=g.s;simp only[adL,ae9,adM,List.sum_nil];omega
 .have n:(rG s i v).b.L=s.b.L:=by
   unfold rG pL;rw[o];simp only;rw[aaL z]
  have h1:=r s.nw (by have:=h.bn;omega) hd;have A:=QX c.b s.nw s.nw;rw[Int.sub_self,Int.mul_zero] at h1;refine⟨λj=>if j=i then 0 else e j,E,by rw[n,g.L],g.p,t,?_⟩;rw[hs];have:=g.s;omega
theorem D8(P:List Pv):∀k,fU P k=none->∀i,i<k->P[i]?.bind iT=none
 |0,_,i,hi=>by omega
 |k+1,h,i,hi=>by
  unfold fU at h;cases hd:P[k]?.bind iT with
  |none=>
   rw[hd] at h;by_cases hk:i=k
   .subst hk;exact hd
   .exact D8 P k h i aQ
  |some d=>
   rw[hd] at h;simp only at h;cases hk:fU P k with
   |none=>rw[hk] at h;simp at h
   |some q=>rw[hk] at h;simp only at h;split at h <;> simp at h
theorem JV(P:List Pv):∀k j D,fU P k=some (j,D)->∀i,i<k->∀d,P[i]?.bind iT=some d->D<=d
 |0,_,_,_,i,hi=>by omega
 |k+1,j,D,h,i,hi=>by
  intro d a;unfold fU at h;cases hd:P[k]?.bind iT with
  |none=>
   rw[hd] at h;by_cases hk:i=k
   .subst hk;rw[hd] at a;cases a
   .exact JV P k j D h i aQ d a
  |some d2=>
   rw[hd] at h;simp only at h;cases hk:fU P k with
   |none=>
    rw[hk] at h;simp only[adN,Prod.mk.injEq] at h;by_cases b:i=k
    .subst b;rw[hd] at a;injection a with a;omega
    .rw[D8 P k hk i aQ] at a;cases a
   |some q=>
    obtain⟨e,f⟩:=q;rw[hk] at h;simp only at h;have c:=JV P k e f hk;split at h
    .simp only[adN,Prod.mk.injEq] at h;by_cases b:i=k
     .subst b;rw[hd] at a;injection a with a;omega
     .have:=c i aQ d a;omega
    .simp only[adN,Prod.mk.injEq] at h;by_cases b:i=k
     .subst b;rw[hd] at a;injection a with a;omega
     .have:=c i aQ d a;omega
structure NL(s:Sd):Prop where
 i:gE s
 p4:s.P.length=4
 bn:s.nw<=s.b.bn+1
 t:∀p∈s.P,∀v,p.sv=some v->IQ s.nw v
 g:∀d,s.nw<=d->Gh s d
structure Xe(s:Sd)(d:Int)(e:Nat->Int)(z:Sd):Prop where
 i:gE z
 len:z.P.length=4
 nw:z.nw=s.nw+1
 bn:z.b.bn=s.nw
 L:z.b.L=pG s.nw s.b.L
 sh:∀i,BW z i=BW s i
 c:∀p∈z.P,∀v,p.sv=some v->mE s.nw v/\(∀x∈v.ch,s.nw<x.de/\x.de<=s.nw+v.pe)/\∀r∈v.rf,s.nw<r.at_/\r.at_<=s.nw+v.pe
 g:∀i p,z.P[i]?=some p->(p.sv=none->e i=0)/\∀v,p.sv=some v->∀d',min d (max (fF v) (s.nw+1))<=d'->d'<=d->e i+4294967296 *kY v s.nw d'<=eC v.bu v.pe *(d' - s.nw)
theorem NL.Zd(N:NL s)(o:s.nw<1048576){d:Int}{e:Nat->Int}(g:Tp s d e ka):Xe s d e (dC s):=by
 have r:=N.i.nw.1;have c:(dC s).b={s.b with bn:=s.nw,us:=s.b.us - gF (lJ s.nw s.b.L),L:=pG s.nw s.b.L}:=by
  show jZ s.b s.nw=_;unfold jZ;rw[aaL (by have:=N.i.bn;omega)]
 have j:∀(i:Nat) (q:Pv),(dC s).P[i]?=some q->∃p,s.P[i]?=some p/\q=iS s.nw p:=λi q hq=>by
  have hq:(s.P.map (iS s.nw))[i]?=some q:=hq;rw[ab7] at hq;cases hp:s.P[i]? with
  |none=>rw[hp] at hq;cases hq
  |some p=>rw[hp] at hq;exact⟨p,rfl,by simpa using hq.symm⟩
 have k:∀(i:Nat) (q:Pv),(dC s).P[i]?=some q->∀u,q.sv=some u->∃p v,s.P[i]?=some p/\p.sv=some v/\u=dE v s.nw p.rd/\u.bu=v.bu/\u.pe=v.pe/\mE s.nw u:=λi q hq u hu=>by
  obtain⟨p,hp,rfl⟩:=j i q hq;cases a:p.sv with
  |none=>simp[iS,a] at hu
  |some v=>
   simp[iS,a] at hu;have c:=N.i.OP (aa1 hp) a;exact⟨p,v,hp,a,hu.symm,by rw[<-hu];exact c.2.2.1,by rw[<-hu];exact c.2.2.2,by rw[<-hu];exact c.1⟩
 refine⟨(N.i.step o).1,(uK s).trans N.p4,rfl,by rw[c],by rw[c],λi=>?_,λq hq u hu=>?_,λi q hq=>⟨λhu=>?_,λu hu l h1 x=>?_⟩⟩
 .unfold BW;have y:(dC s).P[i]?=(s.P[i]?).map (iS s.nw):=ab7 ..;rw[y];cases hp:s.P[i]? with
  |none=>rfl
  |some p=>
   simp only[abL];unfold J3;cases a:p.sv with
   |none=>simp[iS,a]
   |some v=>
    have c:=N.i.OP (aa1 hp) a;simp[iS,a,c.2.2]
 .obtain⟨i,hi,rfl⟩:=aa2 hq;obtain⟨p,v,hp,a,rfl,m,h,n⟩:=k i _ (aaG hi) u hu;have hm:=aa1 hp;have z:=(N.t p hm v a).begin (N.i.sv p hm v a) p.rd;rw[h];exact⟨n,z⟩
 .obtain⟨p,hp,rfl⟩:=j i q hq;refine(g.g i p hp).1 ?_;cases a:p.sv with
  |none=>rfl
  |some v=>simp[iS,a] at hu
 .obtain⟨p,v,hp,a,rfl,m,h,n⟩:=k i q hq u hu;have hm:=aa1 hp;have f:=N.i.sv p hm v a;have A:=W7 f p.rd;have hd:=Eh f r p.rd l;have:=(g.g i p hp).2 v a l aQ x;rw[m,h];omega
theorem N4{L:List Bk}(c:∀p∈L,0<=p.sh){now d:Int}:∀(E:List (Bk×Int)),(∀x∈E,x.1∈L)->(∀x∈E,x.2<=x.1.sh *(min x.1.un d - now))->(E.map Prod.snd).sum<=((E.filter λx=>!decide (x.1.un<=now)).map Prod.snd).sum
 | [],_,_=>by simp
 |x::E,h1,h2=>by
  have f:=N4 c (now:=now) (d:=d) E (λy b=>h1 y (by simp[b])) (λy b=>h2 y (by simp[b]));have g:=h2 x aT;have hs:=c x.1 (h1 x aT);rw[adL,adM,List.filter_cons];split
  .rw[adL,adM];omega
  .rename_i hu;have hu:x.1.un<=now:=by simpa using hu
   have e:=rX (a:=x.1.sh) hs (show min x.1.un d - now<=0 by omega);rw[Int.mul_zero] at e;omega
theorem R3:∀E:List (Bk×Int),((E.map λx=>(x.1,x.2 - x.1.sh)).map Prod.snd).sum=(E.map Prod.snd).sum - gF (E.map Prod.fst)
 | []=>by simp[gF]
 |x::E=>by
  have a:=R3 E;simp only[adL,adM,AG];simp only[List.map_map] at a⊢;omega
theorem N0:∀E:List (Bk×Int),((E.map λx=>(x.1,(0:Int))).map Prod.snd).sum=0
 | []=>rfl
 |x::E=>by
  have a:=N0 E;simp only[adL,adM];omega
theorem SB(f:Bk×Int->Int)(E:List (Bk×Int)):(E.map λx=>(x.1,f x)).map Prod.fst=E.map Prod.fst:=by
 rw[List.map_map];rfl
theorem E9(now:Int)(E:List (Bk×Int)):(E.filter λx=>!decide (x.1.un<=now)).map Prod.fst=pG now (E.map Prod.fst):=by
 unfold pG;rw[List.filter_map];rfl
theorem TR{p:Pv}(a:p.sv=some v){x:Ck}{xs:List Ck}(hc:v.ch=x::xs):iT p=some x.de:=by
 unfold iT xV;rw[a];simp[hc]
theorem FP{z:Sd}{d:Int}{e:Nat->Int}(N:NL s)(g:Tp s d e ka)(B:Xe s d e z)(hd:s.nw+1<=d)(k:z'.b=z.b)(hw:z'.nw=z.nw)
 (l:∀(i:Nat) (p:Pv),z'.P[i]?=some p->∀v,p.sv=some v->qE v/\(∀x∈v.ch,d<x.de)/\∀r∈v.rf,s.nw+1<=r.at_):Gh z' d:=by
 refine⟨λ_=>0,(ka.filter λx=>!decide (x.1.un<=s.nw)).map λx=>(x.1,0),?_,λx a=>?_,λi p hp=>⟨λ_=>rfl,λv m h h1 o=>?_⟩,?_⟩
 .rw[SB,E9,g.L,k,B.L]
 .obtain⟨y,n,rfl⟩:=ac1.1 a;obtain⟨c,f⟩:=acW.1 n;have hu:¬y.1.un<=s.nw:=by simpa using f
  have hs:0<=y.1.sh:=N.i.bk.pn y.1 (by rw[<-g.L];exact adS c);rw[hw,B.nw];show 0<=y.1.sh *(min y.1.un d - (s.nw+1));exact adE hs aQ
 .obtain⟨j,a2,a3⟩:=l i p hp v m;rw[hw,B.nw] at h1⊢;have q:=Av (t:=s.nw+1) (d:=h) j (λx a=>by have:=a2 x a;omega) a3;have u:=NZ (z:=h - (s.nw+1)) j.bu aQ;omega
 .rw[N0];omega
theorem Gh.tick(N:NL s)(U:s.nw<1048576){d:Int}(hd:s.nw+1<=d):Gh (cI s).2 d:=by
 obtain⟨e,E,g⟩:=N.g d aQ;have B:=N.Zd U g;have V:=B.i.us B.len;have hle:=B.i.bk.top;unfold cI;generalize dC s=z at *;have n:(∀j,j<4->z.P[j]?.bind iT=none\/∃D,z.P[j]?.bind iT=some D/\d<D)->∀(i:Nat) (p:Pv),z.P[i]?=some p->∀v,p.sv=some v->qE v/\(∀x∈v.ch,d<x.de)/\∀r∈v.rf,s.nw+1<=r.at_:=λt i p hp v o=>by
  obtain⟨c1,c2,c3⟩:=B.c p (aa1 hp) v o;refine⟨c1.b,λx F=>?_,λr W=>by have:=(c3 r W).1;omega⟩;have hi:i<4:=by rw[<-B.len];exact(aaX.1 hp).1
  have t:=t i hi;rw[hp] at t;simp only[aeU] at t;cases hc:v.ch with
  |nil=>rw[hc] at F;simp at F
  |cons y ys=>
   rw[TR o hc] at t;have J:d<y.de:=by
    rcases t with t|⟨D,t,h⟩
    .cases t
    .injection t with t;omega
   rw[hc] at F;rcases acD.1 F with rfl|F
   .exact J
   .have:=c1.b.ord;rw[hc] at this;have:=(ac2.1 this).1 x F;omega
 rw[show s.P.length=4 from N.p4];cases K:fU z.P 4 with
 |none=>
  have X:=D8 z.P 4 K;have:=n λj C=> .inl (X j C)
  simp only;split
  .exact FP N g B hd rfl rfl this
  .exact FP N g B hd rfl rfl this
 |some q=>
  obtain⟨i,D⟩:=q;simp only;obtain⟨hi,l⟩:=wA _ _ _ _ K;have H:=JV _ _ _ _ K;cases hp:z.P[i]? with
  |none=>rw[hp] at l;cases l
  |some p=>
   rw[hp] at l;simp only[aeU] at l;cases o:p.sv with
   |none=>simp[iT,o] at l
   |some v=>
    obtain⟨x,xs,m⟩:∃x xs,v.ch=x::xs:=by
     cases hc:v.ch with
     |nil=>simp[iT,o,xV,hc] at l
     |cons x xs=>exact⟨x,xs,rfl⟩
    rw[TR o m] at l;injection l with l;obtain⟨c1,c2,c3⟩:=B.c p (aa1 hp) v o;have Y:=(c1.b.ch x (by rw[m];simp)).2;obtain⟨r1,Z,r3⟩:=c1.run m;by_cases S:D<=d
    ·
     refine⟨λj=>e j - BW z j+if j=i then 4294967296 else 0,(E.filter λx=>!decide (x.1.un<=s.nw)).map λx=>(x.1,x.2 - x.1.sh),?_,λy J=>?_,λj q hq=>?_,?_⟩
     .show _=z.b.L;rw[SB,E9,g.L,B.L]
     .obtain⟨y,M,rfl⟩:=ac1.1 J;have:=g.p y (acW.1 M).1;show y.2 - y.1.sh<=y.1.sh *(min y.1.un d - z.nw);rw[B.nw,show min y.1.un d - (s.nw+1)=min y.1.un d - s.nw - 1 by omega,Int.mul_sub,aeT];omega
     .obtain⟨O,f,k⟩:=get_modify hq;have Q:=B.g j O f;have R:BW z j=J3 O:=by unfold BW;rw[f]
      show PH d z.nw q _;rw[B.nw,R];by_cases C:j=i
      .subst C;rw[hp] at f;injection f with f;subst f;rw[aaK rfl] at k⊢;refine⟨λh=>by rw[k] at h;simp[sL,o] at h,λu hu A h1 I=>?_⟩;rw[k] at hu;simp[sL,o] at hu;subst hu;obtain⟨l1,l2⟩:=Es c1.b m;have hs:J3 p=eC v.bu v.pe:=by unfold J3;rw[o]
       have h3:=Q.2 v o A aQ I;have h4:=Nu c1.b m s.nw A aQ;have h5:=NO r1.b (show s.nw<=s.nw+1 by omega) A;rw[Z,r3,hs,show A - (s.nw+1)=A - s.nw - 1 by omega,Int.mul_sub,aeT];omega
      .rw[aaL C] at k⊢;subst k;refine⟨λh=>by rw[Q.1 h];unfold J3;rw[h];rfl,λu hu A h1 I=>?_⟩;have hs:J3 q=eC u.bu u.pe:=by unfold J3;rw[hu]
       have h3:=Q.2 u hu A h1 I;have h5:=NO (B.c q (aa1 f) u hu).1.b (show s.nw<=s.nw+1 by omega) A;rw[hs,show A - (s.nw+1)=A - s.nw - 1 by omega,Int.mul_sub,aeT];omega
     .rw[R3,E9,g.L,<-B.L];have h1:=N4 (L:=s.b.L) N.i.bk.pn (now:=s.nw) (d:=d) E (λx F=>by rw[<-g.L];exact adS F) g.p;have I:=g.s;rw[sum_add e (BW z) hi];omega
    ·
     have G:=n λj C=>by
      cases hq:z.P[j]?.bind iT with
      |none=>exact .inl rfl
      |some T=>exact .inr ⟨T,rfl,by have:=H j C T hq;omega⟩
     refine FP N g B hd rfl rfl λj q hq u hu=>?_
     obtain⟨O,f,k⟩:=get_modify hq;by_cases C:j=i
     .subst C;rw[hp] at f;injection f with f;subst f;rw[aaK rfl] at k;rw[k] at hu;simp[sL,o] at hu;subst hu;obtain⟨a1,a2,a3⟩:=G j p hp v o;exact⟨r1.b,ZX m (p:=λz=>d<z) a2,Au m (p:=λz=>s.nw+1<=z) (by have:=a2 x (by rw[m];simp);omega) a3⟩
     .rw[aaL C] at k;subst k;exact G j q f u hu
end
section
def mQ(z:Int)(l:List Ck):Int:=(l.map λx=>if x.de<z then x.lf else 0).sum
def pO(z:Int)(l:List Ck):Int:=(l.map λx=>if z<=x.de then x.lf else 0).sum
def nN(z:Int)(l:List Ck):Int:=(l.map λx=>if z<=x.de then x.us else 0).sum
def mD(z:Int)(l:List Rl):Int:=(l.map λr=>if z<=r.at_ then r.am else 0).sum
theorem r8(z:Int)(x:Ck)(l:List Ck):mQ z (x::l)=(if x.de<z then x.lf else 0)+mQ z l:=by simp[mQ]
theorem sD(z:Int)(x:Ck)(l:List Ck):pO z (x::l)=(if z<=x.de then x.lf else 0)+pO z l:=by simp[pO]
theorem oV(z:Int)(x:Ck)(l:List Ck):nN z (x::l)=(if z<=x.de then x.us else 0)+nN z l:=by simp[nN]
theorem AD(z:Int)(x:Rl)(l:List Rl):mD z (x::l)=(if z<=x.at_ then x.am else 0)+mD z l:=by simp[mD]
theorem YK(z:Int)(x:Ck)(l:List Ck):mQ z (l++ [x])=mQ z l+(if x.de<z then x.lf else 0):=by simp[mQ]
theorem KH(z:Int)(x:Ck)(l:List Ck):pO z (l++ [x])=pO z l+(if z<=x.de then x.lf else 0):=by simp[pO]
theorem OG(z:Int)(x:Ck)(l:List Ck):nN z (l++ [x])=nN z l+(if z<=x.de then x.us else 0):=by simp[nN]
theorem OA(z:Int)(x:Rl)(l:List Rl):mD z (l++ [x])=mD z l+(if z<=x.at_ then x.am else 0):=by simp[mD]
theorem tO(z:Int){l:List Ck}(h:∀x∈l,1<=x.lf/\0<=x.us):0<=mQ z l/\0<=pO z l/\0<=nN z l/\mQ z l+pO z l+nN z l<=mM l:=by
 induction l with
 |nil=>simp[mQ,pO,nN,mM]
 |cons x l b=>
  have h1:=h x aT;have d:=b λy c=>h y (by simp[c])
  rw[r8,sD,oV,kP];by_cases a:z<=x.de
  .rw[aaL aQ,aaK a,aaK a];omega
  .rw[aaK aQ,aaL a,aaL a];omega
theorem DG(z:Int){l:List Rl}(h:∀r∈l,0<=r.am):0<=mD z l/\mD z l<=lA l:=by
 induction l with
 |nil=>simp[mD,lA]
 |cons x l a=>
  have h1:=h x aT;have c:=a λy b=>h y (by simp[b])
  rw[AD,rN];split <;> omega
theorem CN{l:List Ck}(h:∀x∈l,x.de<z):pO z l=0/\nN z l=0:=by
 induction l with
 |nil=>exact⟨rfl,rfl⟩
 |cons x l a=>
  have h1:=h x aT;have c:=a λy b=>h y (by simp[b])
  rw[sD,oV,aaL aQ,aaL aQ];omega
theorem US{l:List Ck}(h:∀x∈l,z<=x.de):mQ z l=0/\pO z l+nN z l=mM l:=by
 induction l with
 |nil=>exact⟨rfl,rfl⟩
 |cons x l a=>
  have h1:=h x aT;have c:=a λy b=>h y (by simp[b])
  rw[r8,sD,oV,kP,aaL aQ,aaK h1,aaK h1];omega
theorem AE{l:List Rl}(h:∀r∈l,r.at_<z):mD z l=0:=by
 induction l with
 |nil=>rfl
 |cons x l a=>
  have h1:=h x aT;have b:=a λy c=>h y (by simp[c])
  rw[AD,aaL aQ,b];rfl
theorem Z3{l:List Rl}(h:∀r∈l,z<=r.at_):mD z l=lA l:=by
 induction l with
 |nil=>rfl
 |cons x l a=>
  have h1:=h x aT;have b:=a λy c=>h y (by simp[c])
  rw[AD,rN,aaK h1,b]
theorem JD{now:Int}(a:now<z):∀(l:List Rl) (av:Int),mD z (jL now av l).2=mD z l
 | [],_=>rfl
 |r::l,av=>by
  unfold jL;split
  .rw[JD a l,AD,aaL aQ];omega
  .rfl
theorem LL(z:Int):∀(l:List Ck) (v:Sv),mD z (l.foldl dS v).rf=mD z v.rf+nN z l
 | [],v=>by simp[nN]
 |x::l,v=>by
  rw[ac7,LL z l,oV];unfold dS gU;split
  .rename_i hu;simp only;rw[hu];split <;> omega
  .simp only;rw[OA];simp only;omega
def MI(v:Sv)(t a C:Int):Prop:=∃j:Int,0<=j/\a+j *v.pe<=t/\t<a+j *v.pe+v.pe/\C+mQ (a+j *v.pe+v.pe) v.ch<=v.bu *(j+1)+(nN (a+j *v.pe+v.pe) v.ch+mD (a+j *v.pe+v.pe) v.rf)
def LI(v:Sv)(t a C:Int):Prop:=(a<t->v.av=0)/\∃j:Int,0<=j/\a+j *v.pe<=t/\t<a+j *v.pe+v.pe/\v.bu *j+(pO (a+j *v.pe+v.pe) v.ch+nN (a+j *v.pe+v.pe) v.ch+mD (a+j *v.pe+v.pe) v.rf)<=C+pO (a+v.pe) v.ch
theorem MI.new(h:qE v)(t:Int):MI v t t 0:=by
 have a:=h.bu;obtain⟨h1,b,c,d⟩:=tO (t+0 *v.pe+v.pe) h.ch;have e:=DG (t+0 *v.pe+v.pe) h.rf;have f:=yK h.rf;have g:=h.all;have i:=h.av;exact⟨0,aQ,aQ,aQ,by rw[show(0:Int)+1=1 from rfl,aeT];omega⟩
theorem LI.new(h:qE v)(b:IQ t v):LI v t t 0:=by
 have g:=h.bu;have e:t+0 *v.pe+v.pe=t+v.pe:=aQ;obtain⟨h1,d⟩:=CN (z:=t+v.pe) (l:=v.ch) λx a=>(b.c x a).2
 have f:=AE (z:=t+v.pe) (l:=v.rf) λx a=>(b.r x a).2
 refine⟨λh=>by omega,0,aQ,aQ,aQ,?_⟩;rw[e,h1,d,f];omega
theorem M9(h:qE v)(t:Int):(dE v t true).ch=(if 0<(iN t v).av then v.ch++ [⟨(iN t v).av,0,t+v.pe⟩] else v.ch)/\(dE v t true).rf=(iN t v).rf/\(dE v t true).av=0/\(dE v t true).bu=v.bu/\(dE v t true).pe=v.pe:=by
 have:=(h.pop t).av;unfold dE;simp only[acY];split
 .exact⟨rfl,rfl,rfl,rfl,rfl⟩
 .exact⟨rfl,rfl,aQ,rfl,rfl⟩
theorem Od(t:Int):(dE v t false).ch= []/\(dE v t false).rf=(v.ch.foldl dS (iN t v)).rf:=by
 unfold dE;simp
theorem MI.begin{a C:Int}(h:mE t v)(f:0<=t)(m:MI v t a C)(rd:Bool):MI (dE v t rd) t a C:=by
 obtain⟨_,_,_,g,c⟩:=h.begin f rd;obtain⟨j,d,i,k,l⟩:=m;refine⟨j,d,by rw[c];exact i,by rw[c];exact k,?_⟩;rw[g,c];generalize n:a+j *v.pe+v.pe=z at *;have e:mD z (iN t v).rf=mD z v.rf:=JD aQ v.rf v.av;cases rd with
 |false=>
  obtain⟨b1,b2⟩:=Od (v:=v) t;have h1:=(tO z h.b.ch).1;rw[b1,b2,LL,e];simp only[mQ,nN,ae9,List.sum_nil] at *;omega
 |true=>
  obtain⟨b1,b2,b3,_⟩:=M9 h.b t;rw[b1,b2,e];split
  .rw[YK,OG];simp only;have o:0<=j *v.pe:=adE d (by have:=h.b.bu;omega);rw[aaL aQ];split <;> omega
  .exact l
theorem LI.begin{a C:Int}(h:mE t v)(l:0<=t)(m:LI v t a C):LI (dE v t true) t a C/\(dE v t true).av=0:=by
 obtain⟨b1,b2,b3,e,c⟩:=M9 h.b t;obtain⟨_,j,d,f,g,i⟩:=m;have n:=h.b.bu;refine⟨⟨λ_=>b3,j,d,by rw[c];exact f,by rw[c];exact g,?_⟩,b3⟩;have o:0<=j *v.pe:=adE d aQ;rw[e,c];generalize p:a+j *v.pe+v.pe=z at *;have k:mD z (iN t v).rf=mD z v.rf:=JD aQ v.rf v.av;rw[b1,b2,k];split
 .rw[KH,KH,OG];simp only;rw[aaK aQ,aaK aQ,aaK aQ];omega
 .exact i
theorem CI(h:qE v){x:Ck}{xs:List Ck}(hs:v.ch=x::xs)(z:Int):mQ z (iW v).ch=mQ z v.ch - (if x.de<z then 1 else 0)/\pO z (iW v).ch=pO z v.ch - (if z<=x.de then 1 else 0)/\nN z (iW v).ch+mD z (iW v).rf=nN z v.ch+mD z v.rf+(if z<=x.de then 1 else 0)/\(iW v).av=v.av:=by
 have a:=h.ch x (by rw[hs];simp);unfold iW;rw[hs];simp only;split
 .unfold gU;rw[aaL (by simp only;omega)];simp only;rw[r8,sD,oV,OA];simp only;refine⟨?_,?_,?_,by first|rfl|trivial⟩
  .split <;> omega
  .split <;> omega
  .split <;> omega
 .simp only;rw[r8,r8,sD,sD,oV,oV];simp only;refine⟨?_,?_,?_,by first|rfl|trivial⟩
  .split <;> omega
  .split <;> omega
  .split <;> omega
theorem MI.run{a C:Int}(h:mE t v){x:Ck}{xs:List Ck}(hs:v.ch=x::xs)(m:MI v t a C):MI (iW v) t a (C+1):=by
 obtain⟨_,e,c⟩:=h.run hs;obtain⟨j,f,g,i,k⟩:=m;refine⟨j,f,by rw[c];exact g,by rw[c];exact i,?_⟩;rw[e,c];obtain⟨r1,l,d,_⟩:=CI h.b hs (a+j *v.pe+v.pe);by_cases hd:x.de<a+j *v.pe+v.pe
 .rw[aaK hd] at r1;rw[aaL aQ] at d;omega
 .rw[aaL hd] at r1;rw[aaK aQ] at d;omega
theorem LI.run{a C:Int}(h:mE t v){x:Ck}{xs:List Ck}(hs:v.ch=x::xs)(m:LI v t a C):LI (iW v) t a (C+1):=by
 obtain⟨_,f,d⟩:=h.run hs;obtain⟨m0,j,g,i,k,p⟩:=m;obtain⟨_,l,c,n⟩:=CI h.b hs (a+j *v.pe+v.pe);obtain⟨_,o,_,_⟩:=CI h.b hs (a+v.pe);refine⟨λh=>by rw[n];exact m0 h,j,g,by rw[d];exact i,by rw[d];exact k,?_⟩;rw[f,d,o,l];split <;> split <;> (rename_i h1 e;first|rw[aaK e] at c|rw[aaL e] at c|skip) <;> (first|rw[aaK h1] at c|rw[aaL h1] at c|skip) <;> omega
theorem MI.next{a C:Int}(h:qE v)(d:IQ (t+1) v)(m:MI v t a C):MI v (t+1) a C:=by
 have q:=h.bu;obtain⟨j,i,s,u,f⟩:=m;by_cases e:t+1<a+j *v.pe+v.pe
 .exact⟨j,i,aQ,e,f⟩
 .have e:t+1=a+j *v.pe+v.pe:=aQ;have k:a+(j+1) *v.pe=t+1:=by rw[adU,Int.one_mul];omega
  refine⟨j+1,aQ,aQ,aQ,?_⟩;rw[k];rw[<-e] at f;obtain⟨h1,g⟩:=CN (z:=t+1+v.pe) (l:=v.ch) λx b=>(d.c x b).2
  have n:=AE (z:=t+1+v.pe) (l:=v.rf) λx b=>(d.r x b).2
  obtain⟨A,a2,a3,a4⟩:=tO (t+1+v.pe) h.ch;obtain⟨b1,b2⟩:=US (z:=t+1) (l:=v.ch) λx b=>by have:=(d.c x b).1;omega
  obtain⟨b3,B⟩:=tO (t+1) h.ch;have D:=DG (t+1) h.rf;have E:=h.all;have F:=h.av;have b8:mQ (t+1+v.pe) v.ch+nN (t+1) v.ch<=mM v.ch:=by
   have key:∀l:List Ck,(∀x∈l,1<=x.lf/\0<=x.us)->mQ (t+1+v.pe) l+nN (t+1) l<=mM l:=λl=>by
    induction l with
    |nil=>intro _;simp[mQ,nN,mM]
    |cons x l o=>
     intro h;have h1:=h x aT;have g:=o λy p=>h y (by simp[p])
     rw[r8,oV,kP];split <;> split <;> omega
   exact key v.ch h.ch
  rw[g,n];have em:v.bu *(j+1+1)=v.bu *(j+1)+v.bu:=by rw[Int.mul_add,aeT]
  omega
theorem LI.next{a C:Int}(h:qE v)(d:IQ (t+1) v)(g:v.av=0)(m:LI v t a C):LI v (t+1) a C:=by
 have p:=h.bu;obtain⟨m0,j,i,q,s,f⟩:=m;refine⟨λ_=>g,?_⟩;by_cases e:t+1<a+j *v.pe+v.pe
 .exact⟨j,i,aQ,e,f⟩
 .have e:t+1=a+j *v.pe+v.pe:=aQ;have k:a+(j+1) *v.pe=t+1:=by rw[adU,Int.one_mul];omega
  refine⟨j+1,aQ,aQ,aQ,?_⟩;rw[k];rw[<-e] at f;obtain⟨h1,n⟩:=CN (z:=t+1+v.pe) (l:=v.ch) λx b=>(d.c x b).2
  have o:=AE (z:=t+1+v.pe) (l:=v.rf) λx b=>(d.r x b).2
  obtain⟨b1,b2⟩:=US (z:=t+1) (l:=v.ch) λx b=>by have:=(d.c x b).1;omega
  have u:=Z3 (z:=t+1) (l:=v.rf) λx b=>(d.r x b).1
  have y:=h.all;rw[h1,n,o,Int.mul_add,aeT];omega
def YT(n p:Int):Int:=n /p+(if n%p=0 then 0 else 1)
theorem MI.wI{a C:Int}(h:qE v)(d:IQ t v)(m:MI v t a C):C<=v.bu *(YT (t - a) v.pe+1):=by
 have i:=h.bu;obtain⟨j,k,n,o,e⟩:=m;have hd:(t - a) /v.pe=j:=by
  have h1:j<=(t - a) /v.pe:=(afB aQ).2 aQ;have f:(t - a) /v.pe<j+1:=(aeF aQ).2 (by rw[adU,Int.one_mul];omega);omega
 have hm:=Int.emod_add_mul_ediv (t - a) v.pe;rw[hd,Int.mul_comm] at hm;have b1:=(tO (a+j *v.pe+v.pe) h.ch)
 have p:=DG (a+j *v.pe+v.pe) h.rf;have q:=h.all;have s:=h.av;unfold YT;rw[hd];split
 .have g:a+j *v.pe=t:=aQ;rw[g] at e b1;obtain⟨h1,f⟩:=CN (z:=t+v.pe) (l:=v.ch) λx b=>(d.c x b).2
  have u:=AE (z:=t+v.pe) (l:=v.rf) λx b=>(d.r x b).2
  rw[afQ];omega
 .have em:v.bu *(j+1+1)=v.bu *(j+1)+v.bu:=by rw[Int.mul_add,aeT]
  omega
theorem LI.least{a C:Int}(h:qE v)(m:LI v t a C):v.bu *((t - a) /v.pe - 1)<=C:=by
 have b:=h.bu;obtain⟨_,j,c,d,e,f⟩:=m;have hd:(t - a) /v.pe=j:=by
  have h1:j<=(t - a) /v.pe:=(afB aQ).2 aQ;have g:(t - a) /v.pe<j+1:=(aeF aQ).2 (by rw[adU,Int.one_mul];omega);omega
 have b1:=(tO (a+j *v.pe+v.pe) h.ch)
 have b2:=(tO (a+v.pe) h.ch)
 have i:=DG (a+j *v.pe+v.pe) h.rf;have b8:=yK h.rf;have k:=h.all;have l:=h.av;rw[hd,Int.mul_sub,aeT];omega
end
section
theorem NL.zT(h:NL s)(i:Nat)(r:Bool):NL (FD s i r):=by
 refine⟨h.i.zT i r,by show(List.modify _ _ _).length=4;rw[ab9];exact h.p4,h.bn,λq hq v a=>?_,λd hd=>(h.g d hd).zT i r⟩;obtain⟨p,hp,rfl|rfl⟩:=mem_modify hq
 .exact h.t _ hp v a
 .exact h.t p hp v a
theorem NL.gS(h:NL s)(e:Int)(b:Bool):NL (gS s e b):=by
 unfold Go.Proofs.YtacgiflhgdaeaaaGreat.gS;split
 .exact h.zT _ _
 .exact h
theorem IQ.new(t bu pe:Int):IQ t (lK bu pe):=⟨λx a=>by simp[lK] at a,λx a=>by simp[lK] at a⟩
theorem NL.kK(h:NL s)(e bu pe:Int):NL (kK s e bu pe):=by
 obtain⟨h1,b⟩:=GZ h.i h.p4 e bu pe;unfold Go.Proofs.YtacgiflhgdaeaaaGreat.kK at *;split
 .rename_i hi;rw[aaK hi] at h1 b;have hi:=acC hi;refine⟨h1,b,?_,λq hq v a=>?_,λd hd=>?_⟩
  .unfold pK;split
   .unfold pI;split <;> exact h.bn
   .exact h.bn
  .unfold pK at hq⊢;split at hq
   .rename_i he;rw[aaK he];obtain⟨p,hp,rfl|rfl⟩:=mem_modify hq
    .exact h.t _ hp v a
    .injection a with a;subst a;exact IQ.new _ _ _
   .rename_i he;rw[aaL he];exact h.t q hq v a
  .have c:(pK s e.toNat bu pe).nw=s.nw:=by unfold pK;split <;> rfl
   rw[c] at hd;exact(h.g d hd).res h.i hd aQ bu pe
 .exact h
theorem NL.lU(h:NL s)(e:Int):NL (lU s e):=by
 obtain⟨h1,c⟩:=VA h.i h.p4 e;unfold Go.Proofs.YtacgiflhgdaeaaaGreat.lU at *;cases a:rO s e with
 |none=>simp only;exact h
 |some v=>
  rw[a] at h1 c;simp only at h1 c⊢;unfold rO at a;split at a
  .cases hq:s.P[e.toNat]? with
   |none=>rw[hq] at a;cases a
   |some p=>
    rw[hq] at a;have a:p.sv=some v:=a;refine⟨h1,c,?_,λq hq u hu=>?_,λd hd=>(h.g d hd).rel h.i h.bn h.p4 hd hq a⟩
    .show s.nw<=(pL s.b e.toNat (fF v)).bn+1;unfold pL;split
     .exact h.bn
     .split <;> exact h.bn
    .obtain⟨j,f,rfl|rfl⟩:=mem_modify hq
     .exact h.t _ f u hu
     .cases hu
  .cases a
theorem tS(s:Sd):(cI s).2.nw=s.nw+1:=by
 unfold cI;split
 .rfl
 .split <;> rfl
theorem Jc(s:Sd):(cI s).2.b=jZ s.b s.nw:=by
 unfold cI;split
 .rfl
 .split <;> rfl
def KA(s:Sd)(i:Nat)(rd:Bool)(v:Sv):Sv:=if(cI s).1.env=i/\(cI s).1.ch=true then iW (dE v s.nw rd) else dE v s.nw rd
theorem UI{p:Pv}(hp:s.P[i]?=some p):∃a,(cI s).2.P[i]?=some a/\a.sv=p.sv.map (KA s i p.rd):=by
 have h1:(dC s).P[i]?=some (iS s.nw p):=by
  show(s.P.map (iS s.nw))[i]?=_;rw[ab7,hp];rfl
 unfold KA;unfold cI;cases c:fU (dC s).P s.P.length with
 |none=>
  simp only;cases vT (dC s).P s.tu.toNat with
  |none=>
   refine⟨_,h1,?_⟩;simp only[iS];cases p.sv <;> simp
  |some e=>
   refine⟨_,h1,?_⟩;simp only[iS];cases p.sv <;> simp
 |some q=>
  obtain⟨j,D⟩:=q;simp only;by_cases b:j=i
  .subst b;refine⟨sL (iS s.nw p),by rw[ac3,h1];simp,?_⟩;unfold sL iS;cases p.sv <;> simp
  .refine⟨iS s.nw p,by rw[ac3,h1];simp[b],?_⟩;unfold iS;have:¬((j:Int)=i):=aQ;cases p.sv <;> simp[this]
theorem yZ{p:Pv}(hp:s.P[i]?=some p)(d:p.sv=some v)(h:(cI s).1.env=i/\(cI s).1.ch=true):∃x xs,(dE v s.nw p.rd).ch=x::xs:=by
 have h1:(dC s).P[i]?=some (iS s.nw p):=by
  show(s.P.map (iS s.nw))[i]?=_;rw[ab7,hp];rfl
 unfold cI at h;cases b:fU (dC s).P s.P.length with
 |none=>
  rw[b] at h;simp only at h;cases c:vT (dC s).P s.tu.toNat with
  |none=>rw[c] at h;simp at h
  |some e=>rw[c] at h;simp at h
 |some q=>
  obtain⟨j,D⟩:=q;rw[b] at h;simp only at h;have f:j=i:=aQ;subst f;have a:=(wA _ _ _ _ b).2;rw[h1] at a;simp only[aeU,iS,iT,d,abL,xV] at a;cases hc:(dE v s.nw p.rd).ch with
  |nil=>rw[hc] at a;simp at a
  |cons x xs=>exact⟨x,xs,rfl⟩
theorem NL.tick(N:NL s)(k:s.nw<1048576):NL (cI s).2:=by
 have hi:=N.i.tick k;have l:(cI s).2.P.length=4:=(ET s).trans N.p4;have m:∀d,(cI s).2.nw<=d->Gh (cI s).2 d:=λd hd=>Gh.tick N k (by rw[tS] at hd;exact hd)
 have e:=Gh.late hi l (m _ (ab0 _));refine⟨hi,l,?_,λq hq u hu=>?_,m⟩
 .rw[tS,Jc];unfold jZ;split
  .have:=N.i.bn;omega
  .exact ab0 _
 .obtain⟨i,g,rfl⟩:=aa2 hq;have h:i<s.P.length:=by rw[<-ET s];exact g
  have hp:=aaG h;obtain⟨y,b,he⟩:=UI hp;rw[aaG g] at b;injection b with b;have n:=e _ hq u hu;rw[b] at hu;rw[he] at hu;cases f:s.P[i].sv with
  |none=>rw[f] at hu;cases hu
  |some v=>
   rw[f] at hu;simp only[abL,adN] at hu;have hm:=aaM h;obtain⟨b1,b2⟩:=(N.t _ hm v f).begin (N.i.sv _ hm v f) s.P[i].rd;have j:=N.i.OP hm f;have c:u.pe=v.pe/\(∀x∈u.ch,x.de<=s.nw+v.pe)/\∀r∈u.rf,s.nw<r.at_/\r.at_<=s.nw+v.pe:=by
    rw[<-hu];unfold KA;split
    .rename_i hc;obtain⟨x,xs,a⟩:=yZ hp f hc;exact⟨(j.1.run a).2.2.trans j.2.2.2,ZX a (p:=λz=>z<=s.nw+v.pe) λx a=>(b1 x a).2,Au a (p:=λz=>s.nw<z/\z<=s.nw+v.pe) (b1 x (by rw[a];simp)) b2⟩
    .exact⟨j.2.2.2,λx a=>(b1 x a).2,b2⟩
   rw[tS];refine⟨λx a=>⟨by have:=n x a;rw[tS] at this;exact this,by have:=c.2.1 x a;rw[c.1];omega⟩,λr o=>by have:=c.2.2 r o;rw[c.1];omega⟩
theorem NL.given(N:NL s)(u:s.nw<1048576){p:Pv}(hp:s.P[i]?=some p)(e:p.sv=some v):∃g h,(cI s).2.P[i]?=some g/\g.sv=some h/\h.bu=v.bu/\h.pe=v.pe/\
 (∀a C,MI v s.nw a C->MI h (s.nw+1) a (C+if(cI s).1.env=i/\(cI s).1.ch=true then 1 else 0))/\
 (p.rd=true->∀a C,LI v s.nw a C->LI h (s.nw+1) a (C+if(cI s).1.env=i/\(cI s).1.ch=true then 1 else 0)):=by
 obtain⟨g,f,he⟩:=UI hp;rw[e] at he;simp only[abL] at he;have hm:=aa1 hp;have c:=N.i.OP hm e;have o:=N.tick u;have l:=o.t g (aa1 f) _ he;have n:=o.i.sv g (aa1 f) _ he;rw[tS] at l;have q:=N.i.nw.1;have j:=N.i.sv p hm v e;refine⟨g,_,f,he,?_,?_,λa C m=>?_,λr a C m=>?_⟩
 .unfold KA;split
  .rename_i hc;obtain⟨x,xs,d⟩:=yZ hp e hc;exact(c.1.run d).2.1.trans c.2.2.1
  .exact c.2.2.1
 .unfold KA;split
  .rename_i hc;obtain⟨x,xs,d⟩:=yZ hp e hc;exact(c.1.run d).2.2.trans c.2.2.2
  .exact c.2.2.2
 .refine MI.next n.b l ?_;have m1:=MI.begin j q m p.rd;unfold KA;by_cases hc:(cI s).1.env=i/\(cI s).1.ch=true
  .rw[aaK hc,aaK hc];obtain⟨x,xs,d⟩:=yZ hp e hc;exact MI.run c.1 d m1
  .rw[aaL hc,aaL hc,afQ];exact m1
 .obtain⟨m1,k⟩:=LI.begin j q m;rw[r] at c l n⊢;have key:LI (KA s i true v) s.nw a (C+if(cI s).1.env=i/\(cI s).1.ch=true then 1 else 0)/\(KA s i true v).av=0:=by
   unfold KA;by_cases hc:(cI s).1.env=i/\(cI s).1.ch=true
   .rw[aaK hc,aaK hc];obtain⟨x,xs,d⟩:=yZ hp e hc;rw[r] at d;exact⟨LI.run c.1 d m1,(CI c.1.b d 0).2.2.2.trans k⟩
   .rw[aaL hc,aaL hc,afQ];exact⟨m1,k⟩
  exact LI.next n.b l key.2 key.1
end
end
section
open Go.RowKit Go.Lib Go.Shelf dH Fr Up Nt
inductive Lh (t:Int->Option (Int×Bool)) (s:fO):fO->Prop
 |refl:Lh t s s
 |put {s1:fO} (r:Lh t s s1) (p f a v:Int) (h:t p=some (f,true)):Lh t s (mV s1 f a v)
inductive yT (e:Int) (k:Kv):Kv->Prop
 |refl:yT e k k
 |run {k1:Kv} (r:yT e k k1) (L:List En) (s:fO) (hL:DS L/\L.length<=16/\Pa.Cp.Qe L=Pa.Cp.Qe k1.t) (hs:Lh (Pa.Cp.Qe k1.t e) k1.f s):yT e k {k1 with t:=L,f:=s}
 |EG {k1 k2:Kv} (r:yT e k k1) (l x N E:Int) (h:sO l e 0 x k1 N E k2):yT e k k2
 |zT {k1:Kv} (r:yT e k k1) (b:Bool):yT e k {k1 with s:=gS k1.s e b}
 |tell {k1:Kv} (r:yT e k k1):yT e k (fI k1 e)
structure Qo(rs rs':List Rm)(i:Nat):Prop where
 l:∀j,(bT rs' j).l=(bT rs j).l
 g:∀j,(bT rs' j).g=(bT rs j).g
 sn:∀j,(bT rs' j).sn=(bT rs j).sn
 C:∀j,(bT rs' j).C=(bT rs j).C
 ru:∀j,j≠i->(bT rs' j).ru=(bT rs j).ru
 cA:(bT rs' i).cA=(bT rs i).cA
 cc:(bT rs' i).cc=(bT rs i).cc
end
section
open Go.RowKit
end
section
open Go.RowKit Go.Lib Go.Shelf dH Fr Up Nt
structure o8(c:Int)(k:Kv)(rs:List Rm)(ws:List (Int×Int×Int))(xs:List Wd)(qs:List (Int×Int×Int))(rn:Rn)(D:List (Int×Int))(AS:List Int)(tk nu:Int)(nT:Nat)(k':Kv)(rs':List Rm):Prop where
 CL:AS=tU rs qs
 t:∃k2,qI {k with s:=lY k.s (lL rs qs) 8} c ws xs rn D k2/\((∃i:Nat,rn.env=i/\i<4/\(bT (lL rs qs) i).ru=true/\yT i k2 k'/\Qo (iA (lL rs qs) rn.env 8) rs' i)\/((rn.env<0\/∃i:Nat,rn.env=i/\i<4/\(bT (lL rs qs) i).ru=false)/\k'=k2/\rs'=iA (lL rs qs) rn.env 8))
 j:(tk,nu)=mK (lL rs qs) rn.env 8
 n:nT=(kV (lL rs qs) rn.env 8).length
def Mh(F:Nat->Prop)(hb m g:Nat)(c:Int)(k:Kv)(rs:List Rm)(n0 M:Nat)(ws:List (Int×Int×Int))(xs:List Wd)(qs:List (Int×Int×Int))(w:World)(e:Ending)(w':World):Prop:=
 ∃(o:Ou) (D:List (Int×Int)) (AS:List Int) (k':Kv) (rs':List Rm),e= .returned (.tuple #[.agg (jK o).toArray,aU])/\o8 c k rs ws xs qs o.rn D AS o.tk o.nu o.T.n k' rs'/\KI k' (n0+M+40)/\o.S.n=D.length/\o.A.n=AS.length/\
  bB sU 2 w' w.heap.size 227 o.S.A o.S.c D/\bB eI 1 w' 0 45 o.A.A o.A.c AS/\(∀b,aZ o.A.A=some b->w.heap.size<=b)/\cE (cB (cB F o.S.A) o.A.A) w' hb m g c k' rs'/\Kp F w w'
variable{s' s1 s2:Sd}{l:List Gc}{e op E:Int}{k':Kv}
section
structure Ci(s:Sd)(i:Nat)(x:Gc):Prop where
 r:∀z∈x.bY,0<=z/\z<=1
 l:(x.bY.length:Int)<=s.nw
 s0:x.since<=x.bY.length
 v:∃p v,s.P[i]?=some p/\p.sv=some v/\v.bu=x.bu/\v.pe=x.pe/\∀k:Nat,k<=x.bY.length->MI v s.nw (s.nw - (x.bY.length - k)) (x.bY.drop k).sum/\(x.since<=k->LI v s.nw (s.nw - (x.bY.length - k)) (x.bY.drop k).sum)
structure kH(s:Sd)(l:List Gc):Prop where
 l4:l.length=4
 a:∀(i:Nat) (x:Gc),l[i]?=some x->x.has=true->Ci s i x
structure TZ(s s':Sd):Prop where
 nw:s'.nw=s.nw
 p:∀(i:Nat) (p:Pv),s.P[i]?=some p->∃p',s'.P[i]?=some p'/\p'.sv=p.sv
theorem TZ.zT(s:Sd)(e:Int)(b:Bool):TZ s (gS s e b):=by
 refine⟨yL _ _ _,λi p hp=>?_⟩;unfold gS;split
 .show ∃a,(s.P.modify e.toNat _)[i]?=some a/\_;rw[ac3,hp];by_cases h:e.toNat=i
  .exact⟨{p with rd:=b},by simp[h],rfl⟩
  .exact⟨p,by simp[h],rfl⟩
 .exact⟨p,hp,rfl⟩
theorem Ci.same{x:Gc}(h:Ci s i x)(e:TZ s s'):Ci s' i x:=by
 obtain⟨p,v,hp,c,h1,d,f⟩:=h.v;obtain⟨g,a,b⟩:=e.p i p hp;exact⟨h.r,by rw[e.nw];exact h.l,h.s0,g,v,a,b.trans c,h1,d,by rw[e.nw];exact f⟩
theorem kH.same(h:kH s l)(e:TZ s s'):kH s' l:=⟨h.l4,λi x b c=>(h.a i x b c).same e⟩
inductive sK (s:Sd):Sd->Prop
 |refl:sK s s
 |tell {s1:Sd} (r:sK s s1) (e:Int):sK s (gS s1 e true)
theorem sK.trans(h1:sK s s1)(a:sK s1 s2):sK s s2:=by
 induction a with
 |refl=>exact h1
 |tell _ e b=>exact .tell b e
theorem sK.nl(h:sK s s')(N:NL s):NL s':=by
 induction h with
 |refl=>exact N
 |tell _ e a=>exact a.gS e true
theorem sK.nw(h:sK s s'):s'.nw=s.nw:=by
 induction h with
 |refl=>rfl
 |tell _ e a=>rw[yL];exact a
theorem sK.gv(h:sK s s')(g:kH s l):kH s' l:=by
 induction h with
 |refl=>exact g
 |tell _ e a=>exact a.same (TZ.zT _ e true)
theorem sK.rd(h:sK s s'){p:Pv}(hp:s.P[i]?=some p)(a:p.rd=true):∃b,s'.P[i]?=some b/\b.rd=true:=by
 induction h with
 |refl=>exact⟨p,hp,a⟩
 |tell _ e c=>
  obtain⟨q,hq,a⟩:=c;unfold gS;split
  .show ∃b,(List.modify _ _ _)[i]?=some b/\_;rw[ac3,hq];by_cases h:e.toNat=i
   .exact⟨{q with rd:=true},by simp[h],rfl⟩
   .exact⟨q,by simp[h],a⟩
  .exact⟨q,hq,a⟩
theorem yQ(k:Kv)(e:Int):sK k.s (fI k e).s:=by
 unfold fI;split
 .exact .tell .refl e
 .exact .refl
theorem ON(l:List Int):∀k:Kv,sK k.s (eZ k l).s:=by
 induction l with
 |nil=>intro k;exact .refl
 |cons e l a=>intro k;exact(yQ k e).trans (a _)
theorem Ih(k:Kv)(e o gr:Int):sK k.s (jQ k e o gr).2.s:=by
 unfold jQ;split
 .exact .refl
 .split
  .exact .refl
  .split
   .exact .refl
   .exact yQ {k with b:=(gP k.b e o k.s.nw gr).2} e
theorem Z6(ws:List (Int×Int×Int)):∀k:Kv,sK k.s (pT k ws).s:=by
 induction ws with
 |nil=>intro k;exact .refl
 |cons a l b=>intro k;exact(Ih k a.1 a.2.1 a.2.2).trans (b _)
theorem iU.s_{l:List Int}{k:Kv}(h:iU e l k k'):k'.s=k.s:=by
 induction h with
 |nil=>rfl
 |no _ _ a=>exact a
 |drop _ L _ _ a=>exact a
theorem pE.s_{o:Int}{k:Kv}(h:pE k o k'):k'.s=k.s:=by
 obtain⟨L,_,rfl⟩:=h;rfl
theorem pH.s_{o:Int}{k:Kv}(h:pH e o k k'):k'.s=k.s:=by
 cases h with
 |no _ h=>rw[h]
 |keep _ r _=>exact r.s_
 |rH _ r _ a=>rw[a.s_,r.s_]
theorem kD.rd{l:List Nt}{k:Kv}(h:kD l k k'):sK k.s k'.s:=by
 induction h with
 |nil=>exact .refl
 |cons r1 _ a=>
  have h1:=(yQ _ _).trans a;rw[r1.s_] at h1;exact h1
theorem jV.rd{k:Kv}(h:jV k k'):sK k.s k'.s:=by
 obtain⟨l1,a,T,b,_,c,rfl⟩:=h;have d:=c.rd;exact(ON l1 k).trans (sK.trans d (ON a b))
theorem iF.s_{l:List dK}{k:Kv}(h:iF l k k'):k'.s=k.s:=by
 induction h with
 |nil=>rfl
 |skip _ _ a=>exact a
 |rH _ r1 _ a=>rw[a,r1.s_]
theorem iL.s_{k:Kv}{A B C D:Int}(h:iL k e op A B C D E k'):k'.s=k.s:=by
 unfold iL at h;split at h
 .injection h with _ h;rw[h]
 .split at h
  .split at h
   .injection h with _ h;rw[h]
   .rw[h.2]
  .split at h
   .unfold yI at h;split at h
    .rw[h.2]
    .obtain⟨_,L,_,h⟩:=h;rw[h];rfl
   .unfold GQ at h;split at h
    .rw[h.2]
    .obtain⟨_,L,_,h⟩:=h;rw[h.s_];rfl
theorem yA.s_{k:Kv}{s:Int}(h:yA k e s E k'):k'.s=k.s:=by
 unfold yA at h;split at h
 .rw[h.2]
 .exact h.2.s_
theorem UA.of(N:NL s){x:Gc}(h:Ci s i x):(∀v∈x.bY,0<=v/\v<=1)/\x.bY.length<=1048576/\(1<=x.bu/\x.bu<=x.pe/\x.pe<=1048576)/\Wi x.bu x.pe x.since x.bY:=by
 obtain⟨p,v,hp,g,e,a,hk⟩:=h.v;have hm:=aa1 hp;have f:=(N.i.sv p hm v g).b;have m:=N.t p hm v g;have c:=f.bu;rw[e,a] at c;have q:=h.l;have u:=N.i.nw;refine⟨h.r,aQ,c,λk n=>?_⟩;obtain⟨h1,o⟩:=hk k aQ;have j:s.nw - (s.nw - ((x.bY.length:Int) - k))=((x.bY.length - k:Nat):Int):=aQ;have m1:=h1.wI f m;rw[j,e,a] at m1;refine⟨Int.le_trans m1 ?_,λhs=>?_⟩
 .unfold FI.qO YT;by_cases d:((x.bY.length - k:Nat):Int)%x.pe=0
  .rw[aaK d,FI.XU _ _ aQ aQ d,afQ];exact ab0 _
  .rw[aaL d,FI.GO _ _ aQ aQ d];exact ab0 _
 .have m2:=(o hs).least f;rw[j,e,a] at m2;have m3:=(QF h.r k).1;unfold FI.FY;omega
theorem Hg(l:List Int)(v:Int):(l++ [v]).sum=l.sum+v:=by simp[List.sum_append]
theorem kH.tick(g:kH s l)(N:NL s)(L:s.nw<1048576)(rd:List Bool)(A:∀(i:Nat) (p:Pv),s.P[i]?=some p->rd.getD i false=true->p.rd=true):kH (cI s).2 (qH (cI s).1 rd 4 l):=by
 refine⟨by simp[qH,g.l4],λi x h B=>?_⟩;have hi:i<l.length:=by
  have:=(aaX.1 h).1;simpa[qH] using this
 rw[Cm _ _ _ (by have:=g.l4;omega),aaG hi] at h;injection h with h;have O:=aaG hi;generalize l[i]=y at *;subst h;by_cases c:y.has=true
 .have G:=g.a i y O c;have e:K7 (cI s).1 rd i y={y with bY:=y.bY++ [if(cI s).1.env=i/\(cI s).1.ch=true then 1 else 0],since:=if rd.getD i false then y.since else((y.bY.length+1:Nat):Int)}:=by unfold K7;rw[aaK c]
  rw[e];obtain⟨p,v,hp,Q,R,C,hk⟩:=G.v;obtain⟨D,E,j,d,F,m,S,T⟩:=N.given L hp Q;have M:=N.tick L;have n:=aa1 j;have o:=(M.i.sv D n E d).b;have q:=M.t D n E d;have f:=tS s;have V:=G.l;have U:=G.s0;refine⟨λz u=>?_,?_,?_,D,E,j,d,F.trans R,m.trans C,λk H=>?_⟩
  .simp only[aa8,aaZ] at u;rcases u with u|rfl
   .exact G.r z u
   .split <;> omega
  .simp only[aaT,ac5];rw[f];omega
  .simp only[aaT,ac5];split <;> omega
  .simp only[aaT,ac5] at H⊢;rw[f];by_cases I:k=y.bY.length+1
   .subst I;have J:(y.bY++ [if(cI s).1.env=i/\(cI s).1.ch=true then(1:Int) else 0]).drop (y.bY.length+1)= []:=aeG aT;rw[J,show s.nw+1 - (((y.bY.length+1:Nat):Int) - ((y.bY.length+1:Nat):Int))=s.nw+1 by omega];rw[f] at q;exact⟨MI.new o _,λ_=>LI.new o q⟩
   .obtain⟨m1,m2⟩:=hk k aQ;have J:(y.bY++ [if(cI s).1.env=i/\(cI s).1.ch=true then(1:Int) else 0]).drop k=y.bY.drop k++ [if(cI s).1.env=i/\(cI s).1.ch=true then(1:Int) else 0]:=aeA aQ;rw[J,Hg,show s.nw+1 - (((y.bY.length+1:Nat):Int) - (k:Int))=s.nw - ((y.bY.length:Int) - k) by omega];refine⟨S _ _ m1,λhs=>?_⟩;by_cases K:rd.getD i false=true
    .rw[aaK K] at hs;exact T (A i p hp K) _ _ (m2 hs)
    .rw[aaL K] at hs;omega
 .exfalso
  unfold K7 at B;rw[aaL c] at B;exact c B
end
end
end Go.Proofs.YtacgiflhgdaeaaaGreat
