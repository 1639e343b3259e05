/- Texts laid as one. -/
import Derived.StillTailTactics
import Derived.Deep.DeepCutAuto
import Derived.Deep.CutBlock
import Derived.Shelf.Abstract
import Derived.Test.YtacgiflhgdaeaaaGreatZ2
import Derived.Test.YtacgiflhgdaeaaaGreatZ3
import Derived.Test.YtacgiflhgdaeaaaGreatZ4
set_option linter.unusedVariables false
set_option linter.unusedSimpArgs false
set_option maxRecDepth 100000
set_option maxHeartbeats 20000000
namespace Go.Proofs.YtacgiflhgdaeaaaGreat
open Go.Proofs.Tryz
open Go renaming World->aA,Value->aC,Addr->aJ,Oper->aK,TypeId->aN,Program->aO,Calls->aG
open Go.RowKit renaming Below->aD,Hid->aH
section
open Go.RowKit Go.Lib
open dH (En Tb Tw fi BS ld DS)
open Fr (fO Fm gX tG mV JU EO VM)
namespace Pa.Cp
end Pa.Cp
end
section
open Go.RowKit Go.Lib
open Fr (fO Fm gX tG mV JU EO VM)
namespace Pa.Cp
end Pa.Cp
end
section
open Go.RowKit Go.Lib
open dH (Tb)
open Fr (fO Fm)
namespace Pa.Cp
end Pa.Cp
namespace Pa.Cp
end Pa.Cp
namespace Pa.Cp
end Pa.Cp
namespace Pa.Cp
end Pa.Cp
namespace Pa.Cp
end Pa.Cp
namespace Pa.Cp
end Pa.Cp
namespace Pa.Cp
end Pa.Cp
end
section
open Go.RowKit Go.Lib
namespace Pa.Cp
end Pa.Cp
end
section
open Go.RowKit
def CR(C:Nat->aA->Prop)(b:Nat×Nat):aA->Prop:=λw=>∃p,b.1<=p/\p<=b.2/\C p w
section
variable{P:aO}{E:aA->Prop}{C:Nat->aA->Prop}{B:List (Nat×Nat)}{Z:Nat->aA->aA->Prop}{made T:List Nat}{S:Nat->aC->aA->Prop}{ops:Array aK}
def Dg(made:List Nat)(ops:Array aK)(i:Nat)(o:aK):List Nat:=made.filter λk=>(o.looksAt ops).contains k&&(List.range i).any λj=>eW ops j==some k
def DW(P:aO)(E C:aA->Prop)(Z:aA->aA->Prop)(made:List Nat)(S:Nat->aC->aA->Prop)(ops:Array aK)(i:Nat)(o:aK)(a:Act)(v:aC):Prop:=
 match pN made o with
 |some d=>v=undef/\∀(γ:Nat->aC) (w:aA),C w->(∀k∈Dg made ops i o,S k (γ k) w)->BL P Z (S d) w ((execOp (dG γ (Dg made ops i o) a).eval o).run P w)
 |none=>
  if Dg made ops i o= [] then
   (if jS o then ∀w,(∃n:CQ,w=n.w)->o.quietAt P a (λw=>∃n:CQ,w=n.w) w v
   else if plain o then ∀w,(∃n:CW E,w=n.w)->o.quietAt P a (λw=>∃n:CW E,w=n.w) w v
   else ∀w,C w->BL P Z (λu _=>u=v) w ((execOp a.eval o).run P w))
  else ∀(γ:Nat->aC) (w:aA),C w->(∀k∈Dg made ops i o,S k (γ k) w)->BL P Z (λu _=>u=v) w ((execOp (dG γ (Dg made ops i o) a).eval o).run P w)
def zN(C:aA->Prop)(Z:aA->aA->Prop)(made:List Nat)(S:Nat->aC->aA->Prop)(inT:Bool)(o:aK):Prop:=(∀d,pN made o=some d->∀w,C w->S d undef w)/\(inT=true->∀w,C w->Z w w)
def BR(P:aO)(ops:Array aK)(T:List Nat)(E:aA->Prop)(C:Nat->aA->Prop)(B:List (Nat×Nat))(Z:Nat->aA->aA->Prop)(made:List Nat)(S:Nat->aC->aA->Prop)(i:Nat)(o:aK)(a:Act)(v:aC):Prop:=
 (Region.wanted o (yielded ops a.tmps)=true/\DW P E (CR C (B.getD i (0,0))) (Z i) made S ops i o a v)\/(Region.wanted o (yielded ops a.tmps)=false/\v=undef/\zN (CR C (B.getD i (0,0))) (Z i) made S (T.contains i) o)
end
end
section
open Go.RowKit Go.Lib
variable{sz:Nat}{w w':aA}{A:Option aJ}{F:Nat->Prop}
section
theorem bB.kp{α:Type}{enc:α->List aC}{base c:Nat}{e:aN}{xs:List α}(h:bB enc sz w base e A c xs)(hk:Kp F w w')(hF:∀q,aZ A=some q->F q):bB enc sz w' base e A c xs:=by
 refine⟨h.1,?_⟩;rcases h.2 with h1|⟨g,cap,cur,h1,a,b,d⟩
 .exact .inl h1
 .exact .inr ⟨g,cap,cur,h1,a,(hk.block g (hF g (by injection h1 with h1;rw[h1];rfl))).trans b,d⟩
theorem Sl.kp{α:Type}{enc:α->List aC}{xs:List α}(h:Sl enc sz w A xs)(hk:Kp F w w')(hF:∀q,aZ A=some q->F q):Sl enc sz w' A xs:=λc=>by
 obtain⟨b,off,a,hc⟩:=h c;exact⟨b,off,a,λi x j u d hu=>hk.cell (hc i x j u d hu) (hF b (by rw[a];rfl))⟩
end
variable{q i j n:Nat}
section
variable{α:Type}{enc:α->List aC}{sz:Nat}
theorem Kj(he:∀x,(enc x).length=sz)(k:0<sz)(cur:Array aC)(R:List α)(i c:Nat)(x:α)(hi:i<R.length)(hc:R.length<=c)(hs:cur.size=c *sz)(l:cur.toList.take (R.length *sz)=R.flatMap enc):
 (lay cur (i *sz) (enc x)).toList.take (R.length *sz)=(R.set i x).flatMap enc:=by
 have m:(i+1) *sz<=R.length *sz:=acB _ hi;have n:R.length *sz<=c *sz:=acB _ hc;rw[acN,ad0] at m;apply aeM;intro j;by_cases d:j<R.length *sz
 .rw[abU,aaK d,abG,lay_get? _ _ _ _ (by rw[he];omega),he];have hq:j /sz<R.length:=aeO (by rw[adK];exact d);have a:j /sz *sz+j%sz=j:=by rw[adK];exact Nat.div_add_mod j sz
  have e:j%sz<sz:=afU _ k;by_cases f:j /sz=i
  .have h1:=jG he (R.set i x) i x (j%sz) (by simp[hi]) e;rw[f] at a;rw[aaK aQ,show j - i *sz=j%sz by omega,<-h1,a]
  .have h1:=jG he (R.set i x) (j /sz) R[j /sz] (j%sz) (by rw[acP aQ,aaG hq]) e;have h:=jG he R (j /sz) R[j /sz] (j%sz) (aaG hq) e;have g:¬(i *sz<=j/\j<i *sz+sz):=by
    intro o;rcases ac0 (j /sz) i with b|hge
    .have:=acB sz b;rw[aeE] at this;omega
    .have b:i+1<=j /sz:=aQ;have:=acB sz b;rw[acN,ad0] at this;omega
   rw[a] at h1 h;rw[aaL g,h1,<-h,<-l,abU,aaK d,abG]
 .rw[abZ (by rw[aa9];omega),abZ (by rw[fH he,aaV];omega)]
theorem GH(he:∀x,(enc x).length=sz)(d:0<sz){base:Nat}{e:aN}{c:Nat}{R:List α}(h:bB enc sz w base e q c R)(hi:i<R.length)(x:α):
 bB enc sz (w.setCells q (i *sz) (enc x)) base e q c (R.set i x)/\w.grownBy (w.setCells q (i *sz) (enc x)) (some q):=by
 obtain⟨cur,h1,f,a,g,b,j⟩:=eK h;refine⟨?_,iR q _ _ w w (bE w q)⟩;have k:=jJ q e (enc x) (i *sz) w cur f;have l:=Kj he d cur R i c x hi a b j;exact⟨fH he _, .inr ⟨q,c,_,rfl,h1,k,by rw[aaV];exact a,g,by rw[lay_size];exact b,by rw[aaV];exact l⟩⟩
theorem bG(he:eY enc sz){base:Nat}{e:aN}{c:Nat}{R:List α}(h:bB enc sz w base e q c R)(hi:i<R.length){v:aC}(d:(enc R[i])[j]?=some v):w.cell? (q,i *sz+j)=some v:=by
 obtain⟨b,off,a,hc⟩:=(h.sl he).at_ hi;injection a with a;injection a with h1 f;subst h1 f;simpa using hc j v d
theorem pB{base:Nat}{e:aN}{c:Nat}{R:List α}(h:bB enc sz w base e q c R)(hi:i<c):w.there q (i *sz) sz:=λj b=>by
 have a:(i+1) *sz<=c *sz:=acB _ hi;rw[acN,ad0] at a;exact cH h (i *sz+j) aQ
theorem UC(he:∀x,(enc x).length=sz){base:Nat}{e:aN}{c:Nat}{R:List α}(h:bB enc sz w base e q c R)(a:n<=R.length):bB enc sz w base e q c (R.take n):=by
 obtain⟨cur,h1,b,k,d,f,g⟩:=eK h;have i:(R.take n).length=n:=bL;have j:n *sz<=R.length *sz:=acB _ a;refine⟨fH he _, .inr ⟨q,c,cur,rfl,h1,b,aQ,d,f,?_⟩⟩;rw[i,NK he,<-g,List.take_take,Nat.min_eq_left j]
end
section
variable{α:Type}{enc:α->List aC}{sz:Nat}
theorem wW(he:∀x,(enc x).length=sz):∀(R:List α) (i j:Nat) (x:α) (v:aC),(hi:i<R.length)->j<sz->enc x=(enc R[i]).set j v->(R.flatMap enc).set (i *sz+j) v=(R.set i x).flatMap enc
 | [],i,j,x,v,hi,_,_=>absurd hi (acK _)
 |y::ys,0,j,x,v,_,a,b=>by
  simp only[abK,aaP,adY,abQ];rw[ac9 _ _ (by rw[he];exact a),b];rfl
 |y::ys,i+1,j,x,v,hi,a,b=>by
  simp only[abK,aaN];rw[aa6 _ _ (by rw[he,acN];omega),he,show(i+1) *sz+j - sz=i *sz+j by rw[acN];omega,wW he ys i j x v (by simpa using hi) a (by simpa using b)]
theorem qR(he:∀x,(enc x).length=sz){base:Nat}{e:aN}{c:Nat}{R:List α}(h:bB enc sz w base e q c R)(hi:i<R.length)(a:j<sz)(x:α)(v:aC)(b:enc x=(enc R[i]).set j v):
 bB enc sz (w.setCell (q,i *sz+j) v) base e q c (R.set i x)/\w.grownBy (w.setCell (q,i *sz+j) v) (some q):=by
 have h1:=World.ownsRow.stored h (i *sz+j) v;rw[wW he R i j x v hi a b] at h1;unfold bB;rw[aaV];exact h1
end
def Ol(F:Nat->Prop)(w:aA):Prop:=∀b,F b->b<w.heap.size
section
variable{F:Nat->Prop}{w w' w'':aA}{q:Nat}
theorem Ol.kp(h:Ol F w)(k:Kp F w w'):Ol F w':=λb a=>aaJ (h b a) k.size
theorem Ol.below(h:Ol F w)(a:aD w w w'):Kp F w w':=Kp.dD a h
theorem Ol.self(h:Ol F w)(hq:¬F q)(c:w.grownBy w' (some q)):Kp F w w':=Kp.grown c λb a=>⟨h b a,λe=>hq (by injection e with e;rw[<-e];exact a)⟩
end
end
section
open Go.RowKit Go.Lib Go.Shelf
variable{w:aA}{A:Option aJ}{i:Nat}
section
structure Ck where
 lf:Int
 us:Int
 de:Int
structure Rl where
 at_:Int
 am:Int
def zK(x:Ck):List aC:= [.int .i64 x.lf, .int .i64 x.us, .int .i64 x.de]
def uD(x:Rl):List aC:= [.int .i64 x.at_, .int .i64 x.am]
theorem kI:eY zK 3:=⟨λ_=>rfl,λx u hu=>by simp[zK] at hu;rcases hu with rfl|rfl|rfl <;> rfl⟩
theorem pV:eY uD 2:=⟨λ_=>rfl,λx u hu=>by simp[uD] at hu;rcases hu with rfl|rfl <;> rfl⟩
theorem TQ:(prog.info? 329).map (λi=>(i.zero,i.size,i.bytes))=some (some (.agg #[aU,aU,aU]),3,24):=aV
theorem TU:(prog.info? 327).map (λi=>(i.zero,i.size,i.bytes))=some (some (.agg #[aU,aU]),2,16):=aV
theorem Xx:jM prog 300 329 3 24:=gA underlying300 TQ rfl aQ
theorem Jl:jM prog 301 327 2 16:=gA underlying301 TU rfl aQ
namespace Wl
theorem kM:∀w,(zeroValue 329).run prog w= .ok (.agg #[aU,aU,aU]) w:=λw=>by kernel_rfl
variable{A:Option aJ}{n m:Nat}
theorem fJ{c:Nat}(h:n=m):Ending.returned (.slice A n c)= .returned (.slice A m c):=by rw[h]
theorem lP(g c i k base:Nat)(L:List Ck)(w:aA)(own:bB zK 3 w base 329 g c L)(r:L.length=i+1+k)(S:L.length<=4000000):
 aG prog 156 #[.slice g L.length c,i, .int .i64 ((i:Int)+1)] w λe w'=>e= .returned (.slice g (L.eraseIdx i).length c)/\bB zK 3 w' base 329 g c (L.eraseIdx i)/\w.grownBy w' (some g):=by
 obtain⟨i0,n,G,p,H⟩:=info_parts TQ;have s:(L.eraseIdx i).length=i+k:=by rw[acO,aaK aQ];omega
 obtain⟨_,_,_,v,x,_,_⟩:=eK own;simp only[maxLen] at x;obtain⟨news,b⟩:∃news,news=(L.drop (i+1)).flatMap zK:=⟨_,rfl⟩
 have s1:aH (news.length=k *3):=by unfold aH;rw[b,fH kI.len,abY];omega
 have s2:aH (∀u∈news,u.oneCell'=true):=λu hu=>rL kI _ u (by rw[<-b];exact hu)
 have D:aH (∀t,t<news.length->(w.drew.cell? ⟨g,0+i *3+t,none⟩).isSome=true/\w.drew.frozen? ⟨g,0+i *3+t,none⟩=false):=λt E=>by
  rw[s1.o] at E;exact cH own _ aQ
 have I:aH (∀t u,news[t]?=some u->w.drew.cell? ((⟨g,(i+1) *3,none⟩:aJ).add t)=some u):=λt u hu=>by
  have E:t<k *3:=by rw[<-s1.o];exact(aaX.1 hu).1
  have hF:=oT kI.len L (i+1);rw[b,hF,acL] at hu;rw[Addr.add_lit];obtain⟨cur,_,J,_,_,_,K⟩:=eK own;show w.cell? _=_;rw[cell_of_row w g _ cur _ (0,0) J,<-hu,<-K,abU,aaK aQ,abG]
 obtain⟨m,h⟩:∃m,m=w.drew.setCells g (0+i *3) news:=⟨_,rfl⟩
 have F:=aP h;have y:=tX (w:=w.drew) kI.len own.drew i k r [.int .i64 0, .int .i64 0, .int .i64 0] rfl;rw[<-b,show i *3=0+i *3 by omega,<-h] at y;have a:=aP y;have d:∀j,j<c *3->(m.cell? ⟨g,j,none⟩).isSome=true/\m.frozen? ⟨g,j,none⟩=false:=λj z=>by
  rw[h];have:=cH own j z;exact⟨Go.World.isSome_setCells g _ _ _ _ this.1,by rw[World.frozen?_setCells];exact this.2⟩
 have l:∀ty q A,q=1->(Builtin.clear_ #[300] ty #[.slice (some ⟨g,(i+k) *3,none⟩) q A]).run prog m= .ok (.tuple #[]) (m.setCells g ((i+k) *3) [.int .i64 0, .int .i64 0, .int .i64 0]):=λty q A B=>
  kZ m _ 329 ty _ underlying300 kM [.int .i64 0, .int .i64 0, .int .i64 0] aV cD g ((i+k) *3) q A B (λj z=>d _ (by simp at z;omega))
 clear h y d b;rw[r];rw[r] at v;have M:i<=c:=aQ;have N:i+1<=c:=aQ;have O:(0:Int)<=i+1:=aQ;have P:(i:Int)+1<=(i:Int)+1+(k:Int):=aQ;by_cases hce:c=i+1
 .obtain rfl:k=0:=aQ;obtain rfl:news= []:=abO (by rw[s1.o]);have C:aH (∀t u,([]:List aC)[t]?=some u->w.drew.cell? ((⟨g,0,none⟩:aJ).add t)=some u):=λt u hu=>by simp at hu
  subst hce;have f:=λty=>l ty (i+1 - i) (i+1 - i) aQ
  simp only[aa3] at f s⊢;have Q:(i:Int)<=(i:Int)+1:=aQ;have R:i+1 - i=1:=aQ;rw[R] at f;clear l;go_enter func156,ntmps156
  go_wp2_with fail
  go_region_law (refine step_append_room rfl (.tmp 22) (.tmp 25) 300 rfl 329 i0 3 underlying300 n p g 0 i (i+1) (by simp[Act.eval,Act.put]) ⟨g,0,none⟩ 0 0 [] (by simp[Act.eval,Act.put]) s1.o C.o s2.o aQ D.o ?_;rw[<-F.o])
  go_wp2
  go_ret
  exact⟨fJ aQ,a.o.1,⟨a.o.2.os,a.o.2.tape,a.o.2.output,a.o.2.size,a.o.2.block⟩⟩
 .have f:=λty=>l ty (i+1+k - (i+k)) (c - (i+k)) aQ
  clear l;go_enter func156,ntmps156
  go_wp2_with fail
  go_region_law (refine step_append_room rfl (.tmp 22) (.tmp 25) 300 rfl 329 i0 3 underlying300 n p g 0 i c (by simp[Act.eval,Act.put]) ⟨g,(i+1) *3,none⟩ k (c - (i+1)) news (by simp[Act.eval,Act.put]) s1.o I.o s2.o aQ D.o ?_;rw[<-F.o])
  go_wp2
  go_ret
  exact⟨fJ aQ,a.o.1,⟨a.o.2.os,a.o.2.tape,a.o.2.output,a.o.2.size,a.o.2.block⟩⟩
end Wl
namespace Wu
theorem kM:∀w,(zeroValue 327).run prog w= .ok (.agg #[aU,aU]) w:=λw=>by kernel_rfl
variable{A:Option aJ}{n m:Nat}
theorem fJ{c:Nat}(h:n=m):Ending.returned (.slice A n c)= .returned (.slice A m c):=by rw[h]
theorem lP(g c i k base:Nat)(L:List Rl)(w:aA)(own:bB uD 2 w base 327 g c L)(r:L.length=i+1+k)(S:L.length<=4000000):
 aG prog 154 #[.slice g L.length c,i, .int .i64 ((i:Int)+1)] w λe w'=>e= .returned (.slice g (L.eraseIdx i).length c)/\bB uD 2 w' base 327 g c (L.eraseIdx i)/\w.grownBy w' (some g):=by
 obtain⟨i0,n,G,p,H⟩:=info_parts TU;have s:(L.eraseIdx i).length=i+k:=by rw[acO,aaK aQ];omega
 obtain⟨_,_,_,v,x,_,_⟩:=eK own;simp only[maxLen] at x;obtain⟨news,b⟩:∃news,news=(L.drop (i+1)).flatMap uD:=⟨_,rfl⟩
 have s1:aH (news.length=k *2):=by unfold aH;rw[b,fH pV.len,abY];omega
 have s2:aH (∀u∈news,u.oneCell'=true):=λu hu=>rL pV _ u (by rw[<-b];exact hu)
 have D:aH (∀t,t<news.length->(w.drew.cell? ⟨g,0+i *2+t,none⟩).isSome=true/\w.drew.frozen? ⟨g,0+i *2+t,none⟩=false):=λt E=>by
  rw[s1.o] at E;exact cH own _ aQ
 have I:aH (∀t u,news[t]?=some u->w.drew.cell? ((⟨g,(i+1) *2,none⟩:aJ).add t)=some u):=λt u hu=>by
  have E:t<k *2:=by rw[<-s1.o];exact(aaX.1 hu).1
  have hF:=oT pV.len L (i+1);rw[b,hF,acL] at hu;rw[Addr.add_lit];obtain⟨cur,_,J,_,_,_,K⟩:=eK own;show w.cell? _=_;rw[cell_of_row w g _ cur _ (0,0) J,<-hu,<-K,abU,aaK aQ,abG]
 obtain⟨m,h⟩:∃m,m=w.drew.setCells g (0+i *2) news:=⟨_,rfl⟩
 have F:=aP h;have y:=tX (w:=w.drew) pV.len own.drew i k r [.int .i64 0, .int .i64 0] rfl;rw[<-b,show i *2=0+i *2 by omega,<-h] at y;have a:=aP y;have d:∀j,j<c *2->(m.cell? ⟨g,j,none⟩).isSome=true/\m.frozen? ⟨g,j,none⟩=false:=λj z=>by
  rw[h];have:=cH own j z;exact⟨Go.World.isSome_setCells g _ _ _ _ this.1,by rw[World.frozen?_setCells];exact this.2⟩
 have l:∀ty q A,q=1->(Builtin.clear_ #[301] ty #[.slice (some ⟨g,(i+k) *2,none⟩) q A]).run prog m= .ok (.tuple #[]) (m.setCells g ((i+k) *2) [.int .i64 0, .int .i64 0]):=λty q A B=>
  kZ m _ 327 ty _ underlying301 kM [.int .i64 0, .int .i64 0] aV cD g ((i+k) *2) q A B (λj z=>d _ (by simp at z;omega))
 clear h y d b;rw[r];rw[r] at v;have M:i<=c:=aQ;have N:i+1<=c:=aQ;have O:(0:Int)<=i+1:=aQ;have P:(i:Int)+1<=(i:Int)+1+(k:Int):=aQ;by_cases hce:c=i+1
 .obtain rfl:k=0:=aQ;obtain rfl:news= []:=abO (by rw[s1.o]);have C:aH (∀t u,([]:List aC)[t]?=some u->w.drew.cell? ((⟨g,0,none⟩:aJ).add t)=some u):=λt u hu=>by simp at hu
  subst hce;have f:=λty=>l ty (i+1 - i) (i+1 - i) aQ
  simp only[aa3] at f s⊢;have Q:(i:Int)<=(i:Int)+1:=aQ;have R:i+1 - i=1:=aQ;rw[R] at f;clear l;go_enter func154,ntmps154
  go_wp2_with fail
  go_region_law (refine step_append_room rfl (.tmp 22) (.tmp 25) 301 rfl 327 i0 2 underlying301 n p g 0 i (i+1) (by simp[Act.eval,Act.put]) ⟨g,0,none⟩ 0 0 [] (by simp[Act.eval,Act.put]) s1.o C.o s2.o aQ D.o ?_;rw[<-F.o])
  go_wp2
  go_ret
  exact⟨fJ aQ,a.o.1,⟨a.o.2.os,a.o.2.tape,a.o.2.output,a.o.2.size,a.o.2.block⟩⟩
 .have f:=λty=>l ty (i+1+k - (i+k)) (c - (i+k)) aQ
  clear l;go_enter func154,ntmps154
  go_wp2_with fail
  go_region_law (refine step_append_room rfl (.tmp 22) (.tmp 25) 301 rfl 327 i0 2 underlying301 n p g 0 i c (by simp[Act.eval,Act.put]) ⟨g,(i+1) *2,none⟩ k (c - (i+1)) news (by simp[Act.eval,Act.put]) s1.o I.o s2.o aQ D.o ?_;rw[<-F.o])
  go_wp2
  go_ret
  exact⟨fJ aQ,a.o.1,⟨a.o.2.os,a.o.2.tape,a.o.2.output,a.o.2.size,a.o.2.block⟩⟩
end Wu
def JY(L:List Rl)(de:Int):Int:=match L.findIdx? λr=>decide (de<r.at_) with|some i=>i|none=> -1
theorem Sl.Mi{xs:List Rl}(h:Sl uD 2 w A xs)(hi:i<xs.length):
 ∃b off,A=some ⟨b,off,none⟩/\w.cell? ⟨b,off+i *2,none⟩=some (.int .i64 xs[i].at_)/\w.cell? ⟨b,off+i *2+1,none⟩=some (.int .i64 xs[i].am):=by
 obtain⟨b,off,a,hc⟩:=h.at_ hi;exact⟨b,off,a,by simpa using hc 0 _ (show(uD xs[i])[0]?=some (.int .i64 xs[i].at_) from rfl),by simpa[abV] using hc 1 _ (show(uD xs[i])[1]?=some (.int .i64 xs[i].am) from rfl)⟩
theorem ZA(de:Int)(e:Rl)(b:Nat)(w:aA)(c1:w.cell? (b,2)=some (.int .i64 de)):
 aG prog 201 #[.agg #[e.at_,e.am], .pointer b] w λr w'=>r= .returned (.bool (decide (de<e.at_)))/\aD w w w':=by
 have h1:=bD (aX w (Obj.cells #[e.at_,e.am] 327)) c1;clear c1;go_enter func201,ntmps201
 go_wp2
 go_ret
 exact⟨iO aT,aX _ _⟩
theorem TB:∀args w,(callFunc 201 args).run prog w= .ok (.enter 201 args) w:=enters_of func201 aV rfl
theorem YL(A:Option aJ)(L:List Rl)(c:Nat)(de:Int)(b1:Nat)(w:aA)(hs:Sl uD 2 w A L)(u:L.length<=4000000)(c1:w.cell? (b1,2)=some (.int .i64 de)):
 aG prog 200 #[(A,L.length,c), .func (.func 201) #[] #[.pointer b1]] w λe w'=>e= .returned (.int .i64 (JY L de))/\aD w w w':=by
 have v:=TB;go_enter func200,ntmps200
 go_wp2
 go_loopw [5,8] (λ_ q wr=>∃k:Nat,k<=L.length/\q= .int .i64 k/\aD w w wr/\aH (∀j,(a:j<L.length)->j<k->decide (de<L[j].at_)=false)) (λ_ i _=>L.length - (intOf i).toNat)
 case atStart=>exact⟨0,aaQ _,rfl,Below.refl _ w,λj a h=>absurd h (acK _)⟩
 case round=>
  obtain⟨k,hk,rfl,d,f⟩:=hrel;by_cases g:k<L.length
  .obtain⟨b,off,rfl,z,B⟩:=(hs.keep d).Mi g;have C:(0:Int)<=k:=aQ;have D:(k:Int)<(L.length:Int):=aQ;have hc:=ZA de L[k] b1 wr (bD d c1);have HQ:aH (decide (de<L[k].at_)=true->JY L de=k):=λh=>by
    unfold JY;rw[aa5.2 ⟨g,h,λj a=>by rw[f.o j aQ a];simp⟩]
   have l:aH (decide (de<L[k].at_)=false->∀j,(a:j<L.length)->j<k+1->decide (de<L[j].at_)=false):=λh j a r=>by
    by_cases he:j=k
    .subst he;exact h
    .exact f.o j a aQ
   clear f;generalize L[k]=y at *;cases hq:decide (de<y.at_) with
   |true=>
    rw[hq] at hc;have m:=aP (HQ.o hq);clear hq HQ l;go_wp2_with(go_at_fn 201;(with_reducible refine hc.mono ?_);rintro e w' ⟨rfl,n⟩)
    go_ret
    exact⟨gY m.o.symm,dQ d (aaH _) n⟩
   |false=>
    rw[hq] at hc;have p:=aP (l.o hq);clear hq HQ l;go_wp2_with(go_at_fn 201;(with_reducible refine hc.mono ?_);rintro e w' ⟨rfl,n⟩)
    go_roundw
    case rel=>exact⟨k+1,aQ,by go_num,dQ d (aaH _) n,p.o⟩
    case measure=>simp[intOf];omega
  .obtain rfl:k=L.length:=aQ;have s:aH (JY L de= -1):=by
    unfold aH JY;rw[abP.2 (λx t=>by obtain⟨j,a,rfl⟩:=aa2 t;exact f.o j a a)]
   clear f;go_wp2
   go_ret
   exact⟨gY s.o.symm,d⟩
end
variable{sz q g:Nat}{cs:Array aC}{F:Nat->Prop}
section
theorem Iz{base c:Nat}{A:Option aJ}{L:List Rl}(y:Rl)(V d:Nat)(w:aA)(own:bB uD 2 w base 327 A c L)(hb:base<=w.heap.size)(hV:Sl uD 2 w V [y])(hl:L.length<=4000000):
 aG prog 202 #[(A,L.length,c),L.length, .slice V 1 d] w λe w'=>∃(A':Option aJ) (c':Nat),e= .returned (.slice A' (L.length+1) c')/\bB uD 2 w' base 327 A' c' (L++ [y])/\w.grownBy w' (aZ A)/\(aZ A'=aZ A\/aZ A'=some w.heap.size):=by
 have hcap:=own.cap;obtain⟨n,hn⟩:∃n,n=L.length:=⟨_,rfl⟩
 rw[<-hn] at hcap hl⊢;have HN:=aP hn.symm;have n0:(0:Int)<=n:=aQ;have n1:(n:Int)<=(c:Int):=aQ;clear hn;rcases own.shape with⟨rfl,h2,rfl⟩|⟨g,rfl⟩
 .obtain rfl:n=0:=by have:=HN.o;rw[h2] at this;simpa using this.symm
  go_enter func202,ntmps202
  go_wp2_with(at_builtin;refine bN w rfl (.tmp 23) (.tmp 24) rfl Jl pV own (n:=0) HN.o rfl (m:=1) rfl (ys:= [y]) rfl hV dT aQ hb _ rfl 1 rfl ?_;intro A5 c5 w6 own6 hg6 at6;(have HW:=cZ own6 hg6 at6);clear own6 hg6 at6)
  go_ret
  exact⟨A5,c5,rfl,HW.o.1,HW.o.2.1,HW.o.2.2⟩
 .by_cases hnc:c=n
  .subst hnc;go_enter func202,ntmps202
   go_wp2_with(at_builtin;refine bN w rfl (.tmp 23) (.tmp 24) rfl Jl pV own (n:=c) HN.o rfl (m:=1) rfl (ys:= [y]) rfl hV dT aQ hb _ rfl (c+1) rfl ?_;intro A5 c5 w6 own6 hg6 at6;(have HW:=cZ own6 hg6 at6);clear own6 hg6 at6)
   go_ret
   exact⟨A5,c5,rfl,HW.o.1,HW.o.2.1,HW.o.2.2⟩
  .go_enter func202,ntmps202
   go_wp2_with(at_builtin;refine bN w rfl (.tmp 23) (.tmp 24) rfl Jl pV own (n:=n) HN.o rfl (m:=1) rfl (ys:= [y]) rfl hV dT aQ hb _ rfl (n+1) rfl ?_;intro A5 c5 w6 own6 hg6 at6;(have HW:=cZ own6 hg6 at6);clear own6 hg6 at6)
   go_ret
   exact⟨A5,c5,rfl,HW.o.1,HW.o.2.1,HW.o.2.2⟩
structure Sv where
 bu:Int
 pe:Int
 nw:Int
 av:Int
 ch:List Ck
 rf:List Rl
 cg:Int
def zF(s:Sv)(A:Option aJ)(c:Nat)(B:Option aJ)(d:Nat):Array aC:=#[s.bu,s.pe,s.nw,s.av,(A,s.ch.length,c),(B,s.rf.length,d),s.cg]
structure gM(F:Nat->Prop)(w:aA)(g:Nat)(s:Sv)(A:Option aJ)(c:Nat)(B:Option aJ)(d:Nat):Prop where
 b:bC w g 303 (zF s A c B d)
 oA:bB zK 3 w (g+1) 329 A c s.ch
 oB:bB uD 2 w (g+1) 327 B d s.rf
 fl:Ol F w
 fg:¬F g
 fA:∀q,aZ A=some q->¬F q
 fB:∀q,aZ B=some q->¬F q
def tA(F:Nat->Prop)(w:aA)(g:Nat)(s:Sv):Prop:=∃A c B d,gM F w g s A c B d
theorem yV{α:Type}{enc:α->List aC}{B c:Nat}{e:aN}{xs:List α}(h:bB enc sz w B e A c xs):∀q,aZ A=some q->∃cs,bC w q e cs:=λq hq=>by
 rcases h.2 with⟨a,_⟩|⟨g,cap,cur,a,f,b,_⟩
 .injection a with a;rw[a] at hq;cases hq
 .injection a with a;rw[a] at hq;injection hq with hq;subst hq;exact⟨cur,b⟩
theorem Dp{p:Nat}{t b:aN}{cs':Array aC}(h:bC w p t cs)(a:bC w q b cs')(f:t≠b):p≠q:=λe=>by
 subst e;unfold bC at h a;rw[h] at a;injection a with a;injection a with _ i;exact f i
section
variable{F:Nat->Prop}{w w':aA}{g c d:Nat}{s:Sv}{A B:Option aJ}
theorem gM.apart(h:gM F w g s A c B d):∀q,aZ A=some q->aZ B≠some q:=λq hq e=>by
 obtain⟨cs,h1⟩:=yV h.oA q hq;obtain⟨cs',a⟩:=yV h.oB q e;exact Dp h1 a cD rfl
theorem gM.keep(h:gM F w g s A c B d)(a:aD w w w'):gM F w' g s A c B d:=⟨h.b.keep a,h.oA.keep a,h.oB.keep a,h.fl.kp (h.fl.below a),h.fg,h.fA,h.fB⟩
theorem tL{α:Type}{enc:α->List aC}{e:aN}{xs:List α}(h:bB enc sz w (g+1) e A c xs):aZ A=none\/aZ A≠some g:= .inr λe=>by have:=(h.lt g e).1;omega
theorem gM.cells(h:gM F w g s A c B d){s':Sv}(hc:s'.ch=s.ch)(b:s'.rf=s.rf)(a:w.grownBy w' (some g))(e:bC w' g 303 (zF s' A c B d)):gM F w' g s' A c B d/\Kp F w w':=by
 have k:=h.fl.self h.fg a;exact⟨⟨e,by rw[hc];exact h.oA.kept a (tL h.oA),by rw[b];exact h.oB.kept a (tL h.oB),h.fl.kp k,h.fg,h.fA,h.fB⟩,k⟩
end
theorem M8{s:Sv}(h:tA F w g s)(l:s.ch.length<=4000000):aG prog 116 #[.pointer g] w λe w'=>e= .returned (match s.ch with| []=> .tuple #[aU,false]|x::_=> .tuple #[x.de,true])/\w=w':=by
 obtain⟨A,c,B,d,h⟩:=h;have c3:=h.b.cell 4 (.slice A s.ch.length c) rfl;cases a:s.ch with
 |nil=>
  rw[a] at c3;simp only[ab5] at c3;clear h;go_enter func116,ntmps116
  go_wp2_with fail
  go_ret2
  exact⟨rfl,rfl⟩
 |cons x xs=>
  have f:=h.oA;rw[a] at c3 f l;simp only[abM] at c3 l;obtain⟨q,rfl⟩:∃q,A=some ⟨q,0,none⟩:=by
   rcases f.shape with⟨_,k,_⟩|k
   .cases k
   .exact k
  have d2:w.cell? ⟨q,2,none⟩=some (.int .i64 x.de):=by simpa using bG kI f (i:=0) aT (j:=2) (v:= .int .i64 x.de) rfl
  have n0:(0:Int)<(xs.length:Int)+1:=aQ;clear h f a;generalize xs.length=n at *;go_enter func116,ntmps116
  go_wp2_with fail
  go_ret2
  exact⟨rfl,rfl⟩
theorem NJ(w:aA):aG prog 116 #[PN] w λe w'=>e= .returned (.tuple #[aU,false])/\w=w':=by
 go_enter func116,ntmps116
 go_wp2_with fail
 go_ret2
 exact⟨rfl,rfl⟩
end
variable{w' w6:aA}{n:Nat}{B A6:Option aJ}
section
def gU(s:Sv)(x:Ck):Sv:=if x.us=0 then s else {s with rf:=s.rf++ [⟨x.de,x.us⟩]}
def YO(y:Rl)(N:Nat)(v:aC)(w:aA):Prop:=∃G,v= .slice (some ⟨G,0,none⟩) 1 1/\N<=G/\Sl uD 2 w (some ⟨G,0,none⟩) [y]
theorem YO.keep{y:Rl}{v:aC}(h:YO y g v w)(a:bV w w'):YO y g v w':=by obtain⟨G,h1,b,c⟩:=h;exact⟨G,h1,b,c.keep a⟩
def Ra(F:Nat->Prop)(g:Nat)(v:aC)(s:Sv)(w:aA)(e:Ending)(w':aA):Prop:=e= .returned v/\tA F w' g s/\Kp F w w'
theorem gM.yC{c d c6:Nat}{s:Sv}{y:Rl}(h:gM F w g s A c B d)(p:n=s.rf.length)(a:bB uD 2 w6 (g+1) 327 A6 c6 (s.rf++ [y]))(k:w.grownBy w6 (aZ B))(l:aZ A6=aZ B\/aZ A6=some w.heap.size):
 gM F (w6.setCell (g,5) (.slice A6 (n+1) c6)) g {s with rf:=s.rf++ [y]} A c A6 c6/\Kp F w (w6.setCell (g,5) (.slice A6 (n+1) c6)):=by
 have m:Kp F w w6:=Kp.grown k λb j=>⟨h.fl b j,λe=>h.fB b e.symm j⟩
 have r:=h.b.grown k (λe=>by have:=(h.oB.lt g e.symm).1;omega);have i:bB zK 3 w6 (g+1) 329 A c s.ch:=h.oA.kept k (by
  cases j:aZ A with
  |none=>exact .inl rfl
  |some q=>right;intro e;exact h.apart q j e.symm)
 have f:=aY (bE w6 g) 5 (.slice A6 (n+1) c6);have o:Kp F w6 (w6.setCell (g,5) (.slice A6 (n+1) c6)):=(h.fl.kp m).self h.fg f;refine⟨⟨?_,i.kept f (tL i),a.kept f (tL a),(h.fl.kp m).kp o,h.fg,h.fA,λq hq hF=>?_⟩,m.trans o⟩
 .have:=r.bQ 5 (.slice A6 (n+1) c6);subst p;simpa[zF] using this
 .rcases l with e|e
  .exact h.fB q (e ▸ hq) hF
  .rw[e] at hq;injection hq with hq;have:=h.fl q hF;omega
theorem Ds{c d:Nat}{s:Sv}(h:gM F w g s A c B d)(x:Ck)(J:∀r∈s.rf,r.at_<=x.de)(hl:s.rf.length<=3000000):
 aG prog 155 #[.pointer g, .agg #[x.lf,x.us,x.de]] w λe w'=>e= .returned (.tuple #[])/\(∃B' d',gM F w' g (gU s x) A c B' d')/\Kp F w w':=by
 have q:=bC.new w 329 #[x.lf,x.us,x.de];have h1:=h.keep (aX w (Obj.cells #[x.lf,x.us,x.de] 329));have E:=h.fl.below (aX w (Obj.cells #[x.lf,x.us,x.de] 329));by_cases hu:x.us=0
 .have L:aH (gU s x=s):=by unfold aH gU;rw[aaK hu]
  have z:=q.cell 1 x.us rfl;have xu:(x.us==0)=true:=by simp[hu]
  have HD:=bH h1 E;clear h1 E q hu h J;go_enter func155,ntmps155
  go_wp2_with fail
  refine bodyPost_ret (v:= .tuple #[]) (by simp[results,results155,go_sem]) rfl ?_;exact⟨rfl,by rw[L.o];exact⟨B,d,HD.o.1⟩,HD.o.2⟩
 .have L:aH (gU s x={s with rf:=s.rf++ [⟨x.de,x.us⟩]}):=by unfold aH gU;rw[aaL hu]
  have H:=aP (YL B s.rf d x.de w.heap.size _ (h1.oB.sl pV) aQ (q.cell 2 _ rfl));have hp:JY s.rf x.de= -1:=by
   unfold JY;rw[abP.2 (λr hr=>by have:=J r hr;simp;omega)]
  rw[hp] at H;have z:=q.cell 1 x.us rfl;have c5:=h1.b.cell 5 (.slice B s.rf.length d) rfl;have xu:(x.us==0)=false:=by simpa using hu
  have HD:=cZ h1 E q;obtain⟨n,M⟩:∃n,n=s.rf.length:=⟨_,rfl⟩
  rw[<-M] at H c5 hl;have N:=aP M;clear h1 E q hu h J M hp;go_enter func155,ntmps155
  go_upto_region 1 with(fail)
  generalize w.alloc (Obj.cells #[x.lf,x.us,x.de] 329)=w1 at *;generalize w.heap.size=xq at *;go_wp2_with fail
  refine aR H ?_;rintro e w2 ⟨rfl,u⟩;replace c5:=bD u c5;have U:=(HD.o.2.2.keep u).cell 2 x.de rfl;replace z:=bD u z;have l:=bH (HD.o.1.keep u) (HD.o.2.1.trans (HD.o.1.fl.below u));clear u H HD;obtain⟨y,O⟩:∃y:Rl,y=⟨x.de,x.us⟩:=⟨_,rfl⟩
  have V:aH (∀(W:aA) t,Sl uD 2 (W.alloc (.cells #[x.de,x.us] t)) (some ⟨W.heap.size,0,none⟩) [y]):=λW t=>Sl.new pV W y _ (by rw[O];rfl) t
  have P:=aP O;clear O;go_upto_region 5 with(fail)
  have a:=bF z;have f:=bF U;have i:=bF c5;refine bS (bV _) (λ_=>bV) [32] (λ_ v w=>YO y w2 v w) [12,15] [[12,11,10,7], [12,11,10,9]] 36 (cM _) (λ_ _ _ h Q=>bZ h Q) (λ_ d hd _ v w w' _ h Q=>h.keep Q) aV aV bK ?_;repeat (first|(refine fQ ?_)|(refine JT 32 [] bK bK bK bK (λγ w hC R=>?_) ?_;(simp only[dG];go_simp;exact DD (aX w _) ⟨_,rfl,Below.size hC,V.o w _⟩);(try refine dB ?_)))
  refine eL ?_;intro γ w5 m R;clear a f i;simp only[dG,Act.put,aaI,aaP,aaN];refine eT ?_;obtain⟨G,X,hG,C⟩:=R 32 aT;rw[X];have I:=l.o.1.keep m;have S:=Iz y G 1 w5 I.oB (by have:=I.b.lt;omega) C (by rw[<-N.o];omega);rw[<-N.o] at S;have T:=aP S;have j:=bH I (l.o.2.trans (l.o.1.fl.below m));clear X R V c5 z U I m C S;refine wpList_plain rfl (λK hK=>?_);go_wp2_with fail
  refine aR T ?_;rintro e Y ⟨A6,c6,rfl,k,p,D⟩;refine hK _ _ ?_;clear hK K;try refine dB ?_
  have Z:=j.o.1.b.grown p (λe=>by have:=(j.o.1.oB.lt g e.symm).1;omega);refine dU Y rfl 301 _ _ rfl g 5 (.slice A6 (n+1) c6) rfl rfl aV rfl (Z.one (by simp[zF])) ?_;refine cP ?_;try simp only[Act.put]
  obtain⟨m1,m2⟩:=j.o.1.yC N.o k p D;have HM:=bH m1 (j.o.2.trans m2);generalize Y.setCell (g,5) (.slice A6 (n+1) c6)=w7 at *;clear m1 m2 k p D Z;go_wp2_with fail
  go_end0
  exact⟨rfl,by rw[L.o,<-P.o];exact⟨_,_,HM.o.1⟩,HM.o.2⟩
theorem Fw{s:Sv}(h:tA F w g s)(x:Ck)(a:∀r∈s.rf,r.at_<=x.de)(b:s.rf.length<=3000000):
 aG prog 155 #[.pointer g, .agg #[x.lf,x.us,x.de]] w (Ra F g (.tuple #[]) (gU s x) w):=by
 obtain⟨A,c,B,d,h⟩:=h;exact(Ds h x a b).mono λe w' ⟨h1,⟨B',i,f⟩,h3⟩=>⟨h1,⟨_,_,_,_,f⟩,h3⟩
end
variable{j d:Nat}{w5:aA}
section
section
variable{F:Nat->Prop}{w:aA}{g q c d:Nat}{s:Sv}{B:Option aJ}{x:Ck}{xs:List Ck}
structure Zj(w:aA)(g q c:Nat)(x:Ck)(n:Nat):Prop where
 c4:w.cell? (g,4)=some (.slice q (n+1) c)
 d0:w.cell? (q,0)=some (.int .i64 x.lf)
 d1:w.cell? (q,1)=some (.int .i64 x.us)
 d2:w.cell? (q,2)=some (.int .i64 x.de)
 f0:w.frozen? (q,0)=false
 f1:w.frozen? (q,1)=false
theorem gM.hd(h:gM F w g s q c B d)(hs:s.ch=x::xs):Zj w g q c x xs.length:=by
 have a:=h.oA;rw[hs] at a;have e:=a.cap;simp only[abM] at e;refine⟨?_,?_,?_,?_,(cH a 0 aQ).2,(cH a 1 aQ).2⟩
 .have:=h.b.cell 4 (.slice q s.ch.length c) rfl;rw[hs] at this;exact this
 .simpa using bG kI a (i:=0) aT (j:=0) (v:= .int .i64 x.lf) rfl
 .simpa using bG kI a (i:=0) aT (j:=1) (v:= .int .i64 x.us) rfl
 .simpa using bG kI a (i:=0) aT (j:=2) (v:= .int .i64 x.de) rfl
theorem gM.head(h:gM F w g s q c B d)(hs:s.ch=x::xs)(n:j<3)(a:Ck)(v:aC)(o:zK a=(zK x).set j v):gM F (w.setCell (q,j) v) g {s with ch:=a::xs} (some ⟨q,0,none⟩) c B d/\Kp F w (w.setCell (q,j) v):=by
 have m:=h.oA;rw[hs] at m;obtain⟨h1,f⟩:=qR kI.len m (i:=0) aT n a v o;simp only[adY,abQ,aaP] at h1 f;have k:=h.fl.self (h.fA q rfl) f;have l:g≠q:=λe=>by have u:=(h.oA.lt q rfl).1;omega
 refine⟨⟨?_,h1,h.oB.kept f ?_,h.fl.kp k,h.fg,h.fA,h.fB⟩,k⟩
 .have:=h.b.mG (p:=⟨q,j,none⟩) l v;simpa[zF,hs] using this
 .cases t:aZ B with
  |none=>exact .inl rfl
  |some r=>right;intro e;exact h.apart q rfl (by rw[t];exact e)
theorem gM.Uv(h:gM F w g s q c B d)(v:Int):gM F (w.setCell (g,6) v) g {s with cg:=v} (some ⟨q,0,none⟩) c B d/\Kp F w (w.setCell (g,6) v):=
 h.cells (s':={s with cg:=v}) rfl rfl (aY (bE w g) 6 _) (by have:=h.b.bQ 6 v;simpa[zF] using this)
end
theorem gM.cut{c:Nat}{s:Sv}{xs:List Ck}(h:gM F w g s q c B d)(o:n=xs.length)(a:bB zK 3 w5 (g+1) 329 q c xs)(j:w.grownBy w5 (some q)):
 gM F (w5.setCell (g,4) (.slice q n c)) g {s with ch:=xs} (some ⟨q,0,none⟩) c B d/\Kp F w (w5.setCell (g,4) (.slice q n c)):=by
 subst o;have k:Kp F w w5:=h.fl.self (h.fA q rfl) j;have l:g≠q:=λe=>by have u:=(h.oA.lt q rfl).1;omega
 have p:=h.b.grown j (λe=>l (by injection e));have i:bB uD 2 w5 (g+1) 327 B d s.rf:=h.oB.kept j (by
  cases t:aZ B with
  |none=>exact .inl rfl
  |some r=>right;intro e;exact h.apart q rfl (by rw[t];exact e))
 have f:=aY (bE w5 g) 4 (.slice q xs.length c);have m:=(h.fl.kp k).self h.fg f;exact⟨⟨by have:=p.bQ 4 (.slice q xs.length c);simpa[zF] using this,a.kept f (tL a),i.kept f (tL i),(h.fl.kp k).kp m,h.fg,h.fA,h.fB⟩,k.trans m⟩
theorem Ig(s:Sv)(x:Ck):(gU s x).ch=s.ch:=by unfold gU;split <;> rfl
def iW(s:Sv):Sv:=match s.ch with
 | []=>s
 |x::xs=>if x.lf - 1=0 then {gU {s with ch:=⟨x.lf - 1,x.us+1,x.de⟩::xs,cg:=s.cg+1} ⟨x.lf - 1,x.us+1,x.de⟩ with ch:=xs} else {s with ch:=⟨x.lf - 1,x.us+1,x.de⟩::xs,cg:=s.cg+1}
theorem Fu{s:Sv}{x:Ck}{xs:List Ck}(h:tA F w g s)(hs:s.ch=x::xs)(J:∀r∈s.rf,r.at_<=x.de)(K:s.rf.length<=3000000)(t:s.ch.length<=3000000)
 (b1:1<=x.lf/\x.lf<=1048576) (b2:0<=x.us/\x.us<=1048576) (b3:0<=s.cg/\s.cg<=1048576):
 aG prog 114 #[.pointer g] w (Ra F g (.bool true) (iW s) w):=by
 obtain⟨A,c,B,d,h⟩:=h;obtain⟨q,rfl⟩:∃q,A=some ⟨q,0,none⟩:=by
  rcases h.oA.shape with⟨_,f,_⟩|f
  .rw[f] at hs;cases hs
  .exact f
 have W:=h.hd hs;obtain⟨m1,L⟩:=h.head hs (j:=0) aQ ⟨x.lf - 1,x.us,x.de⟩ (.int .i64 (x.lf - 1)) rfl;have h1:=m1.hd rfl;obtain⟨m2,M⟩:=m1.head rfl (j:=1) aQ ⟨x.lf - 1,x.us+1,x.de⟩ (.int .i64 (x.us+1)) rfl;have f:=m2.b.cell 6 s.cg rfl;obtain⟨m3,N⟩:=m2.Uv (s.cg+1);have O:=m3.hd rfl;have G:xs.length+1<=3000000:=by rw[hs] at t;exact t
 have P:aH (iW s=if x.lf - 1=0 then {gU {s with ch:=⟨x.lf - 1,x.us+1,x.de⟩::xs,cg:=s.cg+1} ⟨x.lf - 1,x.us+1,x.de⟩ with ch:=xs} else {s with ch:=⟨x.lf - 1,x.us+1,x.de⟩::xs,cg:=s.cg+1}):=by unfold aH iW;rw[hs]
 have Q:=aP (Fw (s:={s with ch:=⟨x.lf - 1,x.us+1,x.de⟩::xs,cg:=s.cg+1}) ⟨_,_,_,_,m3⟩ ⟨x.lf - 1,x.us+1,x.de⟩ J K);have E:=bH m3 ((L.trans M).trans N);obtain⟨a0,i,a2,a3,a4,a5⟩:=W;have f6:=m2.b.frozen 6;have n0:(0:Int)<(xs.length:Int)+1:=aQ;have H1:=aP h1;have X:=aP f;have R:=aP O;have Y:=aP f6;clear h m1 m2 m3 L M N h1 f O J hs K t f6;obtain⟨n,H⟩:∃n,n=xs.length:=⟨_,rfl⟩
 rw[<-H] at a0 H1 R n0 G;have k:=aP H;clear H;go_enter func114,ntmps114
 go_upto_region 4 with(fail)
 generalize w.setCell ⟨q,0,none⟩ (.int .i64 (x.lf - 1))=Z at *;clear a0 i a2 a3 a4 a5;obtain⟨a0,i,a2,a3,a4,a5⟩:=H1.o;simp only at i a2 a3;go_upto_region 5 with(fail)
 generalize Z.setCell ⟨q,1,none⟩ (.int .i64 (x.us+1))=w2 at *;clear a0 i a2 a3 a4 a5;have a6:=X.o;have a7:=Y.o;go_upto_region 6 with(fail)
 generalize w2.setCell (g,6) (.int .i64 (s.cg+1))=w3 at *;clear a6 a7;obtain⟨a0,i,a2,a3,a4,a5⟩:=R.o;simp only at i a2 a3;by_cases z:x.lf - 1=0
 .have z1:(x.lf - 1==0)=true:=by simp[z]
  have u:=P.o;rw[aaK z] at u;have v:=aP u;clear u z;go_wp2_with fail
  refine aR Q ?_;rintro e I ⟨rfl,⟨A4,c4,B4,d4,m4⟩,S⟩;have a:=Ig {s with ch:=⟨x.lf - 1,x.us+1,x.de⟩::xs,cg:=s.cg+1} ⟨x.lf - 1,x.us+1,x.de⟩;simp only at a;generalize gU {s with ch:=⟨x.lf - 1,x.us+1,x.de⟩::xs,cg:=s.cg+1} ⟨x.lf - 1,x.us+1,x.de⟩=s4 at *;obtain⟨m,rfl⟩:∃q,A4=some ⟨q,0,none⟩:=by
   rcases m4.oA.shape with⟨_,f,_⟩|f
   .rw[f] at a;cases a
   .exact f
  have T:=m4.hd a;rw[<-k.o] at T;have y:=m4.oA;rw[a] at y;have U:aG prog 156 #[.slice m (n+1) c4,aU, .int .i64 1] I λe w'=>e= .returned (.slice m n c4)/\bB zK 3 w' (g+1) 329 m c4 xs/\I.grownBy w' (some m):=by
   have:=Wl.lP m c4 0 xs.length (g+1) (⟨x.lf - 1,x.us+1,x.de⟩::xs) I y bL (by have:=k.o;simp;omega);rw[k.o];simpa using this
  have HD:=aP U;have C:=bH m4 (E.o.2.trans S);clear U m4 S y Q E a0 i a2 a3 a4 a5;obtain⟨a0,i,a2,a3,a4,a5⟩:=T;go_wp2_with fail
  refine aR HD ?_;rintro e w5 ⟨rfl,p,l⟩;obtain⟨m6,V⟩:=C.o.1.cut k.o p l;have f4:=(C.o.1.b.grown l (λe=>by have h9:=(C.o.1.oA.lt m rfl).1;injection e with e;omega)).frozen 4;have c4':=(C.o.1.b.grown l (λe=>by have h9:=(C.o.1.oA.lt m rfl).1;injection e with e;omega)).cell 4 (.slice m s4.ch.length c4) rfl;have D:=bH m6 (C.o.2.trans V);clear m6 V p l a0 i a2 a3 a4 a5;go_wp2_with fail
  go_ret
  exact⟨rfl,by rw[v.o];exact⟨_,_,_,_,D.o.1⟩,D.o.2⟩
 .have z1:(x.lf - 1==0)=false:=by simpa using z
  have u:=P.o;rw[aaL z] at u;have v:=aP u;clear u z;go_wp2_with fail
  go_ret
  exact⟨rfl,by rw[v.o];exact⟨_,_,_,_,E.o.1⟩,E.o.2⟩
end
end
section
def jL(now:Int):Int->List Rl->Int×List Rl
 |av, []=>(av, [])
 |av,r::rs=>if r.at_<=now then jL now (av+r.am) rs else(av,r::rs)
def iN(now:Int)(s:Sv):Sv:={s with nw:=now,av:=(jL now s.av s.rf).1,rf:=(jL now s.av s.rf).2}
def dS(s:Sv)(x:Ck):Sv:=gU {s with av:=s.av+x.lf} x
def dE(s:Sv)(now:Int)(ready:Bool):Sv:=
 if ready then(if 0<(iN now s).av then {iN now s with ch:=(iN now s).ch++ [⟨(iN now s).av,0,now+s.pe⟩],av:=0} else iN now s)
 else {s.ch.foldl dS (iN now s) with ch:= []}
def lA(l:List Rl):Int:=(l.map Rl.am).sum
def mM(l:List Ck):Int:=(l.map λx=>x.lf+x.us).sum
structure qE(s:Sv):Prop where
 av:0<=s.av
 ch:∀x∈s.ch,1<=x.lf/\0<=x.us
 rf:∀r∈s.rf,0<=r.am
 all:s.av+mM s.ch+lA s.rf=s.bu
 bu:1<=s.bu/\s.bu<=s.pe/\s.pe<=1048576
 ord:s.ch.Pairwise λx y=>x.de<=y.de
 AF:∀r∈s.rf,∀x∈s.ch,r.at_<=x.de
theorem rN(r:Rl)(l:List Rl):lA (r::l)=r.am+lA l:=by simp[lA]
theorem F4(r:Rl)(l:List Rl):lA (l++ [r])=lA l+r.am:=by simp[lA]
theorem kP(x:Ck)(l:List Ck):mM (x::l)=x.lf+x.us+mM l:=by simp[mM]
theorem ZH(x:Ck)(l:List Ck):mM (l++ [x])=mM l+(x.lf+x.us):=by simp[mM]
theorem yK{l:List Rl}(h:∀r∈l,0<=r.am):0<=lA l:=by
 induction l with
 |nil=>simp[lA]
 |cons r l a=>
  have:=h r aT;have:=a λr b=>h r (by simp[b])
  rw[rN];omega
theorem GI{l:List Ck}(h:∀x∈l,1<=x.lf/\0<=x.us):0<=mM l:=by
 induction l with
 |nil=>simp[mM]
 |cons r l a=>
  have:=h r aT;have:=a λr b=>h r (by simp[b])
  rw[kP];omega
theorem UF{now:Int}:∀{l:List Rl} {av:Int},(∀r∈l,0<=r.am)->0<=av->0<=(jL now av l).1/\(jL now av l).1+lA (jL now av l).2=av+lA l/\(∀r∈(jL now av l).2,r∈l)/\(jL now av l).2.length<=l.length
 | [],av,_,h=>⟨h,rfl,λr a=>a,aaH _⟩
 |r::l,av,a,h=>by
  have d:=a r aT;unfold jL;split
  .obtain⟨h1,e,f,g⟩:=UF (now:=now) (l:=l) (av:=av+r.am) (λr b=>a r (by simp[b])) aQ;refine⟨h1,?_,λx c=>by simp[f x c],bL⟩;rw[e,rN];omega
  .exact⟨h,rfl,λx c=>c,aaH _⟩
theorem qE.pop{s:Sv}(h:qE s)(now:Int):qE (iN now s):=by
 obtain⟨h1,d,b,_⟩:=UF (now:=now) h.rf h.av;have:=h.all;exact⟨h1,h.ch,λr a=>h.rf r (b r a),by simp only[iN];omega,h.bu,h.ord,λr a x c=>h.AF r (b r a) x c⟩
structure EE(s:Sv)(s':Sv)(k:Nat):Prop where
 eq:s'=(s.ch.take k).foldl dS s
 ch:s'.ch=s.ch
 av:0<=s'.av
 rf:∀r∈s'.rf,0<=r.am
 sum:s'.av+mM (s.ch.drop k)+lA s'.rf=s.bu
 AF:∀r∈s'.rf,∀x∈s.ch.drop k,r.at_<=x.de
 len:s'.rf.length<=s.rf.length+k
theorem EE.zero{s:Sv}(h:qE s):EE s s 0:=⟨rfl,rfl,h.av,h.rf,h.all,h.AF,aaH _⟩
theorem EE.step{s s':Sv}{k:Nat}(h:qE s)(f:EE s s' k)(hk:k<s.ch.length):EE s (dS s' s.ch[k]) (k+1):=by
 have hd:s.ch.drop k=s.ch[k]::s.ch.drop (k+1):=acG hk;have c:=h.ch _ (aaM hk);have hs:=f.sum;rw[hd,kP] at hs;have hp:∀y∈s.ch.drop (k+1),s.ch[k].de<=y.de:=by
  have h1:=h.ord.sublist (List.drop_sublist k s.ch);rw[hd] at h1;exact(ac2.1 h1).1
 have d:=f.av;have heq:dS s' s.ch[k]=(s.ch.take (k+1)).foldl dS s:=by
  rw[abN,aaG hk,acQ,<-f.eq];rfl
 have hlen:=f.len;by_cases hu:s.ch[k].us=0
 .have b:dS s' s.ch[k]={s' with av:=s'.av+s.ch[k].lf}:=by unfold dS gU;rw[aaK hu]
  exact⟨heq,by rw[b];exact f.ch,by rw[b];simp only;omega,by rw[b];exact f.rf,by rw[b];simp only;omega,by rw[b];exact λr a x c=>f.AF r a x (by rw[hd];exact List.mem_cons_of_mem _ c),by rw[b];simp only;omega⟩
 .have b:dS s' s.ch[k]={s' with av:=s'.av+s.ch[k].lf,rf:=s'.rf++ [⟨s.ch[k].de,s.ch[k].us⟩]}:=by unfold dS gU;rw[aaL hu]
  refine⟨heq,by rw[b];exact f.ch,by rw[b];simp only;omega,?_,by rw[b];simp only;rw[F4];simp only;omega,?_,by rw[b];simp only[aaT,ac5];omega⟩
  .rw[b];intro r a;rcases aa8.1 a with a|a
   .exact f.rf r a
   .simp at a;subst a;exact c.2
  .rw[b];intro r a x c;rcases aa8.1 a with a|a
   .exact f.AF r a x (by rw[hd];exact List.mem_cons_of_mem _ c)
   .simp at a;subst a;exact hp x c
end
end Go.Proofs.YtacgiflhgdaeaaaGreat
