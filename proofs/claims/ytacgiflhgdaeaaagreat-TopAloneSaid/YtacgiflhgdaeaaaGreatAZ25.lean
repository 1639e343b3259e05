/- Texts laid as one. -/
import Derived.Deep.RegionHeld3
import Derived.Test.YtacgiflhgdaeaaaGreatAZ2
import Derived.Test.YtacgiflhgdaeaaaGreatAZ22
import Derived.Test.YtacgiflhgdaeaaaGreatAZ24
set_option linter.unusedVariables false
set_option linter.unusedSimpArgs false
set_option maxRecDepth 100000
set_option maxHeartbeats 20000000
namespace Go.Proofs.YtacgiflhgdaeaaaGreat
open Go.Proofs.Tryz
open Go renaming World->aA,Value->aC,Addr->aJ,Calls->aG
open Go.RowKit renaming Below->aD,Hid->aH
open Go.Obj renaming cells->aI
section
open Go.RowKit Go.Lib Go.Shelf dF Fr Up Nt
variable{rs:List Rm}{i n j:Nat}{v:aC}
section
def bE(rs:List Rm)(i:Nat):Rm:=rs.getD i pK
theorem kK(h:i<rs.length):rs[i]=bE rs i:=by unfold bE;simp[h]
def yJ(F:Nat->Prop)(hb m g:Nat)(c:Int)(k:Kv)(rs:List Rm)(v:aC)(w:aA)(e:Ending)(w':aA):Prop:=e= .returned v/\bV F w' hb m g c k rs/\Kp F w w'
def IM(rs:List Rm)(e:Int):Option aJ:=if 0<=e/\e<4 then(bE rs e.toNat).l.map (λ_=>⟨(bE rs e.toNat).g,0,none⟩) else none
section
variable{F:Nat->Prop}{w w':aA}{hb m g:Nat}{c:Int}{k:Kv}{rs:List Rm}
theorem bV.Q9(h:bV F w hb m g c k rs)(a:n<8)(b:j<15)(d:(fZ (bE rs n))[j]?=some v):w.cell? (hb,2+n *15+j)=some v:=
 h.rc (by rw[h.l8];exact a) b (by rw[kK];exact d)
theorem bV.OI(h:bV F w hb m g c k rs)(a:n<8):w.cell? (hb,2+n *15)=some (pZ (bE rs n).l (bE rs n).g):=h.Q9 (j:=0) a aQ rfl
theorem bV.Jl(h:bV F w hb m g c k rs)(a:n<8):w.cell? (hb,2+n *15+4)=some (.slice (bE rs n).cA (bE rs n).C.length (bE rs n).cc):=h.Q9 (j:=4) a aQ rfl
theorem bV.BF(h:bV F w hb m g c k rs)(a:n<8):pW (bE rs n):=by
 rw[<-kK (by rw[h.l8];exact a)];exact h.ok _ (aaF _)
theorem bV.VI(h:bV F w hb m g c k rs)(a:n<8):w.cell? (hb,2+n *15+14)=some (.bool (bE rs n).ru):=h.Q9 (j:=14) a aQ (by
 have:=(h.BF a).rg.1;unfold fZ;rw[aaJ aT,aaJ bT];simp[this])
theorem PJ(h:bV F w hb m g c k rs)(e:Int):aG prog 26 #[.pointer hb,e] w λr w'=>r= .returned (.pointer (IM rs e))/\aD w w w':=by
 have b:=aP (oM h e);by_cases hc:0<=e/\e<4
 .obtain⟨n,rfl⟩:=aaB hc.1;have i:n<4:=aQ;have c0:=h.OI (n:=n) aQ;have d:aH (IM rs n=(bE rs n).l.map (λ_=>⟨(bE rs n).g,0,none⟩)):=by unfold aH IM;rw[Zz hc];rfl
  unfold pZ at c0;rw[<-d.o] at c0;rw[oP hb i] at b;generalize IM rs n=P at *;clear h hc d;go_enter func26,ntmps26
  go_wp2_with fail
  refine aR b ?_;rintro x j ⟨rfl,a⟩;have d0:=bG a c0;have f:=aP a;clear c0 a b;go_wp2_with fail
  go_ret
  exact⟨rfl,f.o⟩
 .rw[lR hb hc] at b;have d:aH (IM rs e=none):=aaA hc;rw[d.o];clear h hc;go_enter func26,ntmps26
  go_wp2_with fail
  refine aR b ?_;rintro x j ⟨rfl,a⟩;have f:=aP a;clear a b;go_wp2_with fail
  go_ret
  exact⟨rfl,f.o⟩
theorem zS(h:bV F w hb m g c k rs)(b:k.s.P.length<=8)(e:Int):aG prog 71 #[.pointer hb,e] w (yJ F hb m g c {k with s:=jY k.s e true} rs (.int .i64 (xL k.s e)) w):=by
 obtain⟨G,gs,hs,d0,d6,back⟩:=h.sd;have c0:=h.c0;unfold pA at c0;have d:=aP (wP hs b e true);have f:=aP back;clear h hs b back;go_enter func71,ntmps71
 go_wp2_with(go_at_call 11;(refine aS (mS d0) ?_);rintro x j ⟨rfl,rfl⟩)
 refine aR d ?_;rintro x j ⟨rfl,a,i⟩;have l:=aP (f.o _ _ a i).1;clear c0 d0 d6 a i d f;go_wp2_with fail
 go_ret
 exact⟨rfl,l.o⟩
def PE(k:Kv)(e:Int):Kv:=if 0<=e/\e<4 then {k with s:=r6 k.s e} else k
def IV(k:Kv)(e:Int):Int:=if 0<=e/\e<4 then yX k.s e else 1
theorem Ew(h:bV F w hb m g c k rs)(j:gQ k.s)(e:Int):aG prog 35 #[.pointer hb,e] w (yJ F hb m g c (PE k e) rs (.int .i64 (IV k e)) w):=by
 have b:=aP (oM h e);have i:=aP h;have t:=aP j;by_cases hc:0<=e/\e<4
 .obtain⟨n,rfl⟩:=aaB hc.1;have u:n<4:=aQ;unfold PE IV;rw[Zz hc,Zz hc];rw[oP hb u] at b;clear h j hc;go_enter func35,ntmps35
  go_wp2_with fail
  refine aR b ?_;rintro x v ⟨rfl,a⟩;have d:=aP (i.o.below a);clear a b i;obtain⟨G,gs,hs,d0,d6,back⟩:=d.o.1.sd;have c0:=d.o.1.c0;unfold pA at c0;have l:=aP (GQ hs t.o n);have p:=aP back;clear hs back;go_wp2_with(go_at_call 11;(refine aS (mS d0) ?_);rintro x y ⟨rfl,rfl⟩)
  refine aR l ?_;rintro x y ⟨rfl,f,q⟩;have r:=aP (p.o _ _ f q).1;clear c0 d0 d6 f q l p;go_wp2_with fail
  go_ret
  exact⟨rfl,r.o.1,d.o.2.trans r.o.2⟩
 .rw[lR hb hc] at b;unfold PE IV;rw[aaA hc,aaA hc];clear h j hc;go_enter func35,ntmps35
  go_wp2_with fail
  refine aR b ?_;rintro x v ⟨rfl,a⟩;have d:=aP (i.o.below a);clear a b i;go_wp2_with fail
  go_ret
  exact⟨rfl,d.o⟩
def LN(k:Kv)(e bu pe:Int):Kv:=if 0<=e/\e<4 then {k with s:=qN k.s e bu pe} else k
def D4(k:Kv)(e bu pe:Int):Int:=if 0<=e/\e<4 then yS k.s e bu pe else 1
theorem RS(h:bV F w hb m g c k rs)(v:gQ k.s)(e bu pe:Int):aG prog 32 #[.pointer hb,e, .agg #[bu,pe]] w (yJ F hb m g c (LN k e bu pe) rs (.int .i64 (D4 k e bu pe)) w):=by
 have j:=aX w (aI #[bu,pe] 112);have bk:=bF.new w 112 #[bu,pe];have p:bV (Fb F w) (w.alloc (aI #[bu,pe] 112)) hb m g c k rs:=(bV.cD hb m g c k rs).box h h.fl _;have H1:=aP (And.intro p (h.below j).2);have C:=aP v;have i:=aP (oM p e);have y:=bk.cell 0 _ rfl;have z:=bk.cell 1 _ rfl;clear h p v j bk;by_cases hc:0<=e/\e<4
 .obtain⟨n,rfl⟩:=aaB hc.1;have D:n<4:=aQ;unfold LN D4;rw[Zz hc,Zz hc];rw[oP hb D] at i;clear hc;go_enter func32,ntmps32
  go_upto_region 1 with(fail)
  generalize w.alloc (aI #[bu,pe] 112)=w1 at *;generalize w.heap.size=q1 at *;go_wp2_with fail
  refine aR i ?_;rintro x q ⟨rfl,a⟩;have r:=aP (And.intro (H1.o.1.below (a.drew)).1 (H1.o.2.trans ((H1.o.1.below a.drew).2.unbox)));have A:=bG a y;have B:=bG a z;clear a i H1 y z;obtain⟨G,gs,hs,d0,d6,back⟩:=r.o.1.sd;have c0:=r.o.1.c0;unfold pA at c0;have E:=aP (GY hs C.o n bu pe);have t:=aP (λs' w' h k=>back s' w' h k);clear hs back;go_upto_region 3 with(fail)
  go_region_held3 (λW=>W.cell? (hb,0)=some (.pointer m)/\W.cell? (m,0)=some (.pointer g)/\W.cell? (g,6)=some (.pointer gs)/\W.cell? (q1,0)=some (.int .i64 bu)/\W.cell? (q1,1)=some (.int .i64 pe)) (first|exact⟨c0,d0,d6,A,B⟩|exact⟨‹_›,‹_›,‹_›,‹_›,‹_›⟩) ((first|(go_at_call 11;(refine aS (mS (by first|exact d0|assumption)) ?_);rintro x u ⟨rfl,rfl⟩)|(go_at_call 67;(refine aR E ?_);rintro x u ⟨rfl,d,l⟩;have f:=aP (t.o _ _ d l).1;have f0:=(t.o _ _ d l).2.1;have f6:=(t.o _ _ d l).2.2;have H:=f.o.1.c0;unfold pA at H;have z0:=f.o.2.cell A (.inr rfl);have J:=f.o.2.cell B (.inr rfl);have I:aH (bV F u hb m g c {k with s:=qN k.s n bu pe} rs/\Kp F w u):=⟨f.o.1.less λb hb=> .inl hb,r.o.2.trans f.o.2.unbox⟩;clear d l f)))
  go_wp2_with fail
  go_ret
  exact⟨rfl,I.o⟩
 .rw[lR hb hc] at i;unfold LN D4;rw[aaA hc,aaA hc];clear hc;go_enter func32,ntmps32
  go_upto_region 1 with(fail)
  generalize w.alloc (aI #[bu,pe] 112)=w1 at *;generalize w.heap.size=q1 at *;go_wp2_with fail
  refine aR i ?_;rintro x q ⟨rfl,a⟩;have f:aH (bV F q hb m g c k rs/\Kp F w q):=⟨(H1.o.1.below a).1.less λb hb=> .inl hb,H1.o.2.trans (H1.o.1.below a).2.unbox⟩
  clear a i H1;go_wp2_with fail
  go_ret
  exact⟨rfl,f.o⟩
end
end
variable{r':Rm}{P:Program}{w:aA}{Q:Exit->Act->aA->Prop}{b:Nat}
section
def yZ(B:Option aJ)(d:Nat)(ws:List Int):Rm:=⟨none,0, .slice none 0 0,0,0,B,d,ws,Jh,0,decide (0<ws.length)⟩
theorem PQ:Pa.Cp.EY Jh:=⟨rfl,λv a=>by rw[abK a];omega⟩
theorem MB(B:Option aJ)(d:Nat){ws:List Int}(h1:ws.length<=256)(a:∀v∈ws,0<=v/\v<18446744073709551616):pW (yZ B d ws):=⟨PQ,h1,a⟩
theorem FH{A:List Rm}(h:∀r∈A,pW r):(A.flatMap fZ).length=A.length *15:=by
 induction A with
 |nil=>rfl
 |cons r A a=>
  rw[aa0,aaM,pR (h r aT),a (λr b=>h r (by simp[b])),aa9];omega
theorem TZ(P M a S:List aC)(h:M.length=a.length):lay (P++(M++S)).toArray P.length a=(P++(a++S)).toArray:=by
 apply ad5;intro j;rw[lay_get? _ _ _ _ bT];split
 .rename_i d;rw[aaR,aaJ aQ,aaV aQ]
 .rename_i d;rw[aaR,aaR];by_cases b:j<P.length
  .rw[aaV b,aaV b]
  .rw[aaJ aQ,aaJ aQ,aaJ aQ,aaJ aQ,h]
theorem Me(m:Nat)(c:Int)(h:∀r∈rs,pW r)(hi:i<rs.length)(ok:pW r'):lay (iB m c rs) (2+i *15) (fZ r')=iB m c (rs.set i r'):=by
 have a:iB m c rs=(([pA m,Value.int .i64 c]++(rs.take i).flatMap fZ)++(fZ rs[i]++(rs.drop (i+1)).flatMap fZ)).toArray:=by
  have e:rs=rs.take i++rs[i]::rs.drop (i+1):=by rw[List.getElem_cons_drop,List.take_append_drop]
  have b:rs.flatMap fZ=(rs.take i).flatMap fZ++(fZ rs[i]++(rs.drop (i+1)).flatMap fZ):=by rw[<-aa0,<-adG,<-e]
  unfold iB NB;rw[b,abN]
 have d:rs.set i r'=rs.take i++r'::rs.drop (i+1):=List.set_eq_take_append_cons_drop.trans (Zz hi);have hl:(rs.take i).length=i:=bT;have f:([pA m,Value.int .i64 c]++(rs.take i).flatMap fZ).length=2+i *15:=by
  rw[aaM,FH (λr j=>h r (adQ j)),hl];simp
 have key:=TZ ([pA m,Value.int .i64 c]++(rs.take i).flatMap fZ) (fZ rs[i]) (fZ r') ((rs.drop (i+1)).flatMap fZ) (by rw[pR (h _ (aaF hi)),pR ok]);rw[f] at key;rw[a];refine key.trans ?_;unfold iB NB;rw[d,adG,aa0,abN]
theorem rL{ops:Array Oper}{rest:List Oper}{op:Oper}{a:Act}{o:Nat}(n:Nat)(d:op.guard=none)(ty:TypeId)(x y:Operand)(ho:op.op= .store ty x y)(cells:Array aC)(e:a.eval x= .pointer (some ⟨b,o,none⟩))(f:a.eval y= .agg cells)(i:w.there b o n)(j:cells.size=n)(hi:(P.info? ty).map (·.size)=some n)(h1:cells.all (·.oneCell')=true)(h:wpList P ops Q rest (a.put op.dst undef) (w.setCells b o cells.toList)):wpList P ops Q (op::rest) a w:=by
 subst j;exact wpList_store_mid d ty x y ho b o cells e f i hi h1 h
theorem Ai{α:Type _}(a b a' y z:α)(Y Z:List α)(hi:i<Y.length):(((a::b::(Y++Z)).set (i+2) y).set (Y.length+i+2) z).set 0 a'=a'::b::(Y.set i y++Z.set i z):=by
 simp only[aaD,aaE];rw[acA _ _ hi,aaQ _ _ aT];simp
section
variable{F:Nat->Prop}{w w0 w':aA}{hb m g:Nat}{c:Int}{k:Kv}{rs:List Rm}
theorem QM(hb m g:Nat)(c:Int)(k:Kv)(hi:i<rs.length)(a:Rm):(((wT hb m g c k rs).set (2+i) (jB a)).set (2+rs.length+i) (tP a)).set 0 (PB hb 139 (iB m c (rs.set i a)))=wT hb m g c k (rs.set i a):=by
 have e:=Ai (PB hb 139 (iB m c rs)) (NL m g c k) (PB hb 139 (iB m c (rs.set i a))) (jB a) (tP a) (rs.map jB) (rs.map tP) (i:=i) (by simpa using hi);rw[abB] at e;rw[show 2+i=i+2 by omega,show 2+rs.length+i=rs.length+i+2 by omega];unfold wT;rw[ab6,ab6];exact e
theorem bV.there(h:bV F w hb m g c k rs)(hi:i<8):w.there hb (2+i *15) 15:=λj a=>by
 have:=h.BF hi;rw[h.Q9 hi a (v:=(fZ (bE rs i))[j]'(by rw[pR this];exact a)) (Zv _)];exact⟨rfl,h.fz _⟩
theorem bV.fresh(h:bV F w0 hb m g c k rs)(n:aD w0 w0 w)(hi:i<8)(a:Rm)(ok:pW a)(hl:(GN a (λb=>b<w0.heap.size) w/\a.cA=none/\a.C= [])\/(a.l=none/\S1 a (λb=>b<w0.heap.size) w)):bV F (w.setCells hb (2+i *15) (fZ a)) hb m g c k (rs.set i a)/\Kp F w0 (w.setCells hb (2+i *15) (fZ a)):=by
 have e:i<rs.length:=by rw[h.l8];exact hi
 have o1:Ob (((wT hb m g c k rs).set (2+i) (jB a)).set (2+rs.length+i) (tP a)) F w/\Kp F w0 w:=by
  rcases hl with⟨hl,t,A⟩|⟨t,hl⟩
  .obtain⟨G,f,back⟩:=h.o.use (2+i) _ (ES hb m g c k e);have s:Ol G w0:=f.1;obtain⟨b1,b2⟩:=back (jB a) w ⟨λb hb=>Zy (s b hb) n.size,λx f=>by
    obtain⟨y,B⟩:=hl.2 x f;exact⟨y,B.sub λb hb=>s b hb⟩⟩ (s.below n)
   obtain⟨u,p,d⟩:=b1.use (2+rs.length+i) (tP rs[i]) (by rw[acJ aQ];exact J0 hb m g c k e);have j:Ol u w:=p.1;obtain⟨b3,z⟩:=d (tP a) w ⟨j,by rw[t,A];exact λD=>absurd D aT,λq hq=>by rw[t] at hq;cases hq⟩ (Kp.refl _ _);exact⟨b3,b2⟩
  .obtain⟨G,f,back⟩:=h.o.use (2+i) _ (ES hb m g c k e);have s:Ol G w0:=f.1;obtain⟨b1,b2⟩:=back (jB a) w0 ⟨s,λx f=>by rw[t] at f;cases f⟩ (Kp.refl _ _);obtain⟨u,p,d⟩:=b1.use (2+rs.length+i) (tP rs[i]) (by rw[acJ aQ];exact J0 hb m g c k e);have j:Ol u w0:=p.1;obtain⟨b3,z⟩:=d (tP a) w ⟨λb hb=>Zy (j b hb) n.size,hl.2.1,λq hq=>⟨(hl.2.2 q hq).1,λE=>(hl.2.2 q hq).2 (j q E)⟩⟩ (j.below n);exact⟨b3,z⟩
 obtain⟨o1,H⟩:=o1;obtain⟨G,f,back⟩:=o1.use 0 (PB hb 139 (iB m c rs)) (by rw[acJ aQ,acJ aQ];rfl);have f:oF hb 139 (iB m c rs) G w:=f;have I:bF (w.setCells hb (2+i *15) (fZ a)) hb 139 (iB m c (rs.set i a)):=by
  have:=iX hb 139 (fZ a) (2+i *15) w _ f.b;rw[Me m c h.ok e ok] at this;exact this
 obtain⟨s1,s2⟩:=f.eQ I (fJ hb (fZ a) (2+i *15) w w (bK w hb));obtain⟨b1,b2⟩:=back (PB hb 139 (iB m c (rs.set i a))) _ s1 s2;refine⟨⟨by rw[QM hb m g c k e a] at b1;exact b1,by simp[h.l8],λr v=>?_⟩,H.trans b2⟩;rcases abC v with v|rfl
 .exact h.ok r v
 .exact ok
end
end
variable{k:Kv}{G:Nat->Prop}
section
theorem KI.Rh(h:KI k n):k.s.P.length<=8:=h.p8
section
variable{F:Nat->Prop}{w w0 w':aA}{hb m g:Nat}{c:Int}{k:Kv}{rs:List Rm}
def V8(k:Kv)(e:Int):Kv:={k with s:=jY k.s e true}
def Q3(k:Kv)(rs:List Rm)(e:Int):Int:=if 0<=e/\e<4 then(if(bE rs e.toNat).C.length=0 then 6 else xL k.s e) else 1
def XT(k:Kv)(rs:List Rm)(e:Int):Kv:=if 0<=e/\e<4 then(if(bE rs e.toNat).C.length=0 then k else V8 k e) else k
def TD(rs:List Rm)(e:Int):List Rm:=if 0<=e/\e<4 then(if(bE rs e.toNat).C.length=0 then rs else rs.set e.toNat {bE rs e.toNat with ru:=true}) else rs
theorem Qk(r:Rm)(h:pW r)(b:Bool):fZ {r with ru:=b}=(fZ r).set 14 (.bool b):=by
 have hl:=h.rg.1;unfold fZ;rw[aaQ _ _ aT,aaQ _ _ (by simp[hl])];simp[hl]
theorem bV.WJ(h:bV F w hb m g c k rs)(hi:i<8)(f:j<15)(v:aC)(a:Rm)(d:fZ a=(fZ (bE rs i)).set j v)(ok:pW a)(h1:jB a=jB (bE rs i))(e:tP a=tP (bE rs i)):bV F (w.setCell (hb,2+i *15+j) v) hb m g c k (rs.set i a)/\Kp F w (w.setCell (hb,2+i *15+j) v):=by
 have b:i<rs.length:=by rw[h.l8];exact hi
 rw[<-kK b] at d h1 e;exact h.put b f v a d ok h1 e
theorem bV.WH(h:bV F w hb m g c k rs)(hi:i<8)(b:Bool):bV F (w.setCell (hb,2+i *15+14) (.bool b)) hb m g c k (rs.set i {bE rs i with ru:=b})/\Kp F w (w.setCell (hb,2+i *15+14) (.bool b)):=
 h.WJ hi aQ _ _ (Qk _ (h.BF hi) b) ⟨(h.BF hi).rg,(h.BF hi).cl,(h.BF hi).cr⟩ rfl rfl
theorem Mz(h:bV F w hb m g c k rs)(p:k.s.P.length<=8)(e:Int):aG prog 38 #[.pointer hb,e] w (yJ F hb m g c (XT k rs e) (TD rs e) (.int .i64 (Q3 k rs e)) w):=by
 have f:=aP (oM h e);have l:=aP h;have v:=aP p;by_cases hc:0<=e/\e<4
 .obtain⟨n,rfl⟩:=aaB hc.1;have y:n<4:=aQ;unfold XT Q3 TD;rw[Zz hc,Zz hc,Zz hc];rw[oP hb y] at f;simp only[aaG];have c4:=h.Jl (n:=n) aQ;clear h p hc;by_cases b:(bE rs n).C.length=0
  .rw[Zz b,Zz b,Zz b];rw[b] at c4;generalize (bE rs n).cA=A at *;generalize (bE rs n).cc=d at *;clear b;go_enter func38,ntmps38
   go_wp2_with fail
   refine aR f ?_;rintro x q ⟨rfl,a⟩;have d4:=bG a c4;have j:=aP (l.o.below a);clear a f l c4;go_wp2_with fail
   go_ret
   exact⟨rfl,j.o⟩
  .rw[aaA b,aaA b,aaA b];obtain⟨z,b⟩:∃z,(bE rs n).C.length=z+1:=⟨(bE rs n).C.length - 1,aQ⟩
   replace c4:∃A d,w.cell? (hb,2+n *15+4)=some (.slice A (z+1) d):=⟨_,_,by rw[<-b];exact c4⟩
   obtain⟨A,d,c4⟩:=c4;clear b;go_enter func38,ntmps38
   go_wp2_with fail
   refine aR f ?_;rintro x q ⟨rfl,a⟩;have d4:=bG a c4;have j:=aP (l.o.below a);have d14:=j.o.1.VI (n:=n) aQ;have f14:=j.o.1.fz (2+n *15+14);clear a f l c4;have r:=aP (j.o.1.WH (i:=n) aQ true);have B:=aP (zS r.o.1 v.o n);go_wp2_with(go_at_call 71;(refine aR B ?_);rintro x E ⟨rfl,t,u⟩;have D:=bN t ((j.o.2.trans r.o.2).trans u);clear t u)
   go_ret
   exact⟨rfl,D.o⟩
 .rw[lR hb hc] at f;unfold XT Q3 TD;rw[aaA hc,aaA hc,aaA hc];clear h p hc;go_enter func38,ntmps38
  go_wp2_with fail
  refine aR f ?_;rintro x q ⟨rfl,a⟩;have j:=aP (l.o.below a);clear a f l;go_wp2_with fail
  go_ret
  exact⟨rfl,j.o⟩
def NW(k:Kv)(rs:List Rm)(e:Int):Int:=if 0<=e/\e<4 then(if(bE rs e.toNat).l.isNone=true then 6 else xL k.s e) else 1
def Aa(k:Kv)(rs:List Rm)(e:Int):Kv:=if 0<=e/\e<4 then(if(bE rs e.toNat).l.isNone=true then k else V8 k e) else k
def UA(rs:List Rm)(e:Int):List Rm:=if 0<=e/\e<4 then(if(bE rs e.toNat).l.isNone=true then rs else rs.set e.toNat (yZ none 0 [])) else rs
theorem Sj(B:Option aJ)(d:Nat)(ws:List Int)(h:Ol G w):GN (yZ B d ws) G w:=⟨h,λx a=>by cases a⟩
theorem ZP(h:bV F w hb m g c k rs)(q:k.s.P.length<=8)(e:Int):aG prog 36 #[.pointer hb,e] w (yJ F hb m g c (Aa k rs e) (UA rs e) (.int .i64 (NW k rs e)) w):=by
 have b:=aP (oM h e);have f:=aP h;have v:=aP q;by_cases hc:0<=e/\e<4
 .obtain⟨n,rfl⟩:=aaB hc.1;have y:n<4:=aQ;unfold Aa NW UA;rw[Zz hc,Zz hc,Zz hc];rw[oP hb y] at b;simp only[aaG];have c0:=h.OI (n:=n) aQ;clear h q hc;by_cases hq:(bE rs n).l.isNone=true
  .rw[Zz hq,Zz hq,Zz hq];have p:=ac8.1 hq;clear hq;unfold pZ at c0;rw[p] at c0;simp only[abT] at c0;clear p;go_enter func36,ntmps36
   go_wp2_with fail
   refine aR b ?_;rintro x j ⟨rfl,a⟩;have d0:=bG a c0;have d:=aP (f.o.below a);clear a b f c0;go_wp2_with fail
   go_ret
   exact⟨rfl,d.o⟩
  .rw[aaA hq,aaA hq,aaA hq];obtain⟨l,p⟩:∃l,(bE rs n).l=some l:=ad0.1 (by simpa using hq);clear hq;unfold pZ at c0;rw[p] at c0;simp only[aa4] at c0;generalize (bE rs n).g=gl at *;clear p;go_enter func36,ntmps36
   go_wp2_with fail
   refine aR b ?_;rintro x j ⟨rfl,a⟩;have d0:=bG a c0;have d:=aP (f.o.below a);have z:=d.o.1.there (i:=n) aQ;have r:aH (bV F (j.setCells hb (2+n *15) (#[pH,bH,aU,aU,bH,bC,bC,bC,bC,bC,bC,bC,bC,aU,false]:Array aC).toList) hb m g c k (rs.set n (yZ none 0 []))/\Kp F j (j.setCells hb (2+n *15) (#[pH,bH,aU,aU,bH,bC,bC,bC,bC,bC,bC,bC,bC,aU,false]:Array aC).toList)):=(d.o.1.fresh (Below.refl _ _) (i:=n) aQ (yZ none 0 []) (MB none 0 aT aT) (.inl ⟨Sj none 0 [] (λ_ h=>h),rfl,rfl⟩))
   clear a b f c0;go_wp2_with(refine rL 15 rfl 136 _ _ rfl #[pH,bH,aU,aU,bH,bC,bC,bC,bC,bC,bC,bC,bC,aU,false] rfl rfl ?_ rfl aV aV ?_;with_reducible exact z)
   have A:=aP (zS r.o.1 v.o n);generalize j.setCells hb (2+n *15) (#[pH,bH,aU,aU,bH,bC,bC,bC,bC,bC,bC,bC,bC,aU,false]:Array aC).toList=w4 at *;go_wp2_with fail
   refine aR A ?_;rintro x C ⟨rfl,t,u⟩;have B:=bN t ((d.o.2.trans r.o.2).trans u);clear t u;go_wp2_with fail
   go_ret
   exact⟨rfl,B.o⟩
 .rw[lR hb hc] at b;unfold Aa NW UA;rw[aaA hc,aaA hc,aaA hc];clear h q hc;go_enter func36,ntmps36
  go_wp2_with fail
  refine aR b ?_;rintro x j ⟨rfl,a⟩;have d:=aP (f.o.below a);clear a b f;go_wp2_with fail
  go_ret
  exact⟨rfl,d.o⟩
end
end
variable{A:Option aJ}
section
variable{F:Nat->Prop}{w w0 w':aA}{hb m g:Nat}{c:Int}{k:Kv}{rs:List Rm}
def xE(rs:List Rm)(e:Int)(ws:List Int):Bool:=decide (0<=e/\e<4)&&(bE rs e.toNat).l.isNone&&decide (ws.length<=256)
def C1(k:Kv)(rs:List Rm)(e:Int)(ws:List Int):Int:=if 0<=e/\e<4 then(if(bE rs e.toNat).l.isNone=true then(if ws.length<=256 then xL k.s e else 24) else 22) else 1
def O1(k:Kv)(rs:List Rm)(e:Int)(ws:List Int):Kv:=if xE rs e ws=true then V8 k e else k
def NV(rs:List Rm)(e:Int)(ws:List Int)(B:Option aJ)(d:Nat):List Rm:=if xE rs e ws=true then rs.set e.toNat (yZ B d ws) else rs
theorem Z9(h:bV F w hb m g c k rs)(G:k.s.P.length<=8)(e:Int){ws:List Int}(cw:Nat)(hs:Sl eU 1 w A ws)(hl:ws.length<=4000000000)(H:∀v∈ws,0<=v/\v<18446744073709551616):
 aG prog 37 #[.pointer hb,e,(A,ws.length,cw)] w λr w'=>∃B d,yJ F hb m g c (O1 k rs e ws) (NV rs e ws B d) (.int .i64 (C1 k rs e ws)) w r w':=by
 have p:=aP (oM h e);have y:=aP h;have R:=aP G;have S:=aP hs;have T:=aP H;by_cases hc:0<=e/\e<4
 .obtain⟨n,rfl⟩:=aaB hc.1;have V:n<4:=aQ;rw[oP hb V] at p;have c0:=h.OI (n:=n) aQ;unfold pZ at c0;by_cases hq:(bE rs n).l.isNone=true
  .have C:=ac8.1 hq;rw[C] at c0;simp only[abT] at c0;by_cases hw:ws.length<=256
   .have z:xE rs n ws=true:=by unfold xE;rw[aa2 hc,aaG,hq,aa2 hw];rfl
    unfold O1 NV C1;rw[Zz hc,Zz z];simp only[Zz z];simp only[aaG];rw[Zz hq,Zz hw];have I:=aP (λW (X:Sl eU 1 W A ws)=>Og A ws cw W X aQ);have U:=aP hw;by_cases M:ws.length=0
    .obtain rfl:ws= []:=aa5 M;simp only[abM,Int.ofNat_eq_natCast] at I⊢;clear M;clear h G hc hs hl H hq C z hw;go_enter func37,ntmps37
     go_wp2_with fail
     refine aR p ?_;rintro x L ⟨rfl,a⟩;have d0:=bG a c0;have j:=bN (y.o.below a) (S.o.keep a);clear a p y c0;go_wp2_with fail
     refine aS (I.o _ j.o.2) ?_;rintro x D ⟨B,d,rfl,own,f⟩;have E:=aP (j.o.1.1.fresh f (i:=n) aQ (yZ B d []) (MB B d U.o T.o) (.inr ⟨rfl,λb hb=>Zy hb f.size,own.sl xS,λq hq=>⟨qM own q hq,Nat.not_lt.2 (own.lt q hq).1⟩⟩));have N:=(j.o.1.1.below f).1.there (i:=n) aQ;have t:D.setCells hb (2+n *15) (fZ (yZ B d []))=D.setCells hb (2+n *15) (#[pH,bH,aU,aU, .slice B 0 d,bC,bC,bC,bC,bC,bC,bC,bC,aU,false]:Array aC).toList:=rfl;rw[t] at E;clear own f I d0 t;go_wp2_with(refine rL 15 rfl 136 _ _ rfl #[pH,bH,aU,aU, .slice B 0 d,bC,bC,bC,bC,bC,bC,bC,bC,aU,false] rfl rfl ?_ rfl aV aV ?_;with_reducible exact N)
     have O:=aP (zS E.o.1 R.o n);generalize D.setCells hb (2+n *15) (#[pH,bH,aU,aU, .slice B 0 d,bC,bC,bC,bC,bC,bC,bC,bC,aU,false]:Array aC).toList=w4 at *;go_wp2_with fail
     refine aR O ?_;rintro x w5 ⟨rfl,J,K⟩;have Q:=bN J ((j.o.1.2.trans E.o.2).trans K);clear J K;go_wp2_with fail
     go_ret
     exact⟨B,d,rfl,Q.o⟩
    .have k0:(0:Int)<(ws.length:Int):=aQ;have Y:¬(256:Int)<(ws.length:Int):=aQ;have Z:0<ws.length:=aQ;clear M;clear h G hc hs hl H hq C z hw;go_enter func37,ntmps37
     go_wp2_with fail
     refine aR p ?_;rintro x L ⟨rfl,a⟩;have d0:=bG a c0;have j:=bN (y.o.below a) (S.o.keep a);clear a p y c0;go_wp2_with fail
     refine aS (I.o _ j.o.2) ?_;rintro x D ⟨B,d,rfl,own,f⟩;have E:=aP (j.o.1.1.fresh f (i:=n) aQ (yZ B d ws) (MB B d U.o T.o) (.inr ⟨rfl,λb hb=>Zy hb f.size,own.sl xS,λq hq=>⟨qM own q hq,Nat.not_lt.2 (own.lt q hq).1⟩⟩));have N:=(j.o.1.1.below f).1.there (i:=n) aQ;have t:D.setCells hb (2+n *15) (fZ (yZ B d ws))=D.setCells hb (2+n *15) (#[pH,bH,aU,aU, .slice B ws.length d,bC,bC,bC,bC,bC,bC,bC,bC,aU,true]:Array aC).toList:=by rw[show fZ (yZ B d ws)=(#[pH,bH,aU,aU, .slice B ws.length d,bC,bC,bC,bC,bC,bC,bC,bC,aU, .bool (decide (0<ws.length))]:Array aC).toList from rfl,aa2 Z]
     rw[t] at E;clear own f I d0 t;go_wp2_with(refine rL 15 rfl 136 _ _ rfl #[pH,bH,aU,aU, .slice B ws.length d,bC,bC,bC,bC,bC,bC,bC,bC,aU,true] rfl rfl ?_ rfl aV aV ?_;with_reducible exact N)
     have O:=aP (zS E.o.1 R.o n);generalize D.setCells hb (2+n *15) (#[pH,bH,aU,aU, .slice B ws.length d,bC,bC,bC,bC,bC,bC,bC,bC,aU,true]:Array aC).toList=w4 at *;go_wp2_with fail
     refine aR O ?_;rintro x w5 ⟨rfl,J,K⟩;have Q:=bN J ((j.o.1.2.trans E.o.2).trans K);clear J K;go_wp2_with fail
     go_ret
     exact⟨B,d,rfl,Q.o⟩
   .have pN:aH (xE rs n ws=false):=by unfold aH xE;rw[aaP hw,adZ]
    have u:aH (C1 k rs n ws=24):=by unfold aH C1;rw[Zz hc,aaG,Zz hq,aaA hw]
    have Y:(256:Int)<(ws.length:Int):=aQ;rw[u.o];clear hq C hw;unfold O1 NV;rw[pN.o];simp only[aaZ,aaY];clear h G hc hs hl H;go_enter func37,ntmps37
    go_wp2_with fail
    refine aR p ?_;rintro x L ⟨rfl,a⟩;have d0:=bG a c0;have j:=aP (y.o.below a);clear a p y c0;go_wp2_with fail
    go_ret
    exact⟨none,0,rfl,j.o⟩
  .have pN:aH (xE rs n ws=false):=by unfold aH xE;rw[aaG,Bool.not_eq_true] at *;rw[hq,adZ,aeQ]
   have u:aH (C1 k rs n ws=22):=by unfold aH C1;rw[Zz hc,aaG,aaA hq]
   rw[u.o];obtain⟨l,C⟩:∃l,(bE rs n).l=some l:=ad0.1 (by simpa using hq);rw[C] at c0;simp only[aa4] at c0;clear hq C;unfold O1 NV;rw[pN.o];simp only[aaZ,aaY];clear h G hc hs hl H;go_enter func37,ntmps37
   go_wp2_with fail
   refine aR p ?_;rintro x L ⟨rfl,a⟩;have d0:=bG a c0;have j:=aP (y.o.below a);clear a p y c0;go_wp2_with fail
   go_ret
   exact⟨none,0,rfl,j.o⟩
 .rw[lR hb hc] at p;have pN:aH (xE rs e ws=false):=by unfold aH xE;rw[aaP hc,aeQ,aeQ]
  have u:aH (C1 k rs e ws=1):=by unfold aH C1;rw[aaA hc]
  rw[u.o];unfold O1 NV;rw[pN.o];simp only[aaZ,aaY];clear h G hc hs hl H;go_enter func37,ntmps37
  go_wp2_with fail
  refine aR p ?_;rintro x L ⟨rfl,a⟩;skip
  have j:=aP (y.o.below a);clear a p y;go_wp2_with fail
  go_ret
  exact⟨none,0,rfl,j.o⟩
end
def I2(x:Lb)(gl:Nat)(sv:aC)(od:Int):Rm:=⟨some x,gl,sv,od,0,none,0, [],Jh,0,false⟩
theorem Mi(x:Lb)(gl:Nat)(sv:aC)(od:Int):pW (I2 x gl sv od):=⟨PQ,by simp[I2],λv a=>by simp[I2] at a⟩
def r9(rs:List Rm)(e:Int)(ts:List Tk)(od:Int):Bool:=decide (0<=e/\e<4)&&((bE rs e.toNat).l.isNone&&(decide ((bE rs e.toNat).C.length=0)&&(mI ts&&decide (od=0\/od=1))))
def uN(rs:List Rm)(e:Int)(ts:List Tk)(od:Int):Int:=if 0<=e/\e<4 then(if(bE rs e.toNat).l.isNone=true then(if(bE rs e.toNat).C.length=0 then(if mI ts=true/\(od=0\/od=1) then 0 else 1) else 22) else 7) else 1
def DJ(rs:List Rm)(e:Int)(ts:List Tk)(od:Int)(gl:Nat)(sv:aC):List Rm:=if r9 rs e ts od=true then rs.set e.toNat (I2 (kD ts od) gl sv od) else rs
section
variable{F:Nat->Prop}{w w0 w':aA}{hb m g:Nat}{c:Int}{k:Kv}{rs:List Rm}
theorem OG(h:bV F w hb m g c k rs)(e:Int){L:List Tm}(cw:Nat)(ht:qK w A L)(hl:L.length<=1000)(P:∀x∈L,x.t.se.length<=1000000)(od:Int):
 aG prog 33 #[.pointer hb,e, .slice A L.length cw,od] w λr w'=>∃gl sv,yJ F hb m g c k (DJ rs e (L.map Tm.t) od gl sv) (.int .i64 (uN rs e (L.map Tm.t) od)) w r w':=by
 have D:=aP (oM h e);have J:=aP h;have T:=aP ht;have H8:=aP P;have HL:=aP hl;have K:=aP (λW (hW:qK W A L)=>QJ hW hl P cw od);clear ht hl;by_cases hc:0<=e/\e<4
 .obtain⟨n,rfl⟩:=aaB hc.1;have hn:n<4:=aQ;rw[oP hb hn] at D;have c0:=h.OI (n:=n) aQ;have c4:=h.Jl (n:=n) aQ;unfold pZ at c0;by_cases hq:(bE rs n).l.isNone=true
  .have E:=ac8.1 hq;rw[E] at c0;simp only[abT] at c0;by_cases hw:(bE rs n).C.length=0
   .rw[hw] at c4;replace c4:∃A d,w.cell? (hb,2+n *15+4)=some (.slice A 0 d):=⟨_,_,c4⟩
    obtain⟨cA,cc,c4⟩:=c4;by_cases f:mI (L.map Tm.t)=true/\(od=0\/od=1)
    .have NR:aH (r9 rs n (L.map Tm.t) od=true):=by unfold aH r9;rw[aa2 hc,aaG,hq,aa2 hw,f.1,aa2 f.2];rfl
     have U:aH (uN rs n (L.map Tm.t) od=0):=by unfold aH uN;rw[Zz hc,aaG,Zz hq,Zz hw,Zz f]
     rw[U.o];unfold DJ;simp only[Zz NR.o,Zz f,aaG] at K⊢;generalize kD (L.map Tm.t) od=X at *;have HC:=aP (λW (hW:qK W A L)=>Gp A L cw W hW.o (by have:=HL.o;omega));clear h P hc hq E hw f NR U;go_enter func33,ntmps33
     go_wp2_with(go_at_call 55;(refine aR D ?_);rintro x w2 ⟨rfl,a⟩;(have d0:=bG a c0);(have d4:=bG a c4);(have s:=bN (J.o.below a) (T.o.keep a));(clear a D J c0 c4))
     refine aS (K.o _ s.o.2) ?_;rintro x w3 ⟨gl,y,rfl,V,G⟩;have H:=bN V G;clear V G d4 K;go_wp2_with fail
     refine aS (HC.o _ (s.o.2.keep H.o.2)) ?_;rintro x w4 ⟨B,d,rfl,own,Y⟩;have H4:=bN own Y;clear own Y HC d0;go_upto_region 13 with(fail)
     go_loopw [13,43] (λ_ v43 wr=>∃(j:Nat) (M:List Tm),j<=L.length/\v43= .int .i64 j/\aH (M.length=L.length/\∀p,j<=p->M[p]?=L[p]?)/\aH (bI pI 5 wr w3.heap.size 125 B d M)/\aH (aD w3 w3 wr)) (λ_ v43 _=>L.length - (intOf v43).toNat)
     case atStart=>exact⟨0,L,aaH _,rfl,⟨rfl,λ_ _=>rfl⟩,H4.o.1,H4.o.2⟩
     case round=>
      obtain⟨j,M,hj,rfl,Z,N,Q⟩:=hrel;by_cases O:j<L.length
      .have R:j<M.length:=by rw[Z.o.1];exact O
       obtain⟨q,hq⟩:=vX N.o aQ;have S:M[j]=L[j]:=by
        have:=Z.o.2 j (Zw _);rw[Zv R,Zv O] at this;exact Option.some.inj this
       have e3:=bM lK (by rw[hq] at N;exact N.o) R (j:=3) (v:= .slice M[j].A M[j].t.se.length M[j].c) rfl;have a1:wr.frozen? (q,j *5+3)=false:=(cZ (by rw[hq] at N;exact N.o) (j *5+3) (by have:=N.o.cap;omega)).2;rw[S] at e3;have HS:=aP (P2 L[j].A L[j].t.se L[j].c wr (((s.o.2.keep H.o.2).keep Q.o).sl _ (aaF O)) (by have:=H8.o _ (aaF O);omega));have HX:aH (M[j]=L[j]):=S;have j0:(0:Int)<=j:=aQ;have j1:(j:Int)<(L.length:Int):=aQ;have j2:(j:Int)<1000:=by have:=HL.o;omega
       subst hq;clear S;generalize hx:L[j]=x at *;replace hx:=aP hx;obtain⟨xt,xA,xc⟩:=x;simp only at e3 HS;have hql:=(N.o.lt q rfl)
       go_wp2_with fail
       refine aR HS ?_;rintro v w5 ⟨B2,d2,rfl,own5,I⟩;have O5:=aP (N.o.keep I);have f3:w5.frozen? (q,j *5+3)=false:=((WY I).2 q _ hql.2).trans a1;have e5:=bG I e3;have HB5:=aP ((Q.o.trans (I.mono Q.o.size)));clear own5 I e3 a1;go_wp2_with fail
       have hx3:pI ⟨xt,B2,d2⟩=(pI M[j]).set 3 (.slice B2 xt.se.length d2):=by rw[HX.o];rfl
       obtain⟨o7,g7⟩:=qO lK.len O5.o R (j:=3) aQ ⟨xt,B2,d2⟩ (.slice B2 xt.se.length d2) hx3;refine⟨⟨j+1,M.set j ⟨xt,B2,d2⟩,aQ,rfl,⟨by rw[aaL];exact Z.o.1,λp hp=>by rw[acJ aQ];exact Z.o.2 p aQ⟩,?_,HB5.o.grown g7 HB5.o.size (λr hr=>by injection hr with hr;omega)⟩,by simp only[intOf];omega⟩;exact o7
      .obtain rfl:j=L.length:=aQ;have H6:=aP (s.o.1.1.fresh (H.o.2.trans (Q.o.mono H.o.2.size)) (i:=n) aQ (I2 X gl (.slice B L.length d) od) (Mi _ _ _ _) (.inl ⟨⟨λb hb=>Zy hb (aaC H.o.2.size Q.o.size),λz E=>⟨y,by injection E with E;exact E ▸ H.o.1.below Q.o⟩⟩,rfl,rfl⟩));have ht:=(s.o.1.1.below (H.o.2.trans (Q.o.mono H.o.2.size))).1.there (i:=n) aQ;have hw4:wr.setCells hb (2+n *15) (fZ (I2 X gl (.slice B L.length d) od))=wr.setCells hb (2+n *15) (#[.pointer (some ⟨gl,0,none⟩), .slice B L.length d,od,aU,bH,bC,bC,bC,bC,bC,bC,bC,bC,aU,false]:Array aC).toList:=rfl;rw[hw4] at H6;clear N Z hw4;go_wp2_with(refine rL 15 rfl 136 _ _ rfl #[.pointer (some ⟨gl,0,none⟩), .slice B L.length d,od,aU,bH,bC,bC,bC,bC,bC,bC,bC,bC,aU,false] rfl rfl ?_ rfl aV aV ?_;with_reducible exact ht)
       generalize wr.setCells hb (2+n *15) (#[.pointer (some ⟨gl,0,none⟩), .slice B L.length d,od,aU,bH,bC,bC,bC,bC,bC,bC,bC,bC,aU,false]:Array aC).toList=w8 at *;go_wp2_with fail
       go_ret
       exact⟨gl,_,rfl,H6.o.1,s.o.1.2.trans H6.o.2⟩
    .have pN:aH (r9 rs n (L.map Tm.t) od=false):=by
      unfold aH r9;cases h1:mI (L.map Tm.t) with
      |false=>simp
      |true=>rw[aaP (λh2=>f ⟨h1,h2⟩)];simp
     have u:aH (uN rs n (L.map Tm.t) od=1):=by unfold aH uN;rw[Zz hc,aaG,Zz hq,Zz hw,aaA f]
     rw[u.o];simp only[aaA f] at K;clear hq E hw f;unfold DJ;simp only[pN.o,aaZ,aaY];clear h P hc;go_enter func33,ntmps33
     go_wp2_with(go_at_call 55;(refine aR D ?_);rintro x w2 ⟨rfl,a⟩;(have d0:=bG a c0);(have d4:=bG a c4);(have s:=bN (J.o.below a) (T.o.keep a));(clear a D J c0 c4))
     refine aS (K.o _ s.o.2) ?_;rintro x w3 ⟨rfl,G⟩;have H:=aP (s.o.1.1.below G);clear G K;go_wp2_with fail
     go_ret
     exact⟨0, .int .i64 0,rfl,H.o.1,s.o.1.2.trans H.o.2⟩
   .have pN:aH (r9 rs n (L.map Tm.t) od=false):=by unfold aH r9;rw[aaG,aaP hw];simp
    have u:aH (uN rs n (L.map Tm.t) od=22):=by unfold aH uN;rw[Zz hc,aaG,Zz hq,aaA hw]
    rw[u.o];replace c4:∃A d z,0<z/\w.cell? (hb,2+n *15+4)=some (.slice A z d):=⟨_,_,_,aQ,c4⟩
    obtain⟨cA,cc,z,hz0,c4⟩:=c4;have z0:(0:Int)<(z:Int):=aQ;clear hq E hw hz0 K;unfold DJ;simp only[pN.o,aaZ,aaY];clear h P hc;go_enter func33,ntmps33
    go_wp2_with(go_at_call 55;(refine aR D ?_);rintro x w2 ⟨rfl,a⟩;(have d0:=bG a c0);(have d4:=bG a c4);(have s:=bN (J.o.below a) (T.o.keep a));(clear a D J c0 c4))
    go_ret
    exact⟨0, .int .i64 0,rfl,s.o.1⟩
  .have pN:aH (r9 rs n (L.map Tm.t) od=false):=by unfold aH r9;rw[aaG,Bool.not_eq_true] at *;rw[hq];simp
   have u:aH (uN rs n (L.map Tm.t) od=7):=by unfold aH uN;rw[Zz hc,aaG,aaA hq]
   rw[u.o];obtain⟨l,E⟩:∃l,(bE rs n).l=some l:=ad0.1 (by simpa using hq);rw[E] at c0;simp only[aa4] at c0;clear hq E K;unfold DJ;simp only[pN.o,aaZ,aaY];clear h P hc;go_enter func33,ntmps33
   go_wp2_with(go_at_call 55;(refine aR D ?_);rintro x w2 ⟨rfl,a⟩;(have d0:=bG a c0);(have d4:=bG a c4);(have s:=bN (J.o.below a) (T.o.keep a));(clear a D J c0 c4))
   go_ret
   exact⟨0, .int .i64 0,rfl,s.o.1⟩
 .rw[lR hb hc] at D;have pN:aH (r9 rs e (L.map Tm.t) od=false):=by unfold aH r9;rw[aaP hc,aeQ]
  have u:aH (uN rs e (L.map Tm.t) od=1):=by unfold aH uN;rw[aaA hc]
  rw[u.o];have c0:True:=trivial;have c4:True:=trivial;clear K;unfold DJ;simp only[pN.o,aaZ,aaY];clear h P hc;go_enter func33,ntmps33
  go_wp2_with(go_at_call 55;(refine aR D ?_);rintro x w2 ⟨rfl,a⟩;(have s:=bN (J.o.below a) (T.o.keep a));(clear a D J c0 c4))
  go_ret
  exact⟨0, .int .i64 0,rfl,s.o.1⟩
end
variable{x:Lb}{B:Option aJ}
section
def rS(rs:List Rm)(i:Nat)(x:Lb):List Rm:=rs.set i {bE rs i with l:=some x}
def P5(rs:List Rm)(i:Nat)(v:Int):List Rm:=rs.set i {bE rs i with sn:=v}
theorem iM(h:i<rs.length)(r:Rm):bE (rs.set i r) i=r:=by unfold bE;simp[h]
theorem rI(h:i≠j)(r:Rm):bE (rs.set i r) j=bE rs j:=by unfold bE;rw[aaI,acJ h,aaI]
def CO(rs:List Rm)(e t d:Int):Int:=if 0<=e/\e<4 then(match(bE rs e.toNat).l with|none=>6|some x=>(jD x t d).1) else 1
def pX(rs:List Rm)(e t d:Int):List Rm:=if 0<=e/\e<4 then(match(bE rs e.toNat).l with|none=>rs|some x=>rS rs e.toNat (jD x t d).2) else rs
section
variable{F:Nat->Prop}{w w0 w':aA}{hb m g:Nat}{c:Int}{k:Kv}{rs:List Rm}
theorem bV.Jt(h:bV F w hb m g c k rs)(hi:i<8)(hl:(bE rs i).l=some x):∃G y,bR G w (bE rs i).g x y/\(∀(b:Lb) (w':aA),(∃e,bR G w' (bE rs i).g b e)->Kp G w w'->bV F w' hb m g c k (rS rs i b)/\Kp F w w'):=by
 have a:i<rs.length:=by rw[h.l8];exact hi
 rw[<-kK a] at hl;obtain⟨G,y,h1,f⟩:=h.lb a hl;refine⟨G,y,by rw[<-kK a];exact h1,λb w' d j=>?_⟩;rw[<-kK a] at d;obtain⟨b1,b2⟩:=f b w' d j;rw[kK a] at b1;exact⟨b1,b2⟩
theorem bV.U6(h:bV F w hb m g c k rs)(a:n<8)(hl:(bE rs n).l=some x):w.cell? (hb,2+n *15)=some (.pointer (some ⟨(bE rs n).g,0,none⟩)):=by
 have:=h.OI a;unfold pZ at this;rw[hl] at this;exact this
theorem bV.Yr(h:bV F w hb m g c k rs)(a:n<8):w.cell? (hb,2+n *15+3)=some (.int .i64 (bE rs n).sn):=h.Q9 (j:=3) a aQ rfl
theorem bV.Kj(h:bV F w hb m g c k rs)(hi:i<8)(v:Int):bV F (w.setCell (hb,2+i *15+3) v) hb m g c k (P5 rs i v)/\Kp F w (w.setCell (hb,2+i *15+3) v):=
 h.WJ hi aQ _ _ rfl ⟨(h.BF hi).rg,(h.BF hi).cl,(h.BF hi).cr⟩ rfl rfl
theorem Iw(h:bV F w hb m g c k rs)(e t d:Int)(A:∀x,(bE rs e.toNat).l=some x->∃n,n<=2900/\kT x n):aG prog 42 #[.pointer hb, .agg #[e,t,d]] w (yJ F hb m g c k (pX rs e t d) (.int .i64 (CO rs e t d)) w):=by
 have r:=aX w (aI #[e,t,d] 126);have bk:=bF.new w 126 #[e,t,d];have q:bV (Fb F w) (w.alloc (aI #[e,t,d] 126)) hb m g c k rs:=(bV.cD hb m g c k rs).box h h.fl _;have H1:=aP (And.intro q (h.below r).2);have j:=aP (oM q e);have O:=bk.cell 0 _ rfl;have E:=bk.cell 1 _ rfl;have H:=bk.cell 2 _ rfl;clear h r bk;by_cases hc:0<=e/\e<4
 .obtain⟨n,rfl⟩:=aaB hc.1;have P:n<4:=aQ;unfold pX CO;rw[Zz hc,Zz hc];rw[oP hb P] at j;rw[aaG] at *;clear hc;cases hl:(bE rs n).l with
  |none=>
   have c0:=q.OI (n:=n) aQ;unfold pZ at c0;rw[hl] at c0;simp only[abT] at c0;simp only;clear q A hl;go_enter func42,ntmps42
   go_upto_region 1 with(fail)
   generalize w.alloc (aI #[n,t,d] 126)=w1 at *;generalize w.heap.size=q1 at *;go_wp2_with fail
   refine aR j ?_;rintro x p ⟨rfl,a⟩;have f:aH (bV F p hb m g c k rs/\Kp F w p):=⟨(H1.o.1.below a).1.less λb hb=> .inl hb,H1.o.2.trans (H1.o.1.below a).2.unbox⟩
   have d0:=bG a c0;clear a j H1 c0;go_wp2_with fail
   go_ret
   exact⟨rfl,f.o⟩
  |some x=>
   obtain⟨X,s,u⟩:=A x hl;have C:=aP u;have Q:=aP s;have D:=aP hl;simp only;clear q A hl s u;go_enter func42,ntmps42
   go_upto_region 1 with(fail)
   generalize w.alloc (aI #[n,t,d] 126)=w1 at *;generalize w.heap.size=q1 at *;go_wp2_with fail
   refine aR j ?_;rintro v p ⟨rfl,a⟩;have B:=aP (And.intro (H1.o.1.below (a.drew)).1 (H1.o.2.trans ((H1.o.1.below a.drew).2.unbox)));have I:=bG a E;have J:=bG a H;clear a j H1 O E H;have c0:p.cell? ⟨hb,2+n *15,none⟩=some (.pointer (some ⟨(bE rs n).g,0,none⟩)):=B.o.1.U6 (n:=n) aQ D.o;obtain⟨G,y,z,back⟩:=B.o.1.Jt (i:=n) aQ D.o;have R:=aP (QN z C.o Q.o t d);have S:=aP (λT w' h k=>back T w' h k);have K:aH ((bE (rS rs n (jD x t d).2) n).l=some (jD x t d).2/\(bE (rS rs n (jD x t d).2) n).g=(bE rs n).g):=by
    unfold aH rS;rw[iM (by rw[B.o.1.l8];omega)];exact⟨rfl,rfl⟩
   generalize (bE rs n).g=gl at *;clear z back D;go_upto_region 6 with(fail)
   go_region_held3 (λW=>W.cell? ⟨hb,2+n *15,none⟩=some (.pointer gl)/\W.cell? (q1,1)=some (.int .i64 t)/\W.cell? (q1,2)=some (.int .i64 d)) (first|exact⟨c0,I,J⟩|exact⟨‹_›,‹_›,‹_›⟩) ((go_at_call 27;(refine aR R ?_);rintro v L ⟨rfl,M,N⟩;have f:=aP (S.o _ _ M N);have U:=f.o.1.U6 (n:=n) aQ K.o.1;rw[K.o.2] at U;have z0:=f.o.2.cell I (.inr rfl);have Y:=f.o.2.cell J (.inr rfl);have V:aH (bV F L hb m g c k (rS rs n (jD x t d).2)/\Kp F w L):=⟨f.o.1.less λb hb=> .inl hb,B.o.2.trans f.o.2.unbox⟩;clear M N f))
   go_wp2_with fail
   go_ret
   exact⟨rfl,V.o⟩
 .rw[lR hb hc] at j;unfold pX CO;rw[aaA hc,aaA hc];clear hc q A;go_enter func42,ntmps42
  go_upto_region 1 with(fail)
  generalize w.alloc (aI #[e,t,d] 126)=w1 at *;generalize w.heap.size=q1 at *;go_wp2_with fail
  refine aR j ?_;rintro x p ⟨rfl,a⟩;have f:aH (bV F p hb m g c k rs/\Kp F w p):=⟨(H1.o.1.below a).1.less λb hb=> .inl hb,H1.o.2.trans (H1.o.1.below a).2.unbox⟩
  clear a j H1;go_wp2_with fail
  go_ret
  exact⟨rfl,f.o⟩
def vP(rs:List Rm)(n:Nat)(x:Lb):List Ev:=AP x (bE rs n).sn
def Ju(F:Nat->Prop)(hb m g:Nat)(c:Int)(k:Kv)(rs:List Rm)(n:Nat)(x:Lb)(w:aA)(e:Ending)(w':aA):Prop:=∃B d,e= .returned (.slice B (vP rs n x).length d)/\bI qW 4 w' w.heap.size 165 B d (vP rs n x)/\bV (cE F B) w' hb m g c k (P5 rs n (wrap64 ((bE rs n).sn+(vP rs n x).length)))/\Kp F w w'
theorem bV.Rx(h:bV F w hb m g c k rs)(b:aD w w w')(d:∀q,aY B=some q->w.heap.size<=q/\q<w'.heap.size):bV (cE F B) w' hb m g c k rs:=
 bV.cD hb m g c k rs F (λr=>r<w.heap.size) (cE F B) w w' h (Kp.cB b λ_ h=>h) (λr a _=>a) (λr a=>a.elim (λa=>Zy (h.fl r a) b.size) (λa=>(d r a).2)) (λr a f hf=>hf.elim f (λe=>by have:=(d r e).1;omega))
theorem Y8(h:bV F w hb m g c k rs)(p:n<8)(hl:(bE rs n).l=some x)(s:x.lg.length<=4000000000):aG prog 46 #[.pointer (some ⟨hb,2+n *15,none⟩)] w (Ju F hb m g c k rs n x w):=by
 have c0:=h.U6 p hl;have c3:=h.Yr p;obtain⟨G,y,i,_⟩:=h.Jt p hl;have t:=aP (Dy (i.below (Below.refl _ _).drew) s (bE rs n).sn);have u:aH (vP rs n x=AP x (bE rs n).sn):=rfl;have j:=aP h;have z:=aP p;unfold Ju;rw[u.o];generalize (bE rs n).sn=sn at *;generalize (bE rs n).g=gl at *;have b:aD w w w.drew:=(Below.refl _ _).drew;clear h i hl s u;generalize AP x sn=E at *;go_enter func46,ntmps46
 go_upto_region 1 with(fail)
 go_region_held3 (λW=>W.cell? (hb,2+n *15)=some (.pointer gl)/\W.cell? (hb,2+n *15+3)=some (.int .i64 sn)) (first|exact⟨c0,c3⟩|exact⟨‹_›,‹_›⟩) ((go_at_call 80;(refine aR t ?_);rintro v r ⟨B,d,rfl,own,a⟩;(have A:=bG (b.trans a) c0);(have K:=bG (b.trans a) c3);(have f:=bN (show bI qW 4 r w.heap.size 165 B d E from own) (b.trans a));clear own a))
 have f3:r.frozen? (hb,2+n *15+3)=false:=(j.o.below f.o.2).1.fz _;have C:=aP ((j.o.Rx f.o.2 (λq hq=>f.o.1.lt q hq)).Kj z.o (wrap64 (sn+E.length)));have D:=aP ((j.o.below f.o.2).1.Kj z.o (wrap64 (sn+E.length)));have H:=aP (j.o.below f.o.2).2;have I:=j.o.bk.lt;clear A c0 c3 t;go_wp2_with fail
 go_ret
 refine⟨B,d,rfl,f.o.1.kept (aZ (bK r hb) _ _) ?_,C.o.1,H.o.trans D.o.2⟩;cases J:aY B with
 |none=>exact .inl rfl
 |some q=>exact .inr (λe=>by injection e with e;have:=(f.o.1.lt q J).1;omega)
end
end
variable{k':Kv}{op D N E:Int}{n0:Nat}
section
theorem lF.num{e A B C:Int}(r:lF k e op A B C D N E k')(b:k.f.n=6):0<=N/\N<18446744073709551616:=by
 cases r
 case alloc h=>
  unfold lH;split
  .simp
  .split
   .simp
   .cases hf:jH k.f with
    |none=>simp
    |some i=>
     have:=(vZ hf).1;simp only;split
     .simp
     .simp only;omega
 case read h=>
  unfold CM;cases jI k.c e A 1 1 with
  |none=>simp
  |some h=>
   simp only;split
   .omega
   .rw[IntKind.wrap_u64];omega
 case next h a=>exact a
 all_goals exact⟨aQ,aQ⟩
section
variable{F:Nat->Prop}{w w0 w':aA}{hb m g:Nat}{c:Int}{k:Kv}{rs:List Rm}
def Vb(F:Nat->Prop)(hb m g:Nat)(c:Int)(k:Kv)(rs:List Rm)(l e x:Int)(w:aA)(r:Ending)(w':aA):Prop:=∃N E k',iN l e 0 x k N E k'/\(0<=N/\N<18446744073709551616)/\yJ F hb m g c k' rs (.tuple #[.int .u64 N, .int .i64 E]) w r w'
theorem Dv(h:bV F w hb m g c k rs)(v:KI k n0)(hn:n0<999999)(e x l:Int)(K:0<=x/\x<18446744073709551616):aG prog 82 #[.pointer hb,e, .int .u64 x,l] w (Vb F hb m g c k rs l e x w):=by
 have L:=aP h;by_cases h1:l<=0
 .have y:aH (iN l e 0 x k 0 22 k):=by
   unfold aH iN;rw[Zz (by simpa using h1)];exact⟨rfl,rfl,rfl⟩
  clear h v K;go_enter func82,ntmps82
  go_wp2_with fail
  go_ret2
  exact⟨0,22,k,y.o,aQ,rfl,L.o,Kp.refl _ _⟩
 .have Q:0<l:=aQ;have i:=M4 x K w;cases z:KX x with
  |false=>
   rw[z] at i;simp only[aaZ,aaY] at i;have i:=aP i;have y:aH (iN l e 0 x k 0 21 k):=by
    unfold aH iN;rw[aaA (by simpa using h1),z];exact⟨rfl,rfl,rfl⟩
   clear h v K z h1;go_enter func82,ntmps82
   go_wp2_with fail
   refine aR i ?_;rintro r B ⟨rfl,f⟩;have Y:=aP (L.o.below (f.alloc f.size (aI #[aU,aU,aU,aU,aU] 281)));clear f;go_wp2_with fail
   go_ret2
   exact⟨0,21,k,y.o,aQ,rfl,Y.o⟩
  |true=>
   rw[z] at i;simp only[abI] at i;have i:=aP i;have y:aH (∀N E d,(lF k e (D0 x) (aW x) (bW x) (cW x) (dW x) N E d\/(N=0/\E=1/\d=k))->iN l e 0 x k N E d/\(0<=N/\N<18446744073709551616)):=λN E d h=>by
    refine⟨?_,?_⟩
    .unfold iN;rw[aaA (by simpa using h1),z];exact h
    .rcases h with h|⟨rfl,_⟩
     .exact h.num v.f6
     .omega
   have C:aH (∀(G:Nat->Prop) (W:aA) (a:Ka),bQ G W g a k->aG prog 119 #[.pointer g,e, .agg #[.int .i64 (D0 x), .int .i64 (aW x), .int .i64 (bW x), .int .i64 (cW x), .int .i64 (dW x)]] W (p9 G g k e (D0 x) (aW x) (bW x) (cW x) (dW x) W)):=λG W a hk=>by
    refine S6 hk (v.kw aQ) ?_ e _ _ _ _ _;have:=v.an;omega
   clear z h1 v K h;generalize D0 x=n at *;generalize aW x=p at *;generalize bW x=q at *;generalize cW x=s at *;generalize dW x=t at *;go_enter func82,ntmps82
   go_wp2_with fail
   refine aR i ?_;rintro r B ⟨rfl,f⟩;go_upto_region 6 with(fail)
   have bb:=bF.new B 281 #[n,p,q,s,t];have D:=L.o.below f;have H:=aP (And.intro ((bV.cD hb m g c k rs).box D.1 D.1.fl (aI #[n,p,q,s,t] 281)) (D.2.trans (D.1.below (aX B (aI #[n,p,q,s,t] 281))).2));generalize B.alloc (aI #[n,p,q,s,t] 281)=A at *;generalize B.heap.size=u at *;have c0:=H.o.1.c0;unfold pA at c0;have R:=bb.cell 0 n rfl;have S:=bb.cell 1 p rfl;have T:=bb.cell 2 q rfl;have U:=bb.cell 3 s rfl;have V:=bb.cell 4 t rfl;obtain⟨G0,a0,_,d0,_⟩:=H.o.1.kn;have Z:A.drew.cell? (m,0)=some (.pointer g):=d0;have I:aH (aG prog 119 #[.pointer g,e, .agg #[n,p,q,s,t]] A.drew λr w'=>∃(N E:Int) (d:Kv),r= .returned (.tuple #[.int .u64 N, .int .i64 E])/\aH (iN l e 0 x k N E d/\(0<=N/\N<18446744073709551616))/\aH (bV (Fb F u) w' hb m g c d rs/\Kp (Fb F u) A w')):=by
    have hd:=H.o.1.below (Below.refl A A).drew;obtain⟨G,a,hk,_,back⟩:=hd.1.kn;refine(C.o G _ a hk).mono ?_;rintro r w' ⟨N,E,d,M,rfl,Q,O⟩;obtain⟨b1,b2⟩:=back d w' Q O;exact⟨N,E,d,rfl,y.o N E d M,b1,hd.2.trans b2⟩
   clear C f bb D y i L;go_region_held3 (λW=>W.cell? (hb,0)=some (.pointer m)/\W.cell? (m,0)=some (.pointer g)/\W.cell? (u,0)=some (.int .i64 n)/\W.cell? (u,1)=some (.int .i64 p)/\W.cell? (u,2)=some (.int .i64 q)/\W.cell? (u,3)=some (.int .i64 s)/\W.cell? (u,4)=some (.int .i64 t)) (first|with_reducible exact⟨‹_›,‹_›,‹_›,‹_›,‹_›,‹_›,‹_›⟩|exact⟨c0,d0,R,S,T,U,V⟩|fail) ((first|(go_at_call 11;(refine aS (mS (by first|exact d0|assumption)) ?_);rintro x A ⟨rfl,rfl⟩)|(go_at_call 119;(refine aR I ?_);rintro r X ⟨N,E,d,rfl,J,j⟩;(have P:=j.o.1.c0);unfold pA at P;obtain⟨G4,a4,_,a1,_⟩:=j.o.1.kn;(have a6:=j.o.2.cell R (.inr rfl));(have a7:=j.o.2.cell S (.inr rfl));(have x24:=j.o.2.cell T (.inr rfl));(have a8:=j.o.2.cell U (.inr rfl));(have aa:=j.o.2.cell V (.inr rfl)))))
   have H9:aH (bV F X hb m g c d rs/\Kp F w X):=⟨j.o.1.less λb hb=> .inl hb,H.o.2.trans j.o.2.unbox⟩
   clear j H I;go_wp2_with fail
   go_ret2
   exact⟨N,E,d,J.o.1,J.o.2,rfl,H9.o⟩
end
end
end
end Go.Proofs.YtacgiflhgdaeaaaGreat
