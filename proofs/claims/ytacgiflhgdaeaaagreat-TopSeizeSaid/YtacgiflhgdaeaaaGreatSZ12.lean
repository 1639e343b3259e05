/- Texts laid as one. -/
import Derived.Deep.MidRow
import Derived.Test.YtacgiflhgdaeaaaGreatSZ1
import Derived.Test.YtacgiflhgdaeaaaGreatSZ2
import Derived.Test.YtacgiflhgdaeaaaGreatSZ5
import Derived.Test.YtacgiflhgdaeaaaGreatSZ10
import Derived.Test.YtacgiflhgdaeaaaGreatSZ11
set_option linter.unusedVariables false
set_option linter.unusedSimpArgs false
set_option maxRecDepth 100000
set_option maxHeartbeats 20000000
namespace Go.Proofs.YtacgiflhgdaeaaaGreat
open Go.Proofs.Tryz
open Go renaming World->aA,Value->aC,Addr->aJ,Ending->aM,TypeId->aN,Program->aO,Calls->aG
open Go.RowKit renaming Below->aD,Hid->aH,intOf->aL
open Go.Obj renaming cells->aI
section
open Go.RowKit Go.Lib Go.Shelf dL Fr Up Nt
variable{rs:List Rm}{i b:Nat}{r':Rm}{P:aO}{w:aA}{Q:Exit->Act->aA->Prop}
section
def zR(B:Option aJ)(d:Nat)(ws:List Int):Rm:=⟨none,0, .slice none 0 0,0,0,B,d,ws,Kh,0,decide (0<ws.length)⟩
theorem P7:Pa.Cp.FN Kh:=⟨rfl,λv a=>by rw[ac5 a];omega⟩
theorem MV(B:Option aJ)(d:Nat){ws:List Int}(h1:ws.length<=256)(a:∀v∈ws,0<=v/\v<18446744073709551616):pX (zR B d ws):=⟨P7,h1,a⟩
theorem F0{A:List Rm}(h:∀r∈A,pX r):(A.flatMap gE).length=A.length *15:=by
 induction A with
 |nil=>rfl
 |cons r A a=>
  rw[acI,ab2,pS (h r aT),a (λr b=>h r (by simp[b])),acN];omega
theorem UQ(P M a S:List aC)(h:M.length=a.length):lay (P++(M++S)).toArray P.length a=(P++(a++S)).toArray:=by
 apply afL;intro j;rw[lay_get? _ _ _ _ bX];split
 .rename_i d;rw[ab5,abZ aQ,acA aQ]
 .rename_i d;rw[ab5,ab5];by_cases b:j<P.length
  .rw[acA b,acA b]
  .rw[abZ aQ,abZ aQ,abZ aQ,abZ aQ,h]
theorem Nq(m:Nat)(c:Int)(h:∀r∈rs,pX r)(hi:i<rs.length)(ok:pX r'):lay (iD m c rs) (2+i *15) (gE r')=iD m c (rs.set i r'):=by
 have a:iD m c rs=(([pA m,Value.int .i64 c]++(rs.take i).flatMap gE)++(gE rs[i]++(rs.drop (i+1)).flatMap gE)).toArray:=by
  have e:rs=rs.take i++rs[i]::rs.drop (i+1):=by rw[List.getElem_cons_drop,List.take_append_drop]
  have b:rs.flatMap gE=(rs.take i).flatMap gE++(gE rs[i]++(rs.drop (i+1)).flatMap gE):=by rw[<-acI,<-aeW,<-e]
  unfold iD NR;rw[b,acR]
 have d:rs.set i r'=rs.take i++r'::rs.drop (i+1):=List.set_eq_take_append_cons_drop.trans (abP hi);have hl:(rs.take i).length=i:=bX;have f:([pA m,Value.int .i64 c]++(rs.take i).flatMap gE).length=2+i *15:=by
  rw[ab2,F0 (λr j=>h r (ae7 j)),hl];simp
 have key:=UQ ([pA m,Value.int .i64 c]++(rs.take i).flatMap gE) (gE rs[i]) (gE r') ((rs.drop (i+1)).flatMap gE) (by rw[pS (h _ (abV hi)),pS ok]);rw[f] at key;rw[a];refine key.trans ?_;unfold iD NR;rw[d,aeW,acI,acR]
theorem rP{ops:Array Oper}{rest:List Oper}{op:Oper}{a:Act}{o:Nat}(n:Nat)(d:op.guard=none)(ty:aN)(x y:Operand)(ho:op.op= .store ty x y)(cells:Array aC)(e:a.eval x= .pointer (some ⟨b,o,none⟩))(f:a.eval y= .agg cells)(i:w.there b o n)(j:cells.size=n)(hi:(P.info? ty).map (·.size)=some n)(h1:cells.all (·.oneCell')=true)(h:wpList P ops Q rest (a.put op.dst undef) (w.setCells b o cells.toList)):wpList P ops Q (op::rest) a w:=by
 subst j;exact wpList_store_mid d ty x y ho b o cells e f i hi h1 h
theorem Bi{α:Type _}(a b a' y z:α)(Y Z:List α)(hi:i<Y.length):(((a::b::(Y++Z)).set (i+2) y).set (Y.length+i+2) z).set 0 a'=a'::b::(Y.set i y++Z.set i z):=by
 simp only[abS,abU];rw[adT _ _ hi,ab7 _ _ aT];simp
section
variable{F:Nat->Prop}{w w0 w':aA}{hb m g:Nat}{c:Int}{k:Kv}{rs:List Rm}
theorem Q6(hb m g:Nat)(c:Int)(k:Kv)(hi:i<rs.length)(a:Rm):(((xK hb m g c k rs).set (2+i) (uT a)).set (2+rs.length+i) (tW a)).set 0 (PB hb 139 (iD m c (rs.set i a)))=xK hb m g c k (rs.set i a):=by
 have e:=Bi (PB hb 139 (iD m c rs)) (N2 m g c k) (PB hb 139 (iD m c (rs.set i a))) (uT a) (tW a) (rs.map uT) (rs.map tW) (i:=i) (by simpa using hi);rw[acS] at e;rw[show 2+i=i+2 by omega,show 2+rs.length+i=rs.length+i+2 by omega];unfold xK;rw[adP,adP];exact e
theorem bY.there(h:bY F w hb m g c k rs)(hi:i<8):w.there hb (2+i *15) 15:=λj a=>by
 have:=h.B7 hi;rw[h.RV hi a (v:=(gE (bJ rs i))[j]'(by rw[pS this];exact a)) (abL _)];exact⟨rfl,h.fz _⟩
theorem bY.fresh(h:bY F w0 hb m g c k rs)(n:aD w0 w0 w)(hi:i<8)(a:Rm)(ok:pX a)(hl:(T7 a (λb=>b<w0.heap.size) w/\a.cA=none/\a.C= [])\/(a.l=none/\TS a (λb=>b<w0.heap.size) w)):bY F (w.setCells hb (2+i *15) (gE a)) hb m g c k (rs.set i a)/\Kp F w0 (w.setCells hb (2+i *15) (gE a)):=by
 have e:i<rs.length:=by rw[h.l8];exact hi
 have o1:Ob (((xK hb m g c k rs).set (2+i) (uT a)).set (2+rs.length+i) (tW a)) F w/\Kp F w0 w:=by
  rcases hl with⟨hl,t,A⟩|⟨t,hl⟩
  .obtain⟨G,f,back⟩:=h.o.use (2+i) _ (LK hb m g c k e);have s:Ol G w0:=f.1;obtain⟨b1,b2⟩:=back (uT a) w ⟨λb hb=>abO (s b hb) n.size,λx f=>by
    obtain⟨y,B⟩:=hl.2 x f;exact⟨y,B.sub λb hb=>s b hb⟩⟩ (s.below n)
   obtain⟨u,p,d⟩:=b1.use (2+rs.length+i) (tW rs[i]) (by rw[adU aQ];exact KK hb m g c k e);have j:Ol u w:=p.1;obtain⟨b3,z⟩:=d (tW a) w ⟨j,by rw[t,A];exact λD=>absurd D aT,λq hq=>by rw[t] at hq;cases hq⟩ (Kp.refl _ _);exact⟨b3,b2⟩
  .obtain⟨G,f,back⟩:=h.o.use (2+i) _ (LK hb m g c k e);have s:Ol G w0:=f.1;obtain⟨b1,b2⟩:=back (uT a) w0 ⟨s,λx f=>by rw[t] at f;cases f⟩ (Kp.refl _ _);obtain⟨u,p,d⟩:=b1.use (2+rs.length+i) (tW rs[i]) (by rw[adU aQ];exact KK hb m g c k e);have j:Ol u w0:=p.1;obtain⟨b3,z⟩:=d (tW a) w ⟨λb hb=>abO (j b hb) n.size,hl.2.1,λq hq=>⟨(hl.2.2 q hq).1,λE=>(hl.2.2 q hq).2 (j q E)⟩⟩ (j.below n);exact⟨b3,z⟩
 obtain⟨o1,H⟩:=o1;obtain⟨G,f,back⟩:=o1.use 0 (PB hb 139 (iD m c rs)) (by rw[adU aQ,adU aQ];rfl);have f:mR hb 139 (iD m c rs) G w:=f;have I:bE (w.setCells hb (2+i *15) (gE a)) hb 139 (iD m c (rs.set i a)):=by
  have:=iX hb 139 (gE a) (2+i *15) w _ f.b;rw[Nq m c h.ok e ok] at this;exact this
 obtain⟨s1,s2⟩:=f.eY I (fF hb (gE a) (2+i *15) w w (bL w hb));obtain⟨b1,b2⟩:=back (PB hb 139 (iD m c (rs.set i a))) _ s1 s2;refine⟨⟨by rw[Q6 hb m g c k e a] at b1;exact b1,by simp[h.l8],λr v=>?_⟩,H.trans b2⟩;rcases acT v with v|rfl
 .exact h.ok r v
 .exact ok
end
end
variable{k:Kv}{n j:Nat}{G:Nat->Prop}
section
theorem KI.Ts(h:KI k n):k.s.P.length<=8:=h.p8
section
variable{F:Nat->Prop}{w w0 w':aA}{hb m g:Nat}{c:Int}{k:Kv}{rs:List Rm}
def WY(k:Kv)(e:Int):Kv:={k with s:=jZ k.s e true}
def UI(k:Kv)(rs:List Rm)(e:Int):Int:=if 0<=e/\e<4 then(if(bJ rs e.toNat).C.length=0 then 6 else B9 k.s e) else 1
def YH(k:Kv)(rs:List Rm)(e:Int):Kv:=if 0<=e/\e<4 then(if(bJ rs e.toNat).C.length=0 then k else WY k e) else k
def Ak(rs:List Rm)(e:Int):List Rm:=if 0<=e/\e<4 then(if(bJ rs e.toNat).C.length=0 then rs else rs.set e.toNat {bJ rs e.toNat with ru:=true}) else rs
theorem Sn(r:Rm)(h:pX r)(b:Bool):gE {r with ru:=b}=(gE r).set 14 (.bool b):=by
 have hl:=h.rg.1;unfold gE;rw[ab7 _ _ aT,ab7 _ _ (by simp[hl])];simp[hl]
theorem bY.XD(h:bY F w hb m g c k rs)(hi:i<8)(f:j<15)(v:aC)(a:Rm)(d:gE a=(gE (bJ rs i)).set j v)(ok:pX a)(h1:uT a=uT (bJ rs i))(e:tW a=tW (bJ rs i)):bY F (w.setCell (hb,2+i *15+j) v) hb m g c k (rs.set i a)/\Kp F w (w.setCell (hb,2+i *15+j) v):=by
 have b:i<rs.length:=by rw[h.l8];exact hi
 rw[<-lS b] at d h1 e;exact h.put b f v a d ok h1 e
theorem bY.W9(h:bY F w hb m g c k rs)(hi:i<8)(b:Bool):bY F (w.setCell (hb,2+i *15+14) (.bool b)) hb m g c k (rs.set i {bJ rs i with ru:=b})/\Kp F w (w.setCell (hb,2+i *15+14) (.bool b)):=
 h.XD hi aQ _ _ (Sn _ (h.B7 hi) b) ⟨(h.B7 hi).rg,(h.B7 hi).cl,(h.B7 hi).cr⟩ rfl rfl
theorem Oo(h:bY F w hb m g c k rs)(p:k.s.P.length<=8)(e:Int):aG prog 38 #[.pointer hb,e] w (yY F hb m g c (YH k rs e) (Ak rs e) (.int .i64 (UI k rs e)) w):=by
 have f:=aP (oR h e);have l:=aP h;have v:=aP p;by_cases hc:0<=e/\e<4
 .obtain⟨n,rfl⟩:=abR hc.1;have y:n<4:=aQ;unfold YH UI Ak;rw[abP hc,abP hc,abP hc];rw[oT hb y] at f;simp only[abW];have c4:=h.Km (n:=n) aQ;clear h p hc;by_cases b:(bJ rs n).C.length=0
  .rw[abP b,abP b,abP b];rw[b] at c4;generalize (bJ rs n).cA=A at *;generalize (bJ rs n).cc=d at *;clear b;go_enter func38,ntmps38
   go_wp2_with fail
   refine aR f ?_;rintro x q ⟨rfl,a⟩;have d4:=bK a c4;have j:=aP (l.o.below a);clear a f l c4;go_wp2_with fail
   go_ret
   exact⟨rfl,j.o⟩
  .rw[abQ b,abQ b,abQ b];obtain⟨z,b⟩:∃z,(bJ rs n).C.length=z+1:=⟨(bJ rs n).C.length - 1,aQ⟩
   replace c4:∃A d,w.cell? (hb,2+n *15+4)=some (.slice A (z+1) d):=⟨_,_,by rw[<-b];exact c4⟩
   obtain⟨A,d,c4⟩:=c4;clear b;go_enter func38,ntmps38
   go_wp2_with fail
   refine aR f ?_;rintro x q ⟨rfl,a⟩;have d4:=bK a c4;have j:=aP (l.o.below a);have d14:=j.o.1.V5 (n:=n) aQ;have f14:=j.o.1.fz (2+n *15+14);clear a f l c4;have r:=aP (j.o.1.W9 (i:=n) aQ true);have B:=aP (AU r.o.1 v.o n);go_wp2_with(go_at_call 71;(refine aR B ?_);rintro x E ⟨rfl,t,u⟩;have D:=bP t ((j.o.2.trans r.o.2).trans u);clear t u)
   go_ret
   exact⟨rfl,D.o⟩
 .rw[lO hb hc] at f;unfold YH UI Ak;rw[abQ hc,abQ hc,abQ hc];clear h p hc;go_enter func38,ntmps38
  go_wp2_with fail
  refine aR f ?_;rintro x q ⟨rfl,a⟩;have j:=aP (l.o.below a);clear a f l;go_wp2_with fail
  go_ret
  exact⟨rfl,j.o⟩
def T6(k:Kv)(rs:List Rm)(e:Int):Int:=if 0<=e/\e<4 then(if(bJ rs e.toNat).l.isNone=true then 6 else B9 k.s e) else 1
def Bb(k:Kv)(rs:List Rm)(e:Int):Kv:=if 0<=e/\e<4 then(if(bJ rs e.toNat).l.isNone=true then k else WY k e) else k
def Ch(rs:List Rm)(e:Int):List Rm:=if 0<=e/\e<4 then(if(bJ rs e.toNat).l.isNone=true then rs else rs.set e.toNat (zR none 0 [])) else rs
theorem Un(B:Option aJ)(d:Nat)(ws:List Int)(h:Ol G w):T7 (zR B d ws) G w:=⟨h,λx a=>by cases a⟩
theorem Ad(h:bY F w hb m g c k rs)(q:k.s.P.length<=8)(e:Int):aG prog 36 #[.pointer hb,e] w (yY F hb m g c (Bb k rs e) (Ch rs e) (.int .i64 (T6 k rs e)) w):=by
 have b:=aP (oR h e);have f:=aP h;have v:=aP q;by_cases hc:0<=e/\e<4
 .obtain⟨n,rfl⟩:=abR hc.1;have y:n<4:=aQ;unfold Bb T6 Ch;rw[abP hc,abP hc,abP hc];rw[oT hb y] at b;simp only[abW];have c0:=h.OY (n:=n) aQ;clear h q hc;by_cases hq:(bJ rs n).l.isNone=true
  .rw[abP hq,abP hq,abP hq];have p:=ae5.1 hq;clear hq;unfold xH at c0;rw[p] at c0;simp only[adM] at c0;clear p;go_enter func36,ntmps36
   go_wp2_with fail
   refine aR b ?_;rintro x j ⟨rfl,a⟩;have d0:=bK a c0;have d:=aP (f.o.below a);clear a b f c0;go_wp2_with fail
   go_ret
   exact⟨rfl,d.o⟩
  .rw[abQ hq,abQ hq,abQ hq];obtain⟨l,p⟩:∃l,(bJ rs n).l=some l:=afG.1 (by simpa using hq);clear hq;unfold xH at c0;rw[p] at c0;simp only[acO] at c0;generalize (bJ rs n).g=gl at *;clear p;go_enter func36,ntmps36
   go_wp2_with fail
   refine aR b ?_;rintro x j ⟨rfl,a⟩;have d0:=bK a c0;have d:=aP (f.o.below a);have z:=d.o.1.there (i:=n) aQ;have r:aH (bY F (j.setCells hb (2+n *15) (#[pK,bH,aU,aU,bH,bC,bC,bC,bC,bC,bC,bC,bC,aU,false]:Array aC).toList) hb m g c k (rs.set n (zR none 0 []))/\Kp F j (j.setCells hb (2+n *15) (#[pK,bH,aU,aU,bH,bC,bC,bC,bC,bC,bC,bC,bC,aU,false]:Array aC).toList)):=(d.o.1.fresh (Below.refl _ _) (i:=n) aQ (zR none 0 []) (MV none 0 aT aT) (.inl ⟨Un none 0 [] (λ_ h=>h),rfl,rfl⟩))
   clear a b f c0;go_wp2_with(refine rP 15 rfl 136 _ _ rfl #[pK,bH,aU,aU,bH,bC,bC,bC,bC,bC,bC,bC,bC,aU,false] rfl rfl ?_ rfl aV aV ?_;with_reducible exact z)
   have A:=aP (AU r.o.1 v.o n);generalize j.setCells hb (2+n *15) (#[pK,bH,aU,aU,bH,bC,bC,bC,bC,bC,bC,bC,bC,aU,false]:Array aC).toList=w4 at *;go_wp2_with fail
   refine aR A ?_;rintro x C ⟨rfl,t,u⟩;have B:=bP t ((d.o.2.trans r.o.2).trans u);clear t u;go_wp2_with fail
   go_ret
   exact⟨rfl,B.o⟩
 .rw[lO hb hc] at b;unfold Bb T6 Ch;rw[abQ hc,abQ hc,abQ hc];clear h q hc;go_enter func36,ntmps36
  go_wp2_with fail
  refine aR b ?_;rintro x j ⟨rfl,a⟩;have d:=aP (f.o.below a);clear a b f;go_wp2_with fail
  go_ret
  exact⟨rfl,d.o⟩
end
end
variable{A:Option aJ}
section
variable{F:Nat->Prop}{w w0 w':aA}{hb m g:Nat}{c:Int}{k:Kv}{rs:List Rm}
def zL(rs:List Rm)(e:Int)(ws:List Int):Bool:=decide (0<=e/\e<4)&&(bJ rs e.toNat).l.isNone&&decide (ws.length<=256)
def EO(k:Kv)(rs:List Rm)(e:Int)(ws:List Int):Int:=if 0<=e/\e<4 then(if(bJ rs e.toNat).l.isNone=true then(if ws.length<=256 then B9 k.s e else 24) else 22) else 1
def PO(k:Kv)(rs:List Rm)(e:Int)(ws:List Int):Kv:=if zL rs e ws=true then WY k e else k
def RH(rs:List Rm)(e:Int)(ws:List Int)(B:Option aJ)(d:Nat):List Rm:=if zL rs e ws=true then rs.set e.toNat (zR B d ws) else rs
theorem Ba(h:bY F w hb m g c k rs)(G:k.s.P.length<=8)(e:Int){ws:List Int}(cw:Nat)(hs:Sl eU 1 w A ws)(hl:ws.length<=4000000000)(H:∀v∈ws,0<=v/\v<18446744073709551616):
 aG prog 37 #[.pointer hb,e,(A,ws.length,cw)] w λr w'=>∃B d,yY F hb m g c (PO k rs e ws) (RH rs e ws B d) (.int .i64 (EO k rs e ws)) w r w':=by
 have p:=aP (oR h e);have y:=aP h;have R:=aP G;have S:=aP hs;have T:=aP H;by_cases hc:0<=e/\e<4
 .obtain⟨n,rfl⟩:=abR hc.1;have V:n<4:=aQ;rw[oT hb V] at p;have c0:=h.OY (n:=n) aQ;unfold xH at c0;by_cases hq:(bJ rs n).l.isNone=true
  .have C:=ae5.1 hq;rw[C] at c0;simp only[adM] at c0;by_cases hw:ws.length<=256
   .have z:zL rs n ws=true:=by unfold zL;rw[acB hc,abW,hq,acB hw];rfl
    unfold PO RH EO;rw[abP hc,abP z];simp only[abP z];simp only[abW];rw[abP hq,abP hw];have I:=aP (λW (X:Sl eU 1 W A ws)=>Qb A ws cw W X aQ);have U:=aP hw;by_cases M:ws.length=0
    .obtain rfl:ws= []:=acM M;simp only[ac2,Int.ofNat_eq_natCast] at I⊢;clear M;clear h G hc hs hl H hq C z hw;go_enter func37,ntmps37
     go_wp2_with fail
     refine aR p ?_;rintro x L ⟨rfl,a⟩;have d0:=bK a c0;have j:=bP (y.o.below a) (S.o.keep a);clear a p y c0;go_wp2_with fail
     refine aS (I.o _ j.o.2) ?_;rintro x D ⟨B,d,rfl,own,f⟩;have E:=aP (j.o.1.1.fresh f (i:=n) aQ (zR B d []) (MV B d U.o T.o) (.inr ⟨rfl,λb hb=>abO hb f.size,own.sl yG,λq hq=>⟨qJ own q hq,Nat.not_lt.2 (own.lt q hq).1⟩⟩));have N:=(j.o.1.1.below f).1.there (i:=n) aQ;have t:D.setCells hb (2+n *15) (gE (zR B d []))=D.setCells hb (2+n *15) (#[pK,bH,aU,aU, .slice B 0 d,bC,bC,bC,bC,bC,bC,bC,bC,aU,false]:Array aC).toList:=rfl;rw[t] at E;clear own f I d0 t;go_wp2_with(refine rP 15 rfl 136 _ _ rfl #[pK,bH,aU,aU, .slice B 0 d,bC,bC,bC,bC,bC,bC,bC,bC,aU,false] rfl rfl ?_ rfl aV aV ?_;with_reducible exact N)
     have O:=aP (AU E.o.1 R.o n);generalize D.setCells hb (2+n *15) (#[pK,bH,aU,aU, .slice B 0 d,bC,bC,bC,bC,bC,bC,bC,bC,aU,false]:Array aC).toList=w4 at *;go_wp2_with fail
     refine aR O ?_;rintro x w5 ⟨rfl,J,K⟩;have Q:=bP J ((j.o.1.2.trans E.o.2).trans K);clear J K;go_wp2_with fail
     go_ret
     exact⟨B,d,rfl,Q.o⟩
    .have k0:(0:Int)<(ws.length:Int):=aQ;have Y:¬(256:Int)<(ws.length:Int):=aQ;have Z:0<ws.length:=aQ;clear M;clear h G hc hs hl H hq C z hw;go_enter func37,ntmps37
     go_wp2_with fail
     refine aR p ?_;rintro x L ⟨rfl,a⟩;have d0:=bK a c0;have j:=bP (y.o.below a) (S.o.keep a);clear a p y c0;go_wp2_with fail
     refine aS (I.o _ j.o.2) ?_;rintro x D ⟨B,d,rfl,own,f⟩;have E:=aP (j.o.1.1.fresh f (i:=n) aQ (zR B d ws) (MV B d U.o T.o) (.inr ⟨rfl,λb hb=>abO hb f.size,own.sl yG,λq hq=>⟨qJ own q hq,Nat.not_lt.2 (own.lt q hq).1⟩⟩));have N:=(j.o.1.1.below f).1.there (i:=n) aQ;have t:D.setCells hb (2+n *15) (gE (zR B d ws))=D.setCells hb (2+n *15) (#[pK,bH,aU,aU, .slice B ws.length d,bC,bC,bC,bC,bC,bC,bC,bC,aU,true]:Array aC).toList:=by rw[show gE (zR B d ws)=(#[pK,bH,aU,aU, .slice B ws.length d,bC,bC,bC,bC,bC,bC,bC,bC,aU, .bool (decide (0<ws.length))]:Array aC).toList from rfl,acB Z]
     rw[t] at E;clear own f I d0 t;go_wp2_with(refine rP 15 rfl 136 _ _ rfl #[pK,bH,aU,aU, .slice B ws.length d,bC,bC,bC,bC,bC,bC,bC,bC,aU,true] rfl rfl ?_ rfl aV aV ?_;with_reducible exact N)
     have O:=aP (AU E.o.1 R.o n);generalize D.setCells hb (2+n *15) (#[pK,bH,aU,aU, .slice B ws.length d,bC,bC,bC,bC,bC,bC,bC,bC,aU,true]:Array aC).toList=w4 at *;go_wp2_with fail
     refine aR O ?_;rintro x w5 ⟨rfl,J,K⟩;have Q:=bP J ((j.o.1.2.trans E.o.2).trans K);clear J K;go_wp2_with fail
     go_ret
     exact⟨B,d,rfl,Q.o⟩
   .have qZ:aH (zL rs n ws=false):=by unfold aH zL;rw[ab4 hw,afF]
    have u:aH (EO k rs n ws=24):=by unfold aH EO;rw[abP hc,abW,abP hq,abQ hw]
    have Y:(256:Int)<(ws.length:Int):=aQ;rw[u.o];clear hq C hw;unfold PO RH;rw[qZ.o];simp only[acH,acG];clear h G hc hs hl H;go_enter func37,ntmps37
    go_wp2_with fail
    refine aR p ?_;rintro x L ⟨rfl,a⟩;have d0:=bK a c0;have j:=aP (y.o.below a);clear a p y c0;go_wp2_with fail
    go_ret
    exact⟨none,0,rfl,j.o⟩
  .have qZ:aH (zL rs n ws=false):=by unfold aH zL;rw[abW,Bool.not_eq_true] at *;rw[hq,afF,agA]
   have u:aH (EO k rs n ws=22):=by unfold aH EO;rw[abP hc,abW,abQ hq]
   rw[u.o];obtain⟨l,C⟩:∃l,(bJ rs n).l=some l:=afG.1 (by simpa using hq);rw[C] at c0;simp only[acO] at c0;clear hq C;unfold PO RH;rw[qZ.o];simp only[acH,acG];clear h G hc hs hl H;go_enter func37,ntmps37
   go_wp2_with fail
   refine aR p ?_;rintro x L ⟨rfl,a⟩;have d0:=bK a c0;have j:=aP (y.o.below a);clear a p y c0;go_wp2_with fail
   go_ret
   exact⟨none,0,rfl,j.o⟩
 .rw[lO hb hc] at p;have qZ:aH (zL rs e ws=false):=by unfold aH zL;rw[ab4 hc,agA,agA]
  have u:aH (EO k rs e ws=1):=by unfold aH EO;rw[abQ hc]
  rw[u.o];unfold PO RH;rw[qZ.o];simp only[acH,acG];clear h G hc hs hl H;go_enter func37,ntmps37
  go_wp2_with fail
  refine aR p ?_;rintro x L ⟨rfl,a⟩;skip
  have j:=aP (y.o.below a);clear a p y;go_wp2_with fail
  go_ret
  exact⟨none,0,rfl,j.o⟩
end
def JI(x:Lb)(gl:Nat)(sv:aC)(od:Int):Rm:=⟨some x,gl,sv,od,0,none,0, [],Kh,0,false⟩
theorem Nv(x:Lb)(gl:Nat)(sv:aC)(od:Int):pX (JI x gl sv od):=⟨P7,by simp[JI],λv a=>by simp[JI] at a⟩
def wO(rs:List Rm)(e:Int)(ts:List Tk)(od:Int):Bool:=decide (0<=e/\e<4)&&((bJ rs e.toNat).l.isNone&&(decide ((bJ rs e.toNat).C.length=0)&&(oX ts&&decide (od=0\/od=1))))
def zS(rs:List Rm)(e:Int)(ts:List Tk)(od:Int):Int:=if 0<=e/\e<4 then(if(bJ rs e.toNat).l.isNone=true then(if(bJ rs e.toNat).C.length=0 then(if oX ts=true/\(od=0\/od=1) then 0 else 1) else 22) else 7) else 1
def J4(rs:List Rm)(e:Int)(ts:List Tk)(od:Int)(gl:Nat)(sv:aC):List Rm:=if wO rs e ts od=true then rs.set e.toNat (JI (mU ts od) gl sv od) else rs
section
variable{F:Nat->Prop}{w w0 w':aA}{hb m g:Nat}{c:Int}{k:Kv}{rs:List Rm}
theorem OW(h:bY F w hb m g c k rs)(e:Int){L:List Tm}(cw:Nat)(ht:sM w A L)(hl:L.length<=1000)(P:∀x∈L,x.t.se.length<=1000000)(od:Int):
 aG prog 33 #[.pointer hb,e, .slice A L.length cw,od] w λr w'=>∃gl sv,yY F hb m g c k (J4 rs e (L.map Tm.t) od gl sv) (.int .i64 (zS rs e (L.map Tm.t) od)) w r w':=by
 have D:=aP (oR h e);have J:=aP h;have T:=aP ht;have H8:=aP P;have HL:=aP hl;have K:=aP (λW (hW:sM W A L)=>Fj hW hl P cw od);clear ht hl;by_cases hc:0<=e/\e<4
 .obtain⟨n,rfl⟩:=abR hc.1;have hn:n<4:=aQ;rw[oT hb hn] at D;have c0:=h.OY (n:=n) aQ;have c4:=h.Km (n:=n) aQ;unfold xH at c0;by_cases hq:(bJ rs n).l.isNone=true
  .have E:=ae5.1 hq;rw[E] at c0;simp only[adM] at c0;by_cases hw:(bJ rs n).C.length=0
   .rw[hw] at c4;replace c4:∃A d,w.cell? (hb,2+n *15+4)=some (.slice A 0 d):=⟨_,_,c4⟩
    obtain⟨cA,cc,c4⟩:=c4;by_cases f:oX (L.map Tm.t)=true/\(od=0\/od=1)
    .have N8:aH (wO rs n (L.map Tm.t) od=true):=by unfold aH wO;rw[acB hc,abW,hq,acB hw,f.1,acB f.2];rfl
     have U:aH (zS rs n (L.map Tm.t) od=0):=by unfold aH zS;rw[abP hc,abW,abP hq,abP hw,abP f]
     rw[U.o];unfold J4;simp only[abP N8.o,abP f,abW] at K⊢;generalize mU (L.map Tm.t) od=X at *;have HC:=aP (λW (hW:sM W A L)=>Hl A L cw W hW.o (by have:=HL.o;omega));clear h P hc hq E hw f N8 U;go_enter func33,ntmps33
     go_wp2_with(go_at_call 55;(refine aR D ?_);rintro x w2 ⟨rfl,a⟩;(have d0:=bK a c0);(have d4:=bK a c4);(have s:=bP (J.o.below a) (T.o.keep a));(clear a D J c0 c4))
     refine aS (K.o _ s.o.2) ?_;rintro x w3 ⟨gl,y,rfl,V,G⟩;have H:=bP V G;clear V G d4 K;go_wp2_with fail
     refine aS (HC.o _ (s.o.2.keep H.o.2)) ?_;rintro x w4 ⟨B,d,rfl,own,Y⟩;have H4:=bP own Y;clear own Y HC d0;go_upto_region 13 with(fail)
     go_loopw [13,43] (λ_ v43 wr=>∃(j:Nat) (M:List Tm),j<=L.length/\v43= .int .i64 j/\aH (M.length=L.length/\∀p,j<=p->M[p]?=L[p]?)/\aH (bI pM 5 wr w3.heap.size 125 B d M)/\aH (aD w3 w3 wr)) (λ_ v43 _=>L.length - (aL v43).toNat)
     case atStart=>exact⟨0,L,abX _,rfl,⟨rfl,λ_ _=>rfl⟩,H4.o.1,H4.o.2⟩
     case round=>
      obtain⟨j,M,hj,rfl,Z,N,Q⟩:=hrel;by_cases O:j<L.length
      .have R:j<M.length:=by rw[Z.o.1];exact O
       obtain⟨q,hq⟩:=wM N.o aQ;have S:M[j]=L[j]:=by
        have:=Z.o.2 j (abM _);rw[abL R,abL O] at this;exact Option.some.inj this
       have e3:=bN lL (by rw[hq] at N;exact N.o) R (j:=3) (v:= .slice M[j].A M[j].t.se.length M[j].c) rfl;have a1:wr.frozen? (q,j *5+3)=false:=(dF (by rw[hq] at N;exact N.o) (j *5+3) (by have:=N.o.cap;omega)).2;rw[S] at e3;have HS:=aP (QJ L[j].A L[j].t.se L[j].c wr (((s.o.2.keep H.o.2).keep Q.o).sl _ (abV O)) (by have:=H8.o _ (abV O);omega));have HX:aH (M[j]=L[j]):=S;have j0:(0:Int)<=j:=aQ;have j1:(j:Int)<(L.length:Int):=aQ;have j2:(j:Int)<1000:=by have:=HL.o;omega
       subst hq;clear S;generalize hx:L[j]=x at *;replace hx:=aP hx;obtain⟨xt,xA,xc⟩:=x;simp only at e3 HS;have hql:=(N.o.lt q rfl)
       go_wp2_with fail
       refine aR HS ?_;rintro v w5 ⟨B2,d2,rfl,own5,I⟩;have O5:=aP (N.o.keep I);have f3:w5.frozen? (q,j *5+3)=false:=((XS I).2 q _ hql.2).trans a1;have e5:=bK I e3;have HB5:=aP ((Q.o.trans (I.mono Q.o.size)));clear own5 I e3 a1;go_wp2_with fail
       have hx3:pM ⟨xt,B2,d2⟩=(pM M[j]).set 3 (.slice B2 xt.se.length d2):=by rw[HX.o];rfl
       obtain⟨o7,g7⟩:=qM lL.len O5.o R (j:=3) aQ ⟨xt,B2,d2⟩ (.slice B2 xt.se.length d2) hx3;refine⟨⟨j+1,M.set j ⟨xt,B2,d2⟩,aQ,rfl,⟨by rw[ab1];exact Z.o.1,λp hp=>by rw[adU aQ];exact Z.o.2 p aQ⟩,?_,HB5.o.grown g7 HB5.o.size (λr hr=>by injection hr with hr;omega)⟩,by simp only[aL];omega⟩;exact o7
      .obtain rfl:j=L.length:=aQ;have H6:=aP (s.o.1.1.fresh (H.o.2.trans (Q.o.mono H.o.2.size)) (i:=n) aQ (JI X gl (.slice B L.length d) od) (Nv _ _ _ _) (.inl ⟨⟨λb hb=>abO hb (abT H.o.2.size Q.o.size),λz E=>⟨y,by injection E with E;exact E ▸ H.o.1.below Q.o⟩⟩,rfl,rfl⟩));have ht:=(s.o.1.1.below (H.o.2.trans (Q.o.mono H.o.2.size))).1.there (i:=n) aQ;have hw4:wr.setCells hb (2+n *15) (gE (JI X gl (.slice B L.length d) od))=wr.setCells hb (2+n *15) (#[.pointer (some ⟨gl,0,none⟩), .slice B L.length d,od,aU,bH,bC,bC,bC,bC,bC,bC,bC,bC,aU,false]:Array aC).toList:=rfl;rw[hw4] at H6;clear N Z hw4;go_wp2_with(refine rP 15 rfl 136 _ _ rfl #[.pointer (some ⟨gl,0,none⟩), .slice B L.length d,od,aU,bH,bC,bC,bC,bC,bC,bC,bC,bC,aU,false] rfl rfl ?_ rfl aV aV ?_;with_reducible exact ht)
       generalize wr.setCells hb (2+n *15) (#[.pointer (some ⟨gl,0,none⟩), .slice B L.length d,od,aU,bH,bC,bC,bC,bC,bC,bC,bC,bC,aU,false]:Array aC).toList=w8 at *;go_wp2_with fail
       go_ret
       exact⟨gl,_,rfl,H6.o.1,s.o.1.2.trans H6.o.2⟩
    .have qZ:aH (wO rs n (L.map Tm.t) od=false):=by
      unfold aH wO;cases h1:oX (L.map Tm.t) with
      |false=>simp
      |true=>rw[ab4 (λh2=>f ⟨h1,h2⟩)];simp
     have u:aH (zS rs n (L.map Tm.t) od=1):=by unfold aH zS;rw[abP hc,abW,abP hq,abP hw,abQ f]
     rw[u.o];simp only[abQ f] at K;clear hq E hw f;unfold J4;simp only[qZ.o,acH,acG];clear h P hc;go_enter func33,ntmps33
     go_wp2_with(go_at_call 55;(refine aR D ?_);rintro x w2 ⟨rfl,a⟩;(have d0:=bK a c0);(have d4:=bK a c4);(have s:=bP (J.o.below a) (T.o.keep a));(clear a D J c0 c4))
     refine aS (K.o _ s.o.2) ?_;rintro x w3 ⟨rfl,G⟩;have H:=aP (s.o.1.1.below G);clear G K;go_wp2_with fail
     go_ret
     exact⟨0, .int .i64 0,rfl,H.o.1,s.o.1.2.trans H.o.2⟩
   .have qZ:aH (wO rs n (L.map Tm.t) od=false):=by unfold aH wO;rw[abW,ab4 hw];simp
    have u:aH (zS rs n (L.map Tm.t) od=22):=by unfold aH zS;rw[abP hc,abW,abP hq,abQ hw]
    rw[u.o];replace c4:∃A d z,0<z/\w.cell? (hb,2+n *15+4)=some (.slice A z d):=⟨_,_,_,aQ,c4⟩
    obtain⟨cA,cc,z,hz0,c4⟩:=c4;have z0:(0:Int)<(z:Int):=aQ;clear hq E hw hz0 K;unfold J4;simp only[qZ.o,acH,acG];clear h P hc;go_enter func33,ntmps33
    go_wp2_with(go_at_call 55;(refine aR D ?_);rintro x w2 ⟨rfl,a⟩;(have d0:=bK a c0);(have d4:=bK a c4);(have s:=bP (J.o.below a) (T.o.keep a));(clear a D J c0 c4))
    go_ret
    exact⟨0, .int .i64 0,rfl,s.o.1⟩
  .have qZ:aH (wO rs n (L.map Tm.t) od=false):=by unfold aH wO;rw[abW,Bool.not_eq_true] at *;rw[hq];simp
   have u:aH (zS rs n (L.map Tm.t) od=7):=by unfold aH zS;rw[abP hc,abW,abQ hq]
   rw[u.o];obtain⟨l,E⟩:∃l,(bJ rs n).l=some l:=afG.1 (by simpa using hq);rw[E] at c0;simp only[acO] at c0;clear hq E K;unfold J4;simp only[qZ.o,acH,acG];clear h P hc;go_enter func33,ntmps33
   go_wp2_with(go_at_call 55;(refine aR D ?_);rintro x w2 ⟨rfl,a⟩;(have d0:=bK a c0);(have d4:=bK a c4);(have s:=bP (J.o.below a) (T.o.keep a));(clear a D J c0 c4))
   go_ret
   exact⟨0, .int .i64 0,rfl,s.o.1⟩
 .rw[lO hb hc] at D;have qZ:aH (wO rs e (L.map Tm.t) od=false):=by unfold aH wO;rw[ab4 hc,agA]
  have u:aH (zS rs e (L.map Tm.t) od=1):=by unfold aH zS;rw[abQ hc]
  rw[u.o];have c0:True:=trivial;have c4:True:=trivial;clear K;unfold J4;simp only[qZ.o,acH,acG];clear h P hc;go_enter func33,ntmps33
  go_wp2_with(go_at_call 55;(refine aR D ?_);rintro x w2 ⟨rfl,a⟩;(have s:=bP (J.o.below a) (T.o.keep a));(clear a D J c0 c4))
  go_ret
  exact⟨0, .int .i64 0,rfl,s.o.1⟩
end
variable{x:Lb}{B:Option aJ}
section
def uX(rs:List Rm)(i:Nat)(x:Lb):List Rm:=rs.set i {bJ rs i with l:=some x}
def QN(rs:List Rm)(i:Nat)(v:Int):List Rm:=rs.set i {bJ rs i with sn:=v}
theorem l9(h:i<rs.length)(r:Rm):bJ (rs.set i r) i=r:=by unfold bJ;simp[h]
theorem vT(h:i≠j)(r:Rm):bJ (rs.set i r) j=bJ rs j:=by unfold bJ;rw[abY,adU h,abY]
def JD(rs:List Rm)(e t d:Int):Int:=if 0<=e/\e<4 then(match(bJ rs e.toNat).l with|none=>6|some x=>(oF x t d).1) else 1
def xX(rs:List Rm)(e t d:Int):List Rm:=if 0<=e/\e<4 then(match(bJ rs e.toNat).l with|none=>rs|some x=>uX rs e.toNat (oF x t d).2) else rs
section
variable{F:Nat->Prop}{w w0 w':aA}{hb m g:Nat}{c:Int}{k:Kv}{rs:List Rm}
theorem bY.Kw(h:bY F w hb m g c k rs)(hi:i<8)(hl:(bJ rs i).l=some x):∃G y,bU G w (bJ rs i).g x y/\(∀(b:Lb) (w':aA),(∃e,bU G w' (bJ rs i).g b e)->Kp G w w'->bY F w' hb m g c k (uX rs i b)/\Kp F w w'):=by
 have a:i<rs.length:=by rw[h.l8];exact hi
 rw[<-lS a] at hl;obtain⟨G,y,h1,f⟩:=h.lb a hl;refine⟨G,y,by rw[<-lS a];exact h1,λb w' d j=>?_⟩;rw[<-lS a] at d;obtain⟨b1,b2⟩:=f b w' d j;rw[lS a] at b1;exact⟨b1,b2⟩
theorem bY.VU(h:bY F w hb m g c k rs)(a:n<8)(hl:(bJ rs n).l=some x):w.cell? (hb,2+n *15)=some (.pointer (some ⟨(bJ rs n).g,0,none⟩)):=by
 have:=h.OY a;unfold xH at this;rw[hl] at this;exact this
theorem bY.rc3(h:bY F w hb m g c k rs)(a:n<8):w.cell? (hb,2+n *15+3)=some (.int .i64 (bJ rs n).sn):=h.RV (j:=3) a aQ rfl
theorem bY.Ls(h:bY F w hb m g c k rs)(hi:i<8)(v:Int):bY F (w.setCell (hb,2+i *15+3) v) hb m g c k (QN rs i v)/\Kp F w (w.setCell (hb,2+i *15+3) v):=
 h.XD hi aQ _ _ rfl ⟨(h.B7 hi).rg,(h.B7 hi).cl,(h.B7 hi).cr⟩ rfl rfl
theorem Jv(h:bY F w hb m g c k rs)(e t d:Int)(A:∀x,(bJ rs e.toNat).l=some x->∃n,n<=2900/\lA x n):aG prog 42 #[.pointer hb, .agg #[e,t,d]] w (yY F hb m g c k (xX rs e t d) (.int .i64 (JD rs e t d)) w):=by
 have r:=aX w (aI #[e,t,d] 126);have bk:=bE.new w 126 #[e,t,d];have q:bY (Fb F w) (w.alloc (aI #[e,t,d] 126)) hb m g c k rs:=(bY.cH hb m g c k rs).box h h.fl _;have H1:=aP (And.intro q (h.below r).2);have j:=aP (oR q e);have O:=bk.cell 0 _ rfl;have E:=bk.cell 1 _ rfl;have H:=bk.cell 2 _ rfl;clear h r bk;by_cases hc:0<=e/\e<4
 .obtain⟨n,rfl⟩:=abR hc.1;have P:n<4:=aQ;unfold xX JD;rw[abP hc,abP hc];rw[oT hb P] at j;rw[abW] at *;clear hc;cases hl:(bJ rs n).l with
  |none=>
   have c0:=q.OY (n:=n) aQ;unfold xH at c0;rw[hl] at c0;simp only[adM] at c0;simp only;clear q A hl;go_enter func42,ntmps42
   go_upto_region 1 with(fail)
   generalize w.alloc (aI #[n,t,d] 126)=w1 at *;generalize w.heap.size=q1 at *;go_wp2_with fail
   refine aR j ?_;rintro x p ⟨rfl,a⟩;have f:aH (bY F p hb m g c k rs/\Kp F w p):=⟨(H1.o.1.below a).1.less λb hb=> .inl hb,H1.o.2.trans (H1.o.1.below a).2.unbox⟩
   have d0:=bK a c0;clear a j H1 c0;go_wp2_with fail
   go_ret
   exact⟨rfl,f.o⟩
  |some x=>
   obtain⟨X,s,u⟩:=A x hl;have C:=aP u;have Q:=aP s;have D:=aP hl;simp only;clear q A hl s u;go_enter func42,ntmps42
   go_upto_region 1 with(fail)
   generalize w.alloc (aI #[n,t,d] 126)=w1 at *;generalize w.heap.size=q1 at *;go_wp2_with fail
   refine aR j ?_;rintro v p ⟨rfl,a⟩;have B:=aP (And.intro (H1.o.1.below (a.drew)).1 (H1.o.2.trans ((H1.o.1.below a.drew).2.unbox)));have I:=bK a E;have J:=bK a H;clear a j H1 O E H;have c0:p.cell? ⟨hb,2+n *15,none⟩=some (.pointer (some ⟨(bJ rs n).g,0,none⟩)):=B.o.1.VU (n:=n) aQ D.o;obtain⟨G,y,z,back⟩:=B.o.1.Kw (i:=n) aQ D.o;have R:=aP (Fk z C.o Q.o t d);have S:=aP (λT w' h k=>back T w' h k);have K:aH ((bJ (uX rs n (oF x t d).2) n).l=some (oF x t d).2/\(bJ (uX rs n (oF x t d).2) n).g=(bJ rs n).g):=by
    unfold aH uX;rw[l9 (by rw[B.o.1.l8];omega)];exact⟨rfl,rfl⟩
   generalize (bJ rs n).g=gl at *;clear z back D;go_upto_region 6 with(fail)
   go_region_held3 (λW=>W.cell? ⟨hb,2+n *15,none⟩=some (.pointer gl)/\W.cell? (q1,1)=some (.int .i64 t)/\W.cell? (q1,2)=some (.int .i64 d)) (first|exact⟨c0,I,J⟩|exact⟨‹_›,‹_›,‹_›⟩) ((go_at_call 27;(refine aR R ?_);rintro v L ⟨rfl,M,N⟩;have f:=aP (S.o _ _ M N);have U:=f.o.1.VU (n:=n) aQ K.o.1;rw[K.o.2] at U;have z0:=f.o.2.cell I (.inr rfl);have Y:=f.o.2.cell J (.inr rfl);have V:aH (bY F L hb m g c k (uX rs n (oF x t d).2)/\Kp F w L):=⟨f.o.1.less λb hb=> .inl hb,B.o.2.trans f.o.2.unbox⟩;clear M N f))
   go_wp2_with fail
   go_ret
   exact⟨rfl,V.o⟩
 .rw[lO hb hc] at j;unfold xX JD;rw[abQ hc,abQ hc];clear hc q A;go_enter func42,ntmps42
  go_upto_region 1 with(fail)
  generalize w.alloc (aI #[e,t,d] 126)=w1 at *;generalize w.heap.size=q1 at *;go_wp2_with fail
  refine aR j ?_;rintro x p ⟨rfl,a⟩;have f:aH (bY F p hb m g c k rs/\Kp F w p):=⟨(H1.o.1.below a).1.less λb hb=> .inl hb,H1.o.2.trans (H1.o.1.below a).2.unbox⟩
  clear a j H1;go_wp2_with fail
  go_ret
  exact⟨rfl,f.o⟩
def wG(rs:List Rm)(n:Nat)(x:Lb):List Ev:=BR x (bJ rs n).sn
def Kz(F:Nat->Prop)(hb m g:Nat)(c:Int)(k:Kv)(rs:List Rm)(n:Nat)(x:Lb)(w:aA)(e:aM)(w':aA):Prop:=∃B d,e= .returned (.slice B (wG rs n x).length d)/\bI qX 4 w' w.heap.size 165 B d (wG rs n x)/\bY (cI F B) w' hb m g c k (QN rs n (wrap64 ((bJ rs n).sn+(wG rs n x).length)))/\Kp F w w'
theorem bY.Uf(h:bY F w hb m g c k rs)(b:aD w w w')(d:∀q,aY B=some q->w.heap.size<=q/\q<w'.heap.size):bY (cI F B) w' hb m g c k rs:=
 bY.cH hb m g c k rs F (λr=>r<w.heap.size) (cI F B) w w' h (Kp.cD b λ_ h=>h) (λr a _=>a) (λr a=>a.elim (λa=>abO (h.fl r a) b.size) (λa=>(d r a).2)) (λr a f hf=>hf.elim f (λe=>by have:=(d r e).1;omega))
theorem ZY(h:bY F w hb m g c k rs)(p:n<8)(hl:(bJ rs n).l=some x)(s:x.lg.length<=4000000000):aG prog 46 #[.pointer (some ⟨hb,2+n *15,none⟩)] w (Kz F hb m g c k rs n x w):=by
 have c0:=h.VU p hl;have c3:=h.rc3 p;obtain⟨G,y,i,_⟩:=h.Kw p hl;have t:=aP (Eu (i.below (Below.refl _ _).drew) s (bJ rs n).sn);have u:aH (wG rs n x=BR x (bJ rs n).sn):=rfl;have j:=aP h;have z:=aP p;unfold Kz;rw[u.o];generalize (bJ rs n).sn=sn at *;generalize (bJ rs n).g=gl at *;have b:aD w w w.drew:=(Below.refl _ _).drew;clear h i hl s u;generalize BR x sn=E at *;go_enter func46,ntmps46
 go_upto_region 1 with(fail)
 go_region_held3 (λW=>W.cell? (hb,2+n *15)=some (.pointer gl)/\W.cell? (hb,2+n *15+3)=some (.int .i64 sn)) (first|exact⟨c0,c3⟩|exact⟨‹_›,‹_›⟩) ((go_at_call 80;(refine aR t ?_);rintro v r ⟨B,d,rfl,own,a⟩;(have A:=bK (b.trans a) c0);(have K:=bK (b.trans a) c3);(have f:=bP (show bI qX 4 r w.heap.size 165 B d E from own) (b.trans a));clear own a))
 have f3:r.frozen? (hb,2+n *15+3)=false:=(j.o.below f.o.2).1.fz _;have C:=aP ((j.o.Uf f.o.2 (λq hq=>f.o.1.lt q hq)).Ls z.o (wrap64 (sn+E.length)));have D:=aP ((j.o.below f.o.2).1.Ls z.o (wrap64 (sn+E.length)));have H:=aP (j.o.below f.o.2).2;have I:=j.o.bk.lt;clear A c0 c3 t;go_wp2_with fail
 go_ret
 refine⟨B,d,rfl,f.o.1.kept (aZ (bL r hb) _ _) ?_,C.o.1,H.o.trans D.o.2⟩;cases J:aY B with
 |none=>exact .inl rfl
 |some q=>exact .inr (λe=>by injection e with e;have:=(f.o.1.lt q J).1;omega)
end
end
variable{k':Kv}{e op N E:Int}{n0:Nat}
section
theorem lH.num{A B C D:Int}(r:lH k e op A B C D N E k')(b:k.f.n=6):0<=N/\N<18446744073709551616:=by
 cases r
 case alloc h=>
  unfold lJ;split
  .simp
  .split
   .simp
   .cases hf:jH k.f with
    |none=>simp
    |some i=>
     have:=(sH hf).1;simp only;split
     .simp
     .simp only;omega
 case read h=>
  unfold C8;cases jK k.c e A 1 1 with
  |none=>simp
  |some h=>
   simp only;split
   .omega
   .rw[IntKind.wrap_u64];omega
 case next h a=>exact a
 all_goals exact⟨aQ,aQ⟩
section
variable{F:Nat->Prop}{w w0 w':aA}{hb m g:Nat}{c:Int}{k:Kv}{rs:List Rm}
def Ww(F:Nat->Prop)(hb m g:Nat)(c:Int)(k:Kv)(rs:List Rm)(l e x:Int)(w:aA)(r:aM)(w':aA):Prop:=∃N E k',iM l e 0 x k N E k'/\(0<=N/\N<18446744073709551616)/\yY F hb m g c k' rs (.tuple #[.int .u64 N, .int .i64 E]) w r w'
theorem Er(h:bY F w hb m g c k rs)(v:KI k n0)(hn:n0<999999)(e x l:Int)(K:0<=x/\x<18446744073709551616):aG prog 82 #[.pointer hb,e, .int .u64 x,l] w (Ww F hb m g c k rs l e x w):=by
 have L:=aP h;by_cases h1:l<=0
 .have y:aH (iM l e 0 x k 0 22 k):=by
   unfold aH iM;rw[abP (by simpa using h1)];exact⟨rfl,rfl,rfl⟩
  clear h v K;go_enter func82,ntmps82
  go_wp2_with fail
  go_ret2
  exact⟨0,22,k,y.o,aQ,rfl,L.o,Kp.refl _ _⟩
 .have Q:0<l:=aQ;have i:=NO x K w;cases z:LJ x with
  |false=>
   rw[z] at i;simp only[acH,acG] at i;have i:=aP i;have y:aH (iM l e 0 x k 0 21 k):=by
    unfold aH iM;rw[abQ (by simpa using h1),z];exact⟨rfl,rfl,rfl⟩
   clear h v K z h1;go_enter func82,ntmps82
   go_wp2_with fail
   refine aR i ?_;rintro r B ⟨rfl,f⟩;have Y:=aP (L.o.below (f.alloc f.size (aI #[aU,aU,aU,aU,aU] 281)));clear f;go_wp2_with fail
   go_ret2
   exact⟨0,21,k,y.o,aQ,rfl,Y.o⟩
  |true=>
   rw[z] at i;simp only[ac3] at i;have i:=aP i;have y:aH (∀N E d,(lH k e (EJ x) (aW x) (bW x) (cW x) (dW x) N E d\/(N=0/\E=1/\d=k))->iM l e 0 x k N E d/\(0<=N/\N<18446744073709551616)):=λN E d h=>by
    refine⟨?_,?_⟩
    .unfold iM;rw[abQ (by simpa using h1),z];exact h
    .rcases h with h|⟨rfl,_⟩
     .exact h.num v.f6
     .omega
   have C:aH (∀(G:Nat->Prop) (W:aA) (a:Ka),bT G W g a k->aG prog 119 #[.pointer g,e, .agg #[.int .i64 (EJ x), .int .i64 (aW x), .int .i64 (bW x), .int .i64 (cW x), .int .i64 (dW x)]] W (p9 G g k e (EJ x) (aW x) (bW x) (cW x) (dW x) W)):=λG W a hk=>by
    refine TW hk (v.kw aQ) ?_ e _ _ _ _ _;have:=v.an;omega
   clear z h1 v K h;generalize EJ x=n at *;generalize aW x=p at *;generalize bW x=q at *;generalize cW x=s at *;generalize dW x=t at *;go_enter func82,ntmps82
   go_wp2_with fail
   refine aR i ?_;rintro r B ⟨rfl,f⟩;go_upto_region 6 with(fail)
   have bb:=bE.new B 281 #[n,p,q,s,t];have D:=L.o.below f;have H:=aP (And.intro ((bY.cH hb m g c k rs).box D.1 D.1.fl (aI #[n,p,q,s,t] 281)) (D.2.trans (D.1.below (aX B (aI #[n,p,q,s,t] 281))).2));generalize B.alloc (aI #[n,p,q,s,t] 281)=A at *;generalize B.heap.size=u at *;have c0:=H.o.1.c0;unfold pA at c0;have R:=bb.cell 0 n rfl;have S:=bb.cell 1 p rfl;have T:=bb.cell 2 q rfl;have U:=bb.cell 3 s rfl;have V:=bb.cell 4 t rfl;obtain⟨G0,a0,_,d0,_⟩:=H.o.1.kn;have Z:A.drew.cell? (m,0)=some (.pointer g):=d0;have I:aH (aG prog 119 #[.pointer g,e, .agg #[n,p,q,s,t]] A.drew λr w'=>∃(N E:Int) (d:Kv),r= .returned (.tuple #[.int .u64 N, .int .i64 E])/\aH (iM l e 0 x k N E d/\(0<=N/\N<18446744073709551616))/\aH (bY (Fb F u) w' hb m g c d rs/\Kp (Fb F u) A w')):=by
    have hd:=H.o.1.below (Below.refl A A).drew;obtain⟨G,a,hk,_,back⟩:=hd.1.kn;refine(C.o G _ a hk).mono ?_;rintro r w' ⟨N,E,d,M,rfl,Q,O⟩;obtain⟨b1,b2⟩:=back d w' Q O;exact⟨N,E,d,rfl,y.o N E d M,b1,hd.2.trans b2⟩
   clear C f bb D y i L;go_region_held3 (λW=>W.cell? (hb,0)=some (.pointer m)/\W.cell? (m,0)=some (.pointer g)/\W.cell? (u,0)=some (.int .i64 n)/\W.cell? (u,1)=some (.int .i64 p)/\W.cell? (u,2)=some (.int .i64 q)/\W.cell? (u,3)=some (.int .i64 s)/\W.cell? (u,4)=some (.int .i64 t)) (first|with_reducible exact⟨‹_›,‹_›,‹_›,‹_›,‹_›,‹_›,‹_›⟩|exact⟨c0,d0,R,S,T,U,V⟩|fail) ((first|(go_at_call 11;(refine aS (lR (by first|exact d0|assumption)) ?_);rintro x A ⟨rfl,rfl⟩)|(go_at_call 119;(refine aR I ?_);rintro r X ⟨N,E,d,rfl,J,j⟩;(have P:=j.o.1.c0);unfold pA at P;obtain⟨G4,a4,_,a1,_⟩:=j.o.1.kn;(have a6:=j.o.2.cell R (.inr rfl));(have a7:=j.o.2.cell S (.inr rfl));(have DT:=j.o.2.cell T (.inr rfl));(have a8:=j.o.2.cell U (.inr rfl));(have aa:=j.o.2.cell V (.inr rfl)))))
   have H9:aH (bY F X hb m g c d rs/\Kp F w X):=⟨j.o.1.less λb hb=> .inl hb,H.o.2.trans j.o.2.unbox⟩
   clear j H I;go_wp2_with fail
   go_ret2
   exact⟨N,E,d,J.o.1,J.o.2,rfl,H9.o⟩
end
end
variable{g sz q:Nat}{cs ds:Array aC}
section
theorem QT(o:Nat)(b:List aC):(w.setCells g o b).grownBy w (some g):=by
 have h:=fF g b o w w (bL w g);exact⟨h.os.symm,h.tape.symm,h.output.symm,by rw[size_setCells];exact abM _,λk hk a=>(h.block k (by rw[size_setCells] at hk;exact hk) a).symm⟩
theorem Uy{α:Type}{enc:α->List aC}{base c:Nat}{e:aN}{xs:List α}(h:bI enc sz w base e A c xs)(hq:aY A=some q):∃cur,w.heap[q]?=some (.cells cur e):=by
 obtain⟨_,h|⟨g,cap,cur,h1,_,a,_⟩⟩:=h
 .obtain⟨h,_⟩:=h;injection h with h;rw[h] at hq;cases hq
 .injection h1 with h1;rw[h1] at hq;injection hq with hq;subst hq;exact⟨cur,a⟩
theorem zM{a:Nat}{s t:aN}(h1:bE w a s cs)(d:bE w b t ds)(h:s≠t):a≠b:=λe=>by
 subst e;have:=h1.symm.trans d;injection this with this;injection this with _ this;exact h this
theorem CN{α:Type}{enc:α->List aC}{base c a:Nat}{e s:aN}{xs:List α}(h:bI enc sz w base e A c xs)(h1:bE w a s cs)(hs:s≠e):aY A≠some a:=λhq=>by
 obtain⟨cur,b⟩:=Uy h hq;have:=h1.symm.trans b;injection this with this;injection this with _ this;exact hs this
def FQ(rs:List Rm)(i:Nat)(R:List Int)(p:Int):List Rm:=rs.set i {bJ rs i with R:=R,pc:=p}
def Ly(hb m:Nat)(c:Int)(rs:List Rm)(i:Nat):Pa.Cp.Gc:=⟨hb,2+i *15+5,iD m c rs⟩
theorem Lc(hb m:Nat)(c:Int)(h:∀r∈rs,pX r)(hi:i<rs.length)(R:List Int)(p:Int):Pa.Cp.pC (Ly hb m c rs i) R p=iD m c (FQ rs i R p):=by
 have b:FQ rs i R p=rs.take i++{bJ rs i with R:=R,pc:=p}::rs.drop (i+1):=List.set_eq_take_append_cons_drop.trans (abP hi);have hl:(rs.take i).length=i:=bX;have ok:=h _ (abV hi);rw[lS hi] at ok;have d:(iD m c rs).toList=(([pA m,Value.int .i64 c]++(rs.take i).flatMap gE)++ [xH (bJ rs i).l (bJ rs i).g,(bJ rs i).sv, .int .i64 (bJ rs i).od, .int .i64 (bJ rs i).sn, .slice (bJ rs i).cA (bJ rs i).C.length (bJ rs i).cc])++(((bJ rs i).R.map (Value.int .u64)++ [Value.int .i64 (bJ rs i).pc])++(.bool (bJ rs i).ru::(rs.drop (i+1)).flatMap gE)):=by
  have e:rs=rs.take i++bJ rs i::rs.drop (i+1):=by rw[<-lS hi,List.getElem_cons_drop,List.take_append_drop]
  have f:rs.flatMap gE=(rs.take i).flatMap gE++(gE (bJ rs i)++(rs.drop (i+1)).flatMap gE):=by rw[<-acI,<-aeW,<-e]
  unfold iD NR;rw[f];simp[gE]
 have n:(([pA m,Value.int .i64 c]++(rs.take i).flatMap gE)++ [xH (bJ rs i).l (bJ rs i).g,(bJ rs i).sv, .int .i64 (bJ rs i).od, .int .i64 (bJ rs i).sn, .slice (bJ rs i).cA (bJ rs i).C.length (bJ rs i).cc]).length=2+i *15+5:=by
  rw[ab2,ab2,F0 (λr j=>h r (ae7 j)),hl];simp
 have a:=ok.rg.1;unfold Pa.Cp.pC Pa.Cp.pL Ly;simp only;rw[d,List.take_append_of_le_length aQ,ab8 aQ,show 2+i *15+5+9=(([pA m,Value.int .i64 c]++(rs.take i).flatMap gE)++ [xH (bJ rs i).l (bJ rs i).g,(bJ rs i).sv, .int .i64 (bJ rs i).od, .int .i64 (bJ rs i).sn, .slice (bJ rs i).cA (bJ rs i).C.length (bJ rs i).cc]).length+9 by omega,List.drop_length_add_append,ae9 (by simp[a]),afR (by simp[a]),aeA];unfold iD NR;rw[b,aeW,acI];congr 1
 simp[gE]
section
variable{F:Nat->Prop}{w w0 w':aA}{hb m g:Nat}{c:Int}{k:Kv}{rs:List Rm}
theorem bY.Yq(h:bY F w hb m g c k rs)(hi:i<8)(a:Rm)(ok:pX a)(h1:uT a=uT (bJ rs i))(j:tW a=tW (bJ rs i))(l:bE w' hb 139 (iD m c (rs.set i a)))(p:w.grownBy w' (some hb)):bY F w' hb m g c k (rs.set i a)/\Kp F w w':=by
 have b:i<rs.length:=by rw[h.l8];exact hi
 obtain⟨G,q,back⟩:=h.o.use 0 _ rfl;obtain⟨s1,s2⟩:=mR.eY q l p;obtain⟨b1,b2⟩:=back (PB hb 139 (iD m c (rs.set i a))) _ s1 s2;have e:=Q6 hb m g c k b a;have s:((xK hb m g c k rs).set (2+i) (uT a)).set (2+rs.length+i) (tW a)=xK hb m g c k rs:=by
  rw[h1,j,<-lS b];have g1:=LK hb m g c k b;have g2:=KK hb m g c k b;refine aeU λn=>?_
  rw[acW,acW];split
  .rename_i d;subst d;rw[ab1,abP (ab3.1 g2).1,g2]
  .split
   .rename_i d;subst d;rw[abP (ab3.1 g1).1,g1]
   .rfl
 rw[s] at e;refine⟨⟨by rw[e] at b1;exact b1,by simp[h.l8],λr f=>?_⟩,b2⟩;rcases acT f with f|rfl
 .exact h.ok r f
 .exact ok
end
end
variable{F:Nat->Prop}
section
def sI:List Rm:=List.replicate 8 Q9
theorem Rp:pX Q9:=⟨P7,by simp[Q9],λv a=>by simp[Q9] at a⟩
theorem Ob.Im:∀(a l:List Pt),Ob l F w->(∀p∈a,∀G,Ol G w->p.X G w)->Ob (l++a) F w
 | [],l,h,_=>by rw[aeF];exact h
 |p::a,l,h,hp=>by
  have h1:=h.add (p:=p) (hp p aT _ (λb hb=>hb)) (Below.refl _ _);have c:=Ob.Im a (l++ [p]) h1 (λq hq=>hp q (by simp[hq]));rw[acR] at c;exact c
theorem Dx(w:aA)(c:Int)(hc:1<=c/\c<=64):aG prog 34 #[.agg #[.int .i64 6, .int .i64 2, .int .i64 4],c] w λe w'=>∃hb m g p0,e= .returned (.tuple #[.pointer (some ⟨hb,0,none⟩),aU])/\bY (λb=>b<w.heap.size) w' hb m g c (oP p0) sI/\aD w w w':=by
 have l:=aX w (aI #[.int .i64 6, .int .i64 2, .int .i64 4] 60);have y:=bE.new w 60 #[.int .i64 6, .int .i64 2, .int .i64 4];have j:=aP l;have z0:=y.cell 0 (.int .i64 6) rfl;have L:=y.cell 1 (.int .i64 2) rfl;have z2:=y.cell 2 (.int .i64 4) rfl;have D:=aP hc;clear l y hc;go_enter func34,ntmps34
 go_upto_region 1 with(fail)
 generalize w.alloc (aI #[.int .i64 6, .int .i64 2, .int .i64 4] 60)=z at *;generalize hq:w.heap.size=q at *;have A:=aP (VP z c D.o);go_wp2_with fail
 refine aR A ?_;rintro e a ⟨m,g,p0,rfl,n,d⟩;have s:aH (Ob [N2 m g c (oP p0)] (λb=>b<q) a):=by
  have E:q<=z.heap.size:=by have:=j.o.size;omega
  have:=(Ob.none (F:=λb=>b<q) (w:=z) (λb hb=>by show b<_;omega) (λb hb=>by omega)).add (p:=N2 m g c (oP p0)) ((gH.cH m g c (oP p0)) _ (λ_=>True) _ a a n (Kp.refl _ _) (λ_ _ _=>trivial) (λb hb=>abO hb d.size) (λr _ H hf=>H hf)) d;exact this
 have k:aH (aD q w a):=by
  have h1:=j.o;exact h1.trans (d.mono (by have:=h1.size;omega))
 have f:=aX a (aI (iD m c sI) 139);have t:aH (bY (λb=>b<q) (a.alloc (aI (iD m c sI) 139)) a m g c (oP p0) sI):=by
  have h:=s.o.add (p:=PB a.heap.size 139 (iD m c sI)) (PB.mk (bE.new a _ _) (λb hb=>abO hb f.size) (adH _)) f;have I:Ob [PB a.heap.size 139 (iD m c sI),N2 m g c (oP p0)] (λb=>b<q) (a.alloc (aI (iD m c sI) 139)):=by
   refine h.reorder (λi=>1 - i) (λi=>1 - i) ?_;intro i p hp;match i,hp with
   |0,hp=>exact⟨hp,rfl⟩
   |1,hp=>exact⟨hp,rfl⟩
   |i+2,hp=>simp at hp
  refine⟨Ob.Im (sI.map uT++sI.map tW) _ I (λp hp G B=>?_),rfl,λr u=>by rw[ac5 u];exact Rp⟩;rcases ab6.1 hp with hp|hp
  .obtain⟨r,u,rfl⟩:=ad3.1 hp;rw[ac5 u];exact⟨B,λx J=>by cases J⟩
  .obtain⟨r,u,rfl⟩:=ad3.1 hp;rw[ac5 u];exact⟨B,λK=>absurd K (by simp[Q9]),λq hq=>by cases hq⟩
 have v:aH (aD q w (a.alloc (aI (iD m c sI) 139))):=k.o.trans (f.mono (by have:=k.o.size;omega));have C:iD m c sI=(zeroCells139.setIfInBounds 0 (.pointer (some ⟨m,0,none⟩))).setIfInBounds 1 (.int .i64 c):=aV;rw[C] at t v;clear n d f C s A j k;go_wp2_with fail
 go_ret2
 rw[hq];exact⟨_,m,g,p0,rfl,t.o,v.o⟩
end
variable{l:List Pt}{hb m c9 q1 n' nl:Nat}{A9 AR AW AX:Option aJ}{r:Option Nat}{ws:List (Int×Int×Int)}{wr w6 wE:aA}{T T':Int}{s:Sd}{rn:Rn}{fn:Func}
section
def N9(hb m g:Nat)(c:Int)(k:Kv)(rs:List Rm):Pt:=⟨λF w=>bY F w hb m g c k rs,bY.cH hb m g c k rs⟩
def NP(x:Int×Ev):List aC:= .int .i64 x.1::qX x.2
theorem Aj:eW NP 5:=⟨λ_=>rfl,λx u hu=>by simp[NP,qX] at hu;rcases hu with rfl|rfl|rfl|rfl|rfl <;> rfl⟩
theorem Zi:jL prog 74 167 5 40:=fP (z:= .agg #[aU,aU,aU,aU,aU]) underlying74 aV (by simp[Value.cells]) aQ
structure vJ where
 A:Option aJ
 n:Nat
 c:Nat
def G9:vJ:=⟨none,0,0⟩
structure Ou where
 rn:Rn
 S:vJ
 R:vJ
 W:vJ
 A:vJ
 tk:Int
 nu:Int
 T:vJ
 st:Int
 x:Int
 y:Int
 z:Int
def Ou.sA(oz:Ou)(s:vJ):Ou:={oz with A:=s}
def Ou.sT(oz:Ou)(s:vJ):Ou:={oz with T:=s}
def Ou.sJ(oz:Ou)(tk nu:Int):Ou:={oz with tk:=tk,nu:=nu}
def Ou.sS(oz:Ou)(rn:Rn)(S R W:vJ):Ou:={oz with rn:=rn,S:=S,R:=R,W:=W}
def Ou.sB(oz:Ou)(st x y z:Int):Ou:={oz with st:=st,x:=x,y:=y,z:=z}
def jX(oz:Ou):List aC:= [.int .i64 oz.rn.env, .bool oz.rn.ch, .slice oz.S.A oz.S.n oz.S.c, .slice oz.R.A oz.R.n oz.R.c, .slice oz.W.A oz.W.n oz.W.c, .slice oz.A.A oz.A.n oz.A.c, .int .i64 oz.tk, .int .i64 oz.nu, .slice oz.T.A oz.T.n oz.T.c, .int .i64 oz.st, .int .i64 oz.x, .int .i64 oz.y, .int .u64 oz.z]
def sQ(t:Int):Ou:=⟨⟨0,false⟩,G9,G9,G9,G9,t,0,G9,0,0,0,0⟩
def Xf(hb m g:Nat)(c:Int)(k:Kv)(rs:List Rm)(q:Nat)(oz:Ou)(D:List Int)(E:List (Int×Ev)):List Pt:= [N9 hb m g c k rs,PB q 79 (jX oz).toArray,PR eI 1 45 oz.A.A oz.A.c D,PR NP 5 167 oz.T.A oz.T.c E]
structure eG(F:Nat->Prop)(w:aA)(hb m g:Nat)(c:Int)(k:Kv)(rs:List Rm)(q:Nat)(oz:Ou)(D:List Int)(E:List (Int×Ev)):Prop where
 ob:Ob (Xf hb m g c k rs q oz D E) F w
 a:oz.A.n=D.length
 t:oz.T.n=E.length
theorem Ob.U8(h:Ob l F w)(i:Nat)(p:Pt)(hp:l[i]?=some p):∃G,(∀b,F b->G b)/\p.X G w/\(∀(o:Pt) (w':aA) (X:Nat->Prop),(∀b,X b->w.heap.size<=b)->o.X (λb=>G b\/X b) w'->Ol (λb=>G b\/X b) w'->Kp G w w'->Ob (l.set i o) (λb=>F b\/X b) w'/\Kp F w w'):=by
 obtain⟨y,h⟩:=h;refine⟨_,λb hb=>⟨(h.1 b hb).1,by rw[(h.1 b hb).2];omega⟩,h.get i hp,λo w' X z A s k=>⟨⟨λb=> @ite Nat (X b) (Classical.propDecidable _) 0 (nx w y (i+1) b),λb hb=>?_,λm q hm=>?_⟩,h.1.kp k aQ⟩⟩
 .rcases hb with hb|hb
  .have h1:=h.1 b hb;refine⟨abO h1.1 k.size,?_⟩;simp only;split
   .rfl
   .rw[yX h1.1,h1.2]
  .exact⟨s b (.inr hb),by simp only;rw[abP hb]⟩
 .rw[acW] at hm;split at hm
  .rename_i e;subst e;split at hm
   .injection hm with hm;subst hm;refine o.cH _ (λ_=>True) _ w' w' A (Kp.refl _ _) (λ_ _ _=>trivial) (Fo.ol _ _ _) (λr d f hf=>?_);have a:=hf.2;simp only at a;have t:¬X r:=λhc=>f (.inr hc)
    rw[abQ t] at a;rcases aeE r w with j|u
    .rw[yX j] at a;exact f (.inl ⟨j,a⟩)
    .exact a (K8 u)
   .cases hm
  .rename_i v;refine q.cH _ _ _ w w' (h.2 m q hm) k (λr d f=>⟨d,λe=>f ⟨d,λB=>v aQ⟩⟩) (Fo.ol _ _ _) (λr d f hf=>?_);have h1:y r=m+1:=acD λhc=>f ⟨d,hc⟩
   have a:=hf.2;simp only at a;rw[abQ (λhc=>by have:=z r hc;omega),yX d] at a;exact a h1
theorem bY.stN{c:Int}(h:bY F w hb m g c k rs):∃G,(∀b,F b->G b)/\gH G w m g c k/\∀(k':Kv) (B:Option aJ) (w':aA),(∀b,aY B=some b->w.heap.size<=b)->gH (cI G B) w' m g c k'->Kp G w w'->bY (cI F B) w' hb m g c k' rs/\Kp F w w':=by
 obtain⟨G,hs,d,back⟩:=h.o.U8 1 _ rfl;refine⟨G,hs,d,λk' B w' e a f=>?_⟩;obtain⟨b1,b2⟩:=back (N2 m g c k') w' (λb=>aY B=some b) e a a.ol f;exact⟨⟨b1,h.l8,h.ok⟩,b2⟩
theorem Ob.Kn(h:Ob l F w)(a:∀b,G b->F b):Ob l G w:=Ob.cH _ F (λ_=>True) G w w h (Kp.refl _ _) (λ_ _ _=>trivial) (λb hb=>h.fl b (a b hb)) (λr _ d hf=>d (a r hf))
section
variable{F:Nat->Prop}{w w' w9:aA}{hb m g q:Nat}{c:Int}{k:Kv}{rs:List Rm}{oz:Ou}{D:List Int}{E:List (Int×Ev)}
theorem eG.less(h:eG F w hb m g c k rs q oz D E)(d:∀b,G b->F b):eG G w hb m g c k rs q oz D E:=⟨h.ob.Kn d,h.a,h.t⟩
theorem eG.below(h:eG F w hb m g c k rs q oz D E)(b:aD w w w'):eG F w' hb m g c k rs q oz D E/\Kp F w w':=⟨⟨h.ob.below b,h.a,h.t⟩,h.ob.NV b⟩
theorem eG.box(h:eG F w hb m g c k rs q oz D E)(x:Obj):eG (Fb F w) (w.alloc x) hb m g c k rs q oz D E:=⟨(Ob.cH _).box h.ob h.ob.fl x,h.a,h.t⟩
theorem eG.bk(h:eG F w hb m g c k rs q oz D E):bE w q 79 (jX oz).toArray:=by
 obtain⟨a,h1⟩:=h.ob;exact(h1.get 1 (p:=PB q 79 (jX oz).toArray) rfl).b
theorem eG.ho(h:eG F w hb m g c k rs q oz D E):∃G,bY G w hb m g c k rs/\∀(k':Kv) (b:List Rm) (w':aA),bY G w' hb m g c k' b->Kp G w w'->eG F w' hb m g c k' b q oz D E/\Kp F w w':=by
 obtain⟨G,d,back⟩:=h.ob.use 0 _ rfl;refine⟨G,d,λk' b w' e f=>?_⟩;obtain⟨b1,b2⟩:=back (N9 hb m g c k' b) w' e f;exact⟨⟨b1,h.a,h.t⟩,b2⟩
theorem eG.Xq(h:eG F w hb m g c k rs q oz D E):∃G,(∀b,F b->G b)/\bY G w hb m g c k rs/\∀(k':Kv) (d:List Rm) (B:Option aJ) (w':aA),(∀b,aY B=some b->w.heap.size<=b)->bY (cI G B) w' hb m g c k' d->Kp G w w'->eG (cI F B) w' hb m g c k' d q oz D E/\Kp F w w':=by
 obtain⟨G,hs,f,back⟩:=h.ob.U8 0 _ rfl;refine⟨G,hs,f,λk' d B w' i e j=>?_⟩;obtain⟨b1,b2⟩:=back (N9 hb m g c k' d) w' (λb=>aY B=some b) i e e.fl j;exact⟨⟨b1,h.a,h.t⟩,b2⟩
theorem eG.st(h:eG F w hb m g c k rs q oz D E):∃G,(∀b,F b->G b)/\gH G w m g c k/\∀(k':Kv) (B:Option aJ) (w':aA),(∀b,aY B=some b->w.heap.size<=b)->gH (cI G B) w' m g c k'->Kp G w w'->eG (cI F B) w' hb m g c k' rs q oz D E/\Kp F w w':=by
 obtain⟨o,s1,h1,b1⟩:=h.Xq;obtain⟨d,s2,e,b2⟩:=h1.stN;refine⟨d,λb hb=>s2 b (s1 b hb),e,λk' B w' a f i=>?_⟩;obtain⟨j,l⟩:=b2 k' B w' a f i;exact b1 k' rs B w' a j l
theorem Ob.single{p:Pt}(h:p.X F w)(fl:Ol F w):Ob [p] F w:=by
 refine⟨λb=> @ite Nat (F b) (Classical.propDecidable _) 0 1,λb hb=>⟨fl b hb,abP hb⟩,λi d hp=>?_⟩;cases i with
 |succ i=>simp at hp
 |zero=>
  simp at hp;subst hp;refine p.cH F (λ_=>True) _ w w h (Kp.refl _ _) (λ_ _ _=>trivial) (Fo.ol _ _ _) (λr e a hf=>?_);have:=hf.2;simp only at this;rw[abQ a] at this;exact this rfl
theorem eG.start(h:bY F w hb m g c k rs)(t:Int):eG F (w.alloc (aI (jX (sQ t)).toArray 79)) hb m g c k rs w (sQ t) [] []/\Kp F w (w.alloc (aI (jX (sQ t)).toArray 79)):=by
 have a:=aX w (aI (jX (sQ t)).toArray 79);have h1:=(Ob.single (p:=N9 hb m g c k rs) h h.fl).add (p:=PB w.heap.size 79 (jX (sQ t)).toArray) (PB.mk (bE.new w _ _) (λb hb=>abO hb a.size) (adH _)) a;have e:=Ob.Im [PR eI 1 45 none 0 [],PR NP 5 167 none 0 []] _ h1 (λp hp G d=>by
  simp only[adV,List.not_mem_nil,or_false] at hp;rcases hp with rfl|rfl
  .exact gP.nil d
  .exact gP.nil d)
 exact⟨⟨e,rfl,rfl⟩,(h.below a).2⟩
theorem eG.put(h:eG F w hb m g c k rs q oz D E)(b:Ou)(d:b.A=oz.A)(e:b.T=oz.T)(f:bE w' q 79 (jX b).toArray)(i:w.grownBy w' (some q)):eG F w' hb m g c k rs q b D E/\Kp F w w':=by
 obtain⟨G,j,back⟩:=h.ob.use 1 _ rfl;obtain⟨s1,s2⟩:=mR.eY j f i;obtain⟨b1,b2⟩:=back (PB q 79 (jX b).toArray) w' s1 s2;refine⟨⟨?_,by rw[d];exact h.a,by rw[e];exact h.t⟩,b2⟩;unfold Xf at b1⊢;rw[d,e];exact b1
theorem eG.DS(h:eG F w hb m g c k rs q oz D E):bI eI 1 w 0 45 oz.A.A oz.A.c D:=by
 obtain⟨a,h1⟩:=h.ob;exact(h1.get 2 (p:=PR eI 1 45 oz.A.A oz.A.c D) rfl).o
theorem eG.yS(h:eG F w hb m g c k rs q oz D E):bI NP 5 w 0 167 oz.T.A oz.T.c E:=by
 obtain⟨a,h1⟩:=h.ob;exact(h1.get 3 (p:=PR NP 5 167 oz.T.A oz.T.c E) rfl).o
theorem eG.Gh(h:eG F w hb m g c k rs q oz D E){v:Int}(d:bI eI 1 w9 0 45 A9 c9 (D++ [v]))(i:w.grownBy w9 (aY oz.A.A))(ha:aY A9=aY oz.A.A\/aY A9=some w.heap.size)(j:n=(D++ [v]).length):(∃v,w9.cell? (q,5)=some v)/\w9.frozen? (q,5)=false/\eG F (w9.setCell (q,5) (.slice A9 n c9)) hb m g c k rs q (oz.sA ⟨A9,n,c9⟩) (D++ [v]) E/\Kp F w (w9.setCell (q,5) (.slice A9 n c9)):=by
 obtain⟨G,l,back⟩:=h.ob.use 2 _ rfl;obtain⟨s1,s2⟩:=gP.eY l d i ha;obtain⟨b1,b2⟩:=back (PR eI 1 45 A9 c9 (D++ [v])) w9 s1 s2;have f:bE w9 q 79 (jX oz).toArray:=by
  obtain⟨s,h1⟩:=b1;exact(h1.get 1 (p:=PB q 79 (jX oz).toArray) rfl).b
 obtain⟨u,e,a⟩:=b1.use 1 (PB q 79 (jX oz).toArray) rfl;obtain⟨t1,t2⟩:=mR.set (cs':=(jX (oz.sA ⟨A9,n,c9⟩)).toArray) e 5 (.slice A9 n c9) (by rw[abN];rfl);obtain⟨o,r⟩:=a (PB q 79 (jX (oz.sA ⟨A9,n,c9⟩)).toArray) _ t1 t2;exact⟨⟨_,f.cell 5 _ rfl⟩,f.frozen 5,⟨o,j,h.t⟩,b2.trans r⟩
theorem eG.Eg(h:eG F w hb m g c k rs q oz D E){v:Int×Ev}(e:bI NP 5 w9 0 167 A9 c9 (E++ [v]))(j:w.grownBy w9 (aY oz.T.A))(ha:aY A9=aY oz.T.A\/aY A9=some w.heap.size)(l:n=(E++ [v]).length):(∃v,w9.cell? (q,8)=some v)/\w9.frozen? (q,8)=false/\eG F (w9.setCell (q,8) (.slice A9 n c9)) hb m g c k rs q (oz.sT ⟨A9,n,c9⟩) D (E++ [v])/\Kp F w (w9.setCell (q,8) (.slice A9 n c9)):=by
 obtain⟨G,o,back⟩:=h.ob.use 3 _ rfl;obtain⟨s1,s2⟩:=gP.eY o e j ha;obtain⟨b1,b2⟩:=back (PR NP 5 167 A9 c9 (E++ [v])) w9 s1 s2;have i:bE w9 q 79 (jX oz).toArray:=by
  obtain⟨t,h1⟩:=b1;exact(h1.get 1 (p:=PB q 79 (jX oz).toArray) rfl).b
 obtain⟨u,f,d⟩:=b1.use 1 (PB q 79 (jX oz).toArray) rfl;obtain⟨t1,t2⟩:=mR.set (cs':=(jX (oz.sT ⟨A9,n,c9⟩)).toArray) f 8 (.slice A9 n c9) (by rw[abN];rfl);obtain⟨r,s⟩:=d (PB q 79 (jX (oz.sT ⟨A9,n,c9⟩)).toArray) _ t1 t2;exact⟨⟨_,i.cell 8 _ rfl⟩,i.frozen 8,⟨r,h.a,l⟩,b2.trans s⟩
theorem eG.o(h:eG F w hb m g c k rs q oz D E):bY (cI F oz.A.A) w hb m g c k rs:=by
 obtain⟨d,h1⟩:=h.ob;have j:bY (Fo w d 1) w hb m g c k rs:=h1.get 0 (p:=N9 hb m g c k rs) rfl;have f:gP eI 1 45 oz.A.A oz.A.c D (Fo w d 3) w:=h1.get 2 (p:=PR eI 1 45 oz.A.A oz.A.c D) rfl;refine j.less λb hb=>?_
 rcases hb with hb|hb
 .have a:=h1.1 b hb;exact⟨a.1,by rw[a.2];omega⟩
 .have a:=f.nf b hb;have i:=(f.o.lt b hb).2;refine⟨i,λe=>a ⟨i,by rw[e];omega⟩⟩
end
section
variable{F F3 H:Nat->Prop}{w w' w9 w6 wr wE:aA}{hb m g q:Nat}{c:Int}{k:Kv}{rs:List Rm}{oz:Ou}{D:List Int}{E:List (Int×Ev)}{S:Option aJ}
theorem eG.grow(h:eG F w hb m g c k rs q oz D E)(hw:aD w w w'):eG (Nw F w w') w' hb m g c k rs q oz D E:=⟨dV.grow (Ob.cH _) h.ob h.ob.fl hw,h.a,h.t⟩
theorem eG.gr(h:eG F w hb m g c k rs q oz D E)(d:w.grownBy w' r)(e:∀q,r=some q->F q)(fl:Ol H w')(hH:∀b,b<w.heap.size->H b->F b):eG H w' hb m g c k rs q oz D E:=⟨dV.gr (Ob.cH _) h.ob d e fl hH,h.a,h.t⟩
theorem CM.up{rs:List Int}{xs:List Wd}(h:CM F w AR rs AW ws AX xs)(a:∀b,F b->G b):CM G w AR rs AW ws AX xs:=
 ⟨h.r,λq hq=>a q (h.rF q hq),h.wt,λq hq=>a q (h.wF q hq),h.x,λq hq=>a q (h.xF q hq),λz d=>⟨(h.y z d).1,λq hq=>a q ((h.y z d).2.1 q hq),(h.y z d).2.2⟩⟩
theorem Sg(h:eG (cI (Nw F3 wr wr.drew) S) w6 hb m g c k rs q oz D E)(a:Kp (Nw F3 wr wr.drew) wr.drew w6)(x:Obj):eG (Fb (cI F3 S) w6.heap.size) (w6.alloc x) hb m g c k rs q oz D E/\Kp F3 wr (w6.alloc x):=by
 have h1:eG (cI F3 S) w6 hb m g c k rs q oz D E:=h.less λb hb=>hb.elim (λh=> .inl (.inl h)) .inr
 exact⟨h1.box x,((Kp.refl F3 wr).drew.trans (a.mono λb hb=> .inl hb)).trans ((h1.below (aX w6 x)).2.mono λb hb=> .inl hb)⟩
theorem Tf{x:Obj}(fl:Ol F3 wr)(h:eG (cI (Nw F3 wr (wr.alloc x).drew) S) w6 hb m g c k rs q oz D E)(f:Kp (Nw F3 wr (wr.alloc x).drew) (wr.alloc x).drew w6)(a:w6.grownBy wE (some wr.heap.size)):eG (Fb (cI F3 S) wr.heap.size) wE hb m g c k rs q oz D E/\Kp F3 wr wE:=by
 have i:Nw F3 wr (wr.alloc x).drew wr.heap.size:= .inr ⟨abM _,(show wr.heap.size<(wr.alloc x).heap.size by simp)⟩;have j:(wr.alloc x).heap.size<=w6.heap.size:=f.size;have d:wr.heap.size<w6.heap.size:=abO aT j;refine⟨h.gr a (λq hq=>by injection hq with hq;exact .inl (hq ▸ i)) (λb hb=>?_) (λb _ hb=>?_),((Kp.cD (aX wr x).drew fl).trans (f.mono λb hb=> .inl hb)).trans (Kp.grown a λb hb=>⟨by have:=fl b hb;omega,λe=>by injection e with e;have:=fl b hb;omega⟩)⟩
 .refine abO ?_ a.size;rcases hb with(hb|hb)|rfl
  .have:=fl b hb;omega
  .exact h.ob.fl b (.inr hb)
  .exact d
 .rcases hb with(hb|hb)|rfl
  .exact .inl (.inl hb)
  .exact .inr hb
  .exact .inl i
end
theorem We{α:Type}{enc:α->List aC}{c:Nat}{e:aN}{xs:List α}{x:Obj}(h:bI enc sz w6 (wr.alloc x).drew.heap.size e A c xs)(a:w6.grownBy wE (some wr.heap.size))(hq:q1<=wr.heap.size):bI enc sz wE q1 e A c xs:=by
 have hs:(wr.alloc x).drew.heap.size=wr.heap.size+1:=(show(wr.alloc x).heap.size=_ by simp)
 refine(h.kept a ?_).from_ aQ;cases b:aY A with
 |none=>exact .inl rfl
 |some r=>exact .inr (λe=>by injection e with e;have:=(h.lt r b).1;omega)
def iF(rs:List Rm)(qs:List (Int×Int×Int)):List Rm:=qs.foldl (λrs a=>xX rs a.1 a.2.1 a.2.2) rs
def tI(rs:List Rm):List (Int×Int×Int)->List Int
 | []=> []
 |a::qs=>JD rs a.1 a.2.1 a.2.2::tI (xX rs a.1 a.2.1 a.2.2) qs
theorem Bx(rs:List Rm)(qs:List (Int×Int×Int))(a:Int×Int×Int):iF rs (qs++ [a])=xX (iF rs qs) a.1 a.2.1 a.2.2:=by unfold iF;rw[ad1];rfl
theorem ND(a:Int×Int×Int):∀(qs:List (Int×Int×Int)) (rs:List Rm),tI rs (qs++ [a])=tI rs qs++ [JD (iF rs qs) a.1 a.2.1 a.2.2]
 | [],rs=>rfl
 |x::qs,rs=>by
  show JD rs x.1 x.2.1 x.2.2::tI (xX rs x.1 x.2.1 x.2.2) (qs++ [a])=_;rw[ND a qs];rfl
theorem RZ:∀(qs:List (Int×Int×Int)) (rs:List Rm),(tI rs qs).length=qs.length
 | [],rs=>rfl
 |x::qs,rs=>by
  show(tI (xX rs x.1 x.2.1 x.2.2) qs).length+1=_;rw[RZ qs];rfl
def n9(rs:List Rm)(n:Nat)(T:Int):Prop:=∀i x,(bJ rs i).l=some x->lA x n/\x.nw<=T
theorem lA.up(h:lA x n)(a:n<=n'):lA x n':=eL.mono h (λ_=>a) (λ_=>a) a aQ aQ
theorem n9.up(h:n9 rs n T)(b:n<=n')(d:T<=T'):n9 rs n' T':=λi x a=>⟨(h i x a).1.up b,by have:=(h i x a).2;omega⟩
theorem Oy(x:Lb)(t d:Int):(oF x t d).2.nw=x.nw:=by
 unfold oF;split
 .rfl
 .split
  .rfl
  .split <;> rfl
theorem n9.ask(h:n9 rs n T)(f:rs.length=8)(e t d:Int):n9 (xX rs e t d) (n+1) T:=by
 unfold xX;split
 .split
  .exact h.up (ac8 _) (adL _)
  .rename_i he x b;intro i y a;unfold uX at a;by_cases hi:e.toNat=i
   .subst hi;rw[l9 aQ] at a;injection a with a;subst a;exact⟨(h _ x b).1.ask t d,by rw[Oy];exact(h _ x b).2⟩
   .rw[vT hi] at a;exact⟨(h i y a).1.up (ac8 _),(h i y a).2⟩
 .exact h.up (ac8 _) (adL _)
theorem QB(rs:List Rm)(e t d:Int):(xX rs e t d).length=rs.length:=by
 unfold xX;split
 .split
  .rfl
  .unfold uX;rw[ab1]
 .rfl
theorem P0(qs:List (Int×Int×Int)):∀rs:List Rm,(iF rs qs).length=rs.length:=by
 induction qs with
 |nil=>intro rs;rfl
 |cons a qs b=>intro rs;exact(b _).trans (QB ..)
theorem n9.asks(qs:List (Int×Int×Int)):∀{rs:List Rm} {n:Nat},n9 rs n T->rs.length=8->n9 (iF rs qs) (n+qs.length) T:=by
 induction qs with
 |nil=>intro rs n h _;exact h
 |cons a qs d=>
  intro rs n h b;have:=d (h.ask b a.1 a.2.1 a.2.2) ((QB ..).trans b);exact this.up (by simp only[acN];omega) (adL _)
def kA(s:Sd)(rs:List Rm):Nat->Sd
 |0=>s
 |i+1=>match(bJ rs i).l with
  |none=>kA s rs i
  |some x=>jZ (kA s rs i) i (mW x).isSome
theorem yL(h:gQ s)(hp:s.P.length=4)(rs:List Rm):∀n,gQ (kA s rs n)/\(kA s rs n).P.length=4/\(kA s rs n).nw=s.nw
 |0=>⟨h,hp,rfl⟩
 |i+1=>by
  obtain⟨h1,a,b⟩:=yL h hp rs i;unfold kA;split
  .exact⟨h1,a,b⟩
  .obtain⟨d,e⟩:=vV h1 a i (mW _).isSome;exact⟨d,e,(yM _ _ _).trans b⟩
def rZ(rs:List Rm)(i:Nat)(x:Lb):List Rm:=QN rs i (wrap64 ((bJ rs i).sn+(wG rs i x).length))
def T3(rs:List Rm)(e:Int)(i:Nat)(x:Lb):List Rm:=uX (rZ rs i x) i (jJ x (decide (e=i)))
def DJ(rs:List Rm)(e:Int)(i:Nat):List Rm:=match(bJ rs i).l with
 |none=>rs
 |some x=>rZ (T3 rs e i x) i (jJ x (decide (e=i)))
def Cz(rs:List Rm)(e:Int)(i:Nat):List (Int×Ev):=match(bJ rs i).l with
 |none=> []
 |some x=>(wG (T3 rs e i x) i (jJ x (decide (e=i)))).map λv=>((i:Int),v)
def Y7(rs:List Rm)(e:Int)(i:Nat)(p:Int×Int):Int×Int:=match(bJ rs i).l with
 |none=>p
 |some x=>if e=i then qN x (nO x (decide (e=i))) else p
def iW(rs:List Rm)(e:Int):Nat->List Rm
 |0=>rs
 |i+1=>DJ (iW rs e i) e i
def kU(rs:List Rm)(e:Int):Nat->List (Int×Ev)
 |0=> []
 |i+1=>kU rs e i++Cz (iW rs e i) e i
def mJ(rs:List Rm)(e:Int):Nat->Int×Int
 |0=>(-1,0)
 |i+1=>Y7 (iW rs e i) e i (mJ rs e i)
theorem J3(hi:i<rs.length):(bJ (rZ rs i x) j).l=(bJ rs j).l/\(bJ (rZ rs i x) j).ru=(bJ rs j).ru/\(bJ (rZ rs i x) j).g=(bJ rs j).g:=by
 unfold rZ QN;by_cases h:i=j
 .subst h;rw[l9 hi];exact⟨rfl,rfl,rfl⟩
 .rw[vT h];exact⟨rfl,rfl,rfl⟩
theorem Ni(rs:List Rm)(e:Int)(i:Nat):(DJ rs e i).length=rs.length:=by
 unfold DJ rZ T3 uX rZ QN;split
 .rfl
 .rw[ab1,ab1,ab1]
theorem JG(rs:List Rm)(e:Int):∀n,(iW rs e n).length=rs.length
 |0=>rfl
 |i+1=>(Ni _ _ _).trans (JG rs e i)
theorem Ut(hi:i<rs.length):(bJ (DJ rs e i) j).l=(if j=i then(bJ rs i).l.map λx=>jJ x (decide (e=i)) else(bJ rs j).l)/\(bJ (DJ rs e i) j).ru=(bJ rs j).ru:=by
 unfold DJ;cases hl:(bJ rs i).l with
 |none=>
  simp only;refine⟨?_,by first|rfl|trivial⟩;split
  .rename_i h;subst h;rw[hl];rfl
  .rfl
 |some x=>
  simp only;have h1:i<(rZ rs i x).length:=by unfold rZ QN;rw[ab1];exact hi
  have b:i<(T3 rs e i x).length:=by unfold T3 uX;rw[ab1];exact h1
  have a:=J3 (j:=j) (x:=jJ x (decide (e=i))) b;have a2:=J3 (j:=j) (x:=x) hi;rw[a.1,a.2.1];unfold T3 uX;by_cases h:i=j
  .subst h;rw[l9 h1,abP rfl];exact⟨rfl,(J3 (j:=i) (x:=x) hi).2.1⟩
  .rw[vT h,abQ (aeC h)];exact⟨a2.1,a2.2.1⟩
theorem GA{rs:List Rm}{e:Int}(j:Nat):∀n,n<=rs.length->(bJ (iW rs e n) j).l=(if j<n then(bJ rs j).l.map λx=>jJ x (decide (e=j)) else(bJ rs j).l)/\(bJ (iW rs e n) j).ru=(bJ rs j).ru
 |0,_=>⟨by rw[abQ aQ];rfl,rfl⟩
 |n+1,hn=>by
  obtain⟨h1,d⟩:=GA (rs:=rs) (e:=e) j n aQ;have a:=Ut (rs:=iW rs e n) (e:=e) (i:=n) (j:=j) (by rw[JG];omega);show(bJ (DJ (iW rs e n) e n) j).l=_/\(bJ (DJ (iW rs e n) e n) j).ru=_;rw[a.1,a.2,d];refine⟨?_,rfl⟩;by_cases b:j=n
  .subst b;rw[abP rfl,abP aQ,h1,abQ aQ]
  .rw[abQ b,h1];by_cases hl:j<n
   .rw[abP hl,abP aQ]
   .rw[abQ hl,abQ aQ]
theorem Je(rs:List Rm)(n:Nat)(x:Lb):(wG rs n x).length<=x.lg.length:=by
 unfold wG BR;split
 .exact abX _
 .rw[ad5];omega
section
variable{F:Nat->Prop}{w w':aA}{hb m g q:Nat}{c:Int}{k:Kv}{rs:List Rm}{oz:Ou}{D:List Int}{E:List (Int×Ev)}{n:Nat}{x:Lb}
theorem eG.r0(h:eG F w hb m g c k rs q oz D E)(a:n<8)(hl:(bJ rs n).l=some x):w.cell? (hb,2+n *15)=some (.pointer (some ⟨(bJ rs n).g,0,none⟩)):=by
 obtain⟨G,b,_⟩:=h.ho;exact b.VU a hl
theorem eG.news(h:eG F w hb m g c k rs q oz D E)(a:n<8)(hl:(bJ rs n).l=some x)(e:x.lg.length<=4000000000):aG prog 46 #[.pointer (some ⟨hb,2+n *15,none⟩)] w λr w'=>∃B d,r= .returned (.slice B (wG rs n x).length d)/\bI qX 4 w' w.heap.size 165 B d (wG rs n x)/\eG (cI F B) w' hb m g c k (rZ rs n x) q oz D E/\Kp F w w':=by
 obtain⟨G,_,f,back⟩:=h.Xq;refine(ZY f a hl e).mono ?_;rintro r w' ⟨B,d,rfl,own,i,j⟩;obtain⟨b1,b2⟩:=back _ _ B w' (λb hb=>(own.lt b hb).1) i j;exact⟨B,d,rfl,own,b1,b2⟩
theorem eG.Vn(h:eG F w hb m g c k rs q oz D E)(d:n<8)(hl:(bJ rs n).l=some x)(e:lA x nl)(hk:nl<=2800)(hw:x.nw<1048576)(gv:Bool):aG prog 28 #[.pointer (some ⟨(bJ rs n).g,0,none⟩),gv] w λr w'=>r= .returned (.tuple #[.int .i64 (qN x (nO x gv)).1, .int .i64 (qN x (nO x gv)).2,true])/\eG F w' hb m g c k (uX rs n (jJ x gv)) q oz D E/\Kp F w w':=by
 obtain⟨G,f,back⟩:=h.ho;obtain⟨o,y,b,a⟩:=f.Kw d hl;refine(ZD b e hk hw gv).mono ?_;rintro r w' ⟨rfl,i,j⟩;obtain⟨b1,b2⟩:=a _ w' i j;exact⟨rfl,back _ _ w' b1 b2⟩
end
theorem Gi(s:Sd):(gI s).1.env= -1\/∃i:Nat,(gI s).1.env=i/\i<s.P.length:=by
 unfold gI;cases a:iN (eJ s).P s.P.length with
 |some q=>
  obtain⟨i,d⟩:=q;exact .inr ⟨i,rfl,(CO _ _ _ _ a).1⟩
 |none=>
  simp only;cases b:zF (eJ s).P s.tu.toNat with
  |none=>exact .inl rfl
  |some e=>exact .inr ⟨e,rfl,by have:=(Bh b).1;rw[xN] at this;exact this⟩
theorem sV.Gr{c:Int}{xs:List Wd}{D:List (Int×Int)}(h:sV k c ws xs rn D k')(a:KI k n):rn.env= -1\/∃i:Nat,rn.env=i/\i<4:=by
 obtain⟨b,hb,rfl,_⟩:=h;have d:=(hb.ki (AM ws a)).p4;rcases Gi b.s with h|⟨i,h,hi⟩
 .exact .inl h
 .exact .inr ⟨i,h,aQ⟩
theorem below_drewN(w:aA)(n:Nat):aD w w (w.drewN n):=⟨rfl,rfl,rfl,abM _,λ_ _=>rfl⟩
theorem uK.len{c:Int}{ws:List Int}{D:List (Int×Int)}(h:uK c e k ws D k'):D.length=ws.length:=by
 induction h with
 |nil=>rfl
 |snoc _ _ _ a=>rw[ab2,ab2,a];rfl
theorem sV.Zn{c:Int}{xs:List Wd}{D:List (Int×Int)}{M:Nat}(h:sV k c ws xs rn D k')(a:∀z∈xs,z.xs.length<=M):D.length<=M:=by
 obtain⟨e,_,_,⟨i,z,_,b,ha⟩|⟨_,d,_⟩⟩:=h
 .rw[ha.len];exact a z (adF b)
 .rw[d];exact abX _
theorem results_cell_tmp{a t:Tmp}{ty:aN}(h:fn.results=#[.cell a ty, .tmp t])(tmps:Array aC)(w:aA)(g:Nat)(M:List aC)(d:TypeDesc)(ha:tmps.getD a undef= .pointer g)(hc:w.rangeAt g 0 M)(hu:P.underlying ty=some d)(hd:d.isRow=true)(hi:(P.info? ty).map (·.size)=some M.length):
 (results fn tmps).run P w= .ok (.tuple #[.agg M.toArray,tmps.getD t undef]) w:=by
 have:=run_loadVar_mid (P:=P) w g 0 ty M d hc hu hd hi;rw[afC] at ha;simp[results,h,ha,asAddr,this]
theorem Ml(oz:Ou):(prog.info? 79).map (·.size)=some (jX oz).length:=by
 have:(prog.info? 79).map (·.size)=some 13:=aV;exact this
theorem Ub(oz:Ou):(jX oz).toArray.all (·.oneCell')=true:=by
 rw[Array.all_eq_true];intro i hi;have hi:i<13:=hi;have:i=0\/i=1\/i=2\/i=3\/i=4\/i=5\/i=6\/i=7\/i=8\/i=9\/i=10\/i=11\/i=12:=aQ;rcases this with rfl|rfl|rfl|rfl|rfl|rfl|rfl|rfl|rfl|rfl|rfl|rfl|rfl <;> rfl
theorem Bq{A:Array aC}{M:List aC}(h:A.size=M.length):lay A 0 M=M.toArray:=by
 have:=UQ [] A.toList M [] (by simpa using h);simpa using this
theorem bE.laid{t:aN}{A:Array aC}{M:List aC}(h:bE w g t A)(hs:A.size=M.length):bE (w.setCells g 0 M) g t M.toArray:=by
 have:=iX g t M 0 w _ h;rw[Bq hs] at this;exact this
end
variable{v:aC}{w':aA}{AQ:Option aJ}{nR cR nX cX:Nat}{qs:List (Int×Int×Int)}
section
theorem Zp:jL prog 82 172 3 24:=fP (z:= .agg #[aU,aU,aU]) underlying82 aV (by simp[Value.cells]) aQ
theorem Zs:jL prog 85 126 3 24:=fP (z:= .agg #[aU,aU,aU]) underlying85 aV (by simp[Value.cells]) aQ
theorem PA{a:Tmp}{ty:aN}(h:fn.results=#[.cell a ty])(tmps:Array aC)(w:aA)(g:Nat)(M:List aC)(d:TypeDesc)(ha:tmps.getD a undef= .pointer g)(hc:w.rangeAt g 0 M)(hu:P.underlying ty=some d)(hd:d.isRow=true)(hi:(P.info? ty).map (·.size)=some M.length):
 (results fn tmps).run P w= .ok (.agg M.toArray) w:=by
 have:=run_loadVar_mid (P:=P) w g 0 ty M d hc hu hd hi;rw[afC] at ha;simp[results,h,ha,asAddr,this]
def XV(x:Int×Int×Int)(N:Nat)(v:aC)(w:aA):Prop:=∃G,v= .slice (some ⟨G,0,none⟩) 1 1/\N<=G/\Sl mC 3 w (some ⟨G,0,none⟩) [x]
theorem XV.keep{x:Int×Int×Int}(h:XV x g v w)(a:bQ w w'):XV x g v w':=by obtain⟨G,h1,b,c⟩:=h;exact⟨G,h1,b,c.keep a⟩
structure DR(w wr:aA)(q:Nat)(AR:Option aJ)(nR cR:Nat)(AW:Option aJ)(nW cW:Nat)(AX:Option aJ)(nX cX:Nat)(AQ:Option aJ)(nQ cQ:Nat)(W:vJ)(ws:List (Int×Int×Int))(Q:vJ)(qs:List (Int×Int×Int)):Prop where
 b0:bE wr q 42 #[(AR,nR,cR),(AW,nW,cW),(AX,nX,cX),(AQ,nQ,cQ)]
 b1:bE wr (q+1) 87 #[bH,bH,bH,bH]
 b2:bE wr (q+1+1) 87 #[(AR,nR,cR),(W.A,W.n,W.c),(AX,nX,cX),(Q.A,Q.n,Q.c)]
 oW:bI mC 3 wr (q+1+1+1) 172 W.A W.c ws
 oQ:bI mC 3 wr (q+1+1+1) 126 Q.A Q.c qs
 nW:W.n=ws.length
 nQ:Q.n=qs.length
 ap:∀b,aY W.A=some b->aY Q.A≠some b
 bl:aD q w wr
 sz:q+1+1+1<=wr.heap.size
section
variable{w wr w9:aA}{q nR cR nW cW nX cX nQ cQ:Nat}{AR AW AX AQ:Option aJ}{W Q:vJ}{ws qs:List (Int×Int×Int)}
theorem DR.below(h:DR w wr q AR nR cR AW nW cW AX nX cX AQ nQ cQ W ws Q qs)(hb:aD wr wr w9):DR w w9 q AR nR cR AW nW cW AX nX cX AQ nQ cQ W ws Q qs:=
 ⟨h.b0.keep hb,h.b1.keep hb,h.b2.keep hb,h.oW.keep hb,h.oQ.keep hb,h.nW,h.nQ,h.ap,h.bl.trans (hb.mono (by have:=h.sz;omega)),abT h.sz hb.size⟩
theorem DR.Za(h:DR w wr q AR nR cR AW nW cW AX nX cX AQ nQ cQ W ws Q qs){x:Int×Int×Int}(a:bI mC 3 w9 (q+1+1+1) 172 A9 c9 (ws++ [x]))(d:wr.grownBy w9 (aY W.A))(ha:aY A9=aY W.A\/aY A9=some wr.heap.size)(i:n=(ws++ [x]).length):(∃v,w9.cell? (q+1+1,1)=some v)/\w9.frozen? (q+1+1,1)=false/\DR w (w9.setCell (q+1+1,1) (.slice A9 n c9)) q AR nR cR AW nW cW AX nX cX AQ nQ cQ ⟨A9,n,c9⟩ (ws++ [x]) Q qs:=by
 have hl:∀b,aY W.A=some b->q+1+1+1<=b:=λb hb=>(h.oW.lt b hb).1
 have hk:∀b,b<q+1+1+1->w9.heap[b]?=wr.heap[b]?:=λb hb=>d.block b (abO hb h.sz) (λe=>by have:=hl b e.symm;omega)
 have b2:bE w9 (q+1+1) 87 _:=(hk _ aQ).trans h.b2;have gs:w9.grownBy (w9.setCell (q+1+1,1) (.slice A9 n c9)) (some (q+1+1)):=aZ (bL _ _) 1 _;have g:∀b,aY A9=some b->q+1+1+1<=b:=λb hb=>(a.lt b hb).1
 have f:bI mC 3 w9 (q+1+1+1) 126 Q.A Q.c qs:=h.oQ.kept d (by
  cases j:aY Q.A with
  |none=>exact .inl rfl
  |some r=>exact .inr (λe=>h.ap r e.symm (by rw[j])))
 refine⟨⟨_,b2.cell 1 _ rfl⟩,b2.frozen 1,(gs.block q (by have:=h.sz;have:=d.size;omega) (λe=>by injection e with e;omega)).trans ((hk _ aQ).trans h.b0),(gs.block (q+1) (by have:=h.sz;have:=d.size;omega) (λe=>by injection e with e;omega)).trans ((hk _ aQ).trans h.b1),b2.cB 1 _,a.kept gs (.inr λe=>by have:=g _ e;omega),f.kept gs (.inr λe=>by have:=(f.lt _ e).1;omega),i,h.nQ,λb hb e=>?_,(h.bl.grown d (by have:=h.sz;omega) (λk hk=>by have:=hl k hk;omega)).grown gs (by have:=h.sz;have:=d.size;omega) (λk hk=>by injection hk with hk;omega),abT h.sz (abT d.size gs.size)⟩;rcases ha with ha|ha
 .exact h.ap b (ha.symm.trans hb) e
 .rw[ha] at hb;injection hb with hb;have:=(h.oQ.lt b e).2;omega
theorem DR.Yx(h:DR w wr q AR nR cR AW nW cW AX nX cX AQ nQ cQ W ws Q qs){x:Int×Int×Int}(a:bI mC 3 w9 (q+1+1+1) 126 A9 c9 (qs++ [x]))(d:wr.grownBy w9 (aY Q.A))(ha:aY A9=aY Q.A\/aY A9=some wr.heap.size)(i:n=(qs++ [x]).length):(∃v,w9.cell? (q+1+1,3)=some v)/\w9.frozen? (q+1+1,3)=false/\DR w (w9.setCell (q+1+1,3) (.slice A9 n c9)) q AR nR cR AW nW cW AX nX cX AQ nQ cQ W ws ⟨A9,n,c9⟩ (qs++ [x]):=by
 have hl:∀b,aY Q.A=some b->q+1+1+1<=b:=λb hb=>(h.oQ.lt b hb).1
 have hk:∀b,b<q+1+1+1->w9.heap[b]?=wr.heap[b]?:=λb hb=>d.block b (abO hb h.sz) (λe=>by have:=hl b e.symm;omega)
 have b2:bE w9 (q+1+1) 87 _:=(hk _ aQ).trans h.b2;have gs:w9.grownBy (w9.setCell (q+1+1,3) (.slice A9 n c9)) (some (q+1+1)):=aZ (bL _ _) 3 _;have g:∀b,aY A9=some b->q+1+1+1<=b:=λb hb=>(a.lt b hb).1
 have f:bI mC 3 w9 (q+1+1+1) 172 W.A W.c ws:=h.oW.kept d (by
  cases j:aY W.A with
  |none=>exact .inl rfl
  |some r=>exact .inr (λe=>h.ap r j e.symm))
 refine⟨⟨_,b2.cell 3 _ rfl⟩,b2.frozen 3,(gs.block q (by have:=h.sz;have:=d.size;omega) (λe=>by injection e with e;omega)).trans ((hk _ aQ).trans h.b0),(gs.block (q+1) (by have:=h.sz;have:=d.size;omega) (λe=>by injection e with e;omega)).trans ((hk _ aQ).trans h.b1),b2.cB 3 _,f.kept gs (.inr λe=>by have:=(f.lt _ e).1;omega),a.kept gs (.inr λe=>by have:=g _ e;omega),h.nW,i,λb hb e=>?_,(h.bl.grown d (by have:=h.sz;omega) (λk hk=>by have:=hl k hk;omega)).grown gs (by have:=h.sz;have:=d.size;omega) (λk hk=>by injection hk with hk;omega),abT h.sz (abT d.size gs.size)⟩;rcases ha with ha|ha
 .exact h.ap b hb (ha.symm.trans e)
 .have e:aY A9=some b:=e;rw[ha] at e;injection e with e;have:=(h.oW.lt b hb).2;omega
end
theorem Oa(cW cQ:Nat)(w:aA)(P:Sl mC 3 w AW ws)(hQ:Sl mC 3 w AQ qs)(lW:ws.length<=1000)(lQ:qs.length<=1000):
 aG prog 17 #[.agg #[(AR,nR,cR),(AW,ws.length,cW),(AX,nX,cX),(AQ,qs.length,cQ)]] w λr w'=>∃W Q:vJ,r= .returned (.agg #[(AR,nR,cR), .slice W.A W.n W.c,(AX,nX,cX), .slice Q.A Q.n Q.c])/\bI mC 3 w' w.heap.size 172 W.A W.c ws/\bI mC 3 w' w.heap.size 126 Q.A Q.c qs/\W.n=ws.length/\Q.n=qs.length/\aD w w w':=by
 have h0:aH (DR w (((w.alloc (aI #[(AR,nR,cR),(AW,ws.length,cW),(AX,nX,cX),(AQ,qs.length,cQ)] 42)).alloc (aI #[bH,bH,bH,bH] 87)).alloc (aI #[(AR,nR,cR),bH,(AX,nX,cX),bH] 87)) w AR nR cR AW ws.length cW AX nX cX AQ qs.length cQ G9 [] G9 []):=
  ⟨((bE.new w _ _).alloc _).alloc _,(bE.fL _ _ _ aT).alloc _,bE.fL _ _ _ aT,bI.nil _ _ _,bI.nil _ _ _,rfl,rfl,λb hb=>absurd (show(none:Option Nat)=some b from hb) aT,((aX w _).alloc aT _).alloc (by simp only[World.size_alloc];omega) _,aT⟩
 have HS:=bP P hQ;clear P hQ;go_enter func17,ntmps17
 go_upto_region 2 with(fail)
 generalize (((w.alloc (aI #[(AR,nR,cR),(AW,ws.length,cW),(AX,nX,cX),(AQ,qs.length,cQ)] 42)).alloc (aI #[bH,bH,bH,bH] 87)).alloc (aI #[(AR,nR,cR),bH,(AX,nX,cX),bH] 87))=w3 at *;generalize hq:w.heap.size=q at *;have HQ:=aP hq;have S:aH (∀W,aD q w W->Sl mC 3 W AW ws/\Sl mC 3 W AQ qs):=λW P=>by
  rw[<-HQ.o] at P;exact⟨HS.o.1.keep P,HS.o.2.keep P⟩
 clear hq;go_wp2_with fail
 go_loopw [4] (λv4 wr=>∃i:Nat,v4= .int .i64 i/\i<=ws.length/\aH (∃A c,DR w wr q AR nR cR AW ws.length cW AX nX cX AQ qs.length cQ ⟨A,i,c⟩ (ws.take i) G9 [])) (λv4 _=>ws.length - (aL v4).toNat)
 case atStart=>exact⟨0,rfl,abX _,none,0,h0.o⟩
 case round=>
  clear h0;obtain⟨i,rfl,hi,E⟩:=hrel;obtain⟨A,c,a⟩:=E.o;have E:=aP a;have b1:=a.b0.cell 1 (.slice AW ws.length cW) rfl;by_cases u:i<ws.length
  .obtain⟨b,off,rfl,g,j,l⟩:=(S.o wr a.bl).1.FZ u;have j0:(0:Int)<=i:=aQ;have Z:(i:Int)<(ws.length:Int):=aQ;have HT:aH (ws.take (i+1)=ws.take i++ [ws[i]]):=(acL u).symm;generalize ws[i]=x at *;obtain⟨p,s,t⟩:=x;simp only at g j l;have hX:=a.below (aX wr (aI #[p,s,t] 171));have Y:=bE.new wr 171 #[p,s,t];have y0:=Y.cell 0 p rfl;have y1:=Y.cell 1 s rfl;have y2:=Y.cell 2 t rfl;have d1:=hX.b2.cell 1 (.slice A i c) rfl;have N:=aP hX;have y:aH ((ws.take i).length=i):=by unfold aH;rw[acQ];omega
   clear a hX Y;go_upto_region 6 with(fail)
   clear b1 g j l;generalize wr.alloc (aI #[p,s,t] 171)=wx at *;go_wp2_with(refine bS _ rfl (.tmp 31) (.tmp 39) rfl Zp uP (base:=q+1+1+1) (xs:=ws.take i) (N.o.oW.alloc _) (n:=i) y.o rfl (m:=1) rfl (ys:= [(p,s,t)]) rfl (Sl.fL uP wx (p,s,t) _ rfl _ aT) dN aQ (abT N.o.sz aT) _ rfl (i+1) rfl ?_;intro A9 c9 w9 f F H;(obtain⟨T,f9,I⟩:=(N.o.below (aX wx (aI #[p,s,t] 172))).Za f F H (n:=i+1) (by rw[ab2,y.o];rfl));obtain⟨b9v,T⟩:=T)
   exact⟨⟨i+1,rfl,aQ,A9,c9,by rw[HT.o];exact I⟩,by simp only[aL];omega⟩
  .obtain rfl:i=ws.length:=aQ;have J:ws.take ws.length=ws:=adS;rw[J] at a;have U:=aP a;clear a E J;have Z:¬(ws.length:Int)<(ws.length:Int):=aQ;go_wp2_with fail
   go_loopw [6] (λv6 wr=>∃i:Nat,v6= .int .i64 i/\i<=qs.length/\aH (∃B d,DR w wr q AR nR cR AW ws.length cW AX nX cX AQ qs.length cQ ⟨A,ws.length,c⟩ ws ⟨B,i,d⟩ (qs.take i))) (λv6 _=>qs.length - (aL v6).toNat)
   case atStart=>exact⟨0,rfl,abX _,none,0,U.o⟩
   case round=>
    clear U b1;obtain⟨i,rfl,hi,E⟩:=hrel;obtain⟨B,d,a⟩:=E.o;have E:=aP a;have b3:=a.b0.cell 3 (.slice AQ qs.length cQ) rfl;by_cases u:i<qs.length
    .obtain⟨b,off,rfl,g,j,l⟩:=(S.o wr a.bl).2.FZ u;have j0:(0:Int)<=i:=aQ;have Z:(i:Int)<(qs.length:Int):=aQ;have HT:aH (qs.take (i+1)=qs.take i++ [qs[i]]):=(acL u).symm;generalize qs[i]=x at *;obtain⟨p,s,t⟩:=x;simp only at g j l;have d3:=a.b2.cell 3 (.slice B i d) rfl;have HY:aH (∀(W:aA),Sl mC 3 (W.alloc (aI #[p,s,t] 126)) (some ⟨W.heap.size,0,none⟩) [(p,s,t)]):=λW=>Sl.fL uP W (p,s,t) _ rfl _ rfl
     have y:aH ((qs.take i).length=i):=by unfold aH;rw[acQ];omega
     clear a;go_upto_region 10 with(fail)
     have K:=bD b3;have z:=bD g;have C:=bD j;have D:=bD l;have L:=bD d3;refine bM (bQ _) (λ_=>bQ) [71] (λ_ v w=>XV (p,s,t) wr.heap.size v w) [22,24] [[22,21,20,7,6,5,3], [22,21,20,7], [22,21,20,13,12,11,9], [22,21,20,13], [22,21,20,19,18,17,15], [22,21,20,19]] 75 (bZ _) (λ_ _ _ h hz=>bV h hz) (λ_ d hd _ v w w' _ h hz=>h.keep hz) aV aV bF ?_;repeat (first|(refine eK ?_)|(refine sC 71 [] bF bF bF bF (λγ w hC J=>?_) ?_;(simp only[cY];go_simp;exact pB (aX w _) ⟨_,rfl,Below.size hC,HY.o w⟩);(try refine dE ?_)))
     refine dI ?_;intro γ w5 V J;clear K z C D L;simp only[cY,Act.put,abN,abU,abS];refine dS ?_;obtain⟨G,hv,hG,X⟩:=J 71 aT;rw[hv];have N:=aP (E.o.below V);have HG:=aP X;clear b3 g j l d3 V J E hv X hG HY;refine bS w5 rfl (.tmp 51) (.tmp 71) rfl Zs uP (base:=q+1+1+1) (xs:=qs.take i) N.o.oQ (n:=i) y.o rfl (m:=1) rfl (ys:= [(p,s,t)]) rfl HG.o dN aQ N.o.sz _ rfl (i+1) rfl ?_;intro A9 c9 w9 f F H;obtain⟨T,f9,I⟩:=N.o.Yx f F H (n:=i+1) (by rw[ab2,y.o];rfl);obtain⟨b9v,T⟩:=T;have HO:=aP I;clear I f F H;go_wp2_with fail
     simp only[nK];go_wp2_with fail
     exact⟨⟨i+1,rfl,aQ,A9,c9,by rw[HT.o];exact HO.o⟩,by simp only[aL];omega⟩
    .obtain rfl:i=qs.length:=aQ;have J:qs.take qs.length=qs:=adS;rw[J] at a;have R:=aP a;have hrg:=aP a.b2.range;have g0:=a.b1.cell 0 (.slice none 0 0) rfl;have g1:=a.b1.cell 1 (.slice none 0 0) rfl;have g2:=a.b1.cell 2 (.slice none 0 0) rfl;have g3:=a.b1.cell 3 (.slice none 0 0) rfl;have f0:=a.b1.frozen 0;have f1:=a.b1.frozen 1;have f2:=a.b1.frozen 2;have f3:=a.b1.frozen 3;have hbz:aH (bE ((((wr.setCell (q+1,0) (.slice AR nR cR)).setCell (q+1,1) (.slice A ws.length c)).setCell (q+1,2) (.slice AX nX cX)).setCell (q+1,3) (.slice B qs.length d)) (q+1) 87 [.slice AR nR cR, .slice A ws.length c, .slice AX nX cX, .slice B qs.length d].toArray):=(((a.b1.cB 0 _).cB 1 _).cB 2 _).cB 3 _;have O:aH (wr.grownBy ((((wr.setCell (q+1,0) (.slice AR nR cR)).setCell (q+1,1) (.slice A ws.length c)).setCell (q+1,2) (.slice AX nX cX)).setCell (q+1,3) (.slice B qs.length d)) (some (q+1))):=aZ (aZ (aZ (aZ (bL _ _) 0 _) 1 _) 2 _) 3 _;have M:aH ((prog.info? 87).map (·.size)=some 4):=by unfold aH;kernel_rfl
     have Z:¬(qs.length:Int)<(qs.length:Int):=aQ;clear a E J;go_wp2_with(first|(refine wpList_load_mid rfl 87 _ rfl (q+1+1) 0 rfl [.slice AR nR cR, .slice A ws.length c, .slice AX nX cX, .slice B qs.length d] _ hrg.o underlying87 rfl M.o ?_))
     refine bodyPost_ret (PA rfl _ _ (q+1) [.slice AR nR cR, .slice A ws.length c, .slice AX nX cX, .slice B qs.length d] _ rfl hbz.o.range underlying87 rfl M.o) rfl ⟨⟨A,ws.length,c⟩,⟨B,qs.length,d⟩,rfl,?_,?_,rfl,rfl,?_⟩
     .rw[HQ.o];exact(R.o.oW.kept O.o (.inr λe=>by have:=(R.o.oW.lt _ e).1;omega)).from_ aQ
     .rw[HQ.o];exact(R.o.oQ.kept O.o (.inr λe=>by have:=(R.o.oQ.lt _ e).1;omega)).from_ aQ
     .rw[HQ.o];exact R.o.bl.grown O.o (by have:=R.o.sz;omega) (λk hk=>by injection hk with hk;omega)
end
section
structure Ac where
 kd:Int
 env:Int
 n:Int
 bu:Int
 pe:Int
 TA:Option aJ
 Tc:Nat
 ts:List Tm
 od:Int
 CA:Option aJ
 Cc:Nat
 cs:List Int
 RA:Option aJ
 Rc:Nat
 rs:List Int
 WA:Option aJ
 Wc:Nat
 ws:List (Int×Int×Int)
 XA:Option aJ
 Xc:Nat
 xs:List Wd
 QA:Option aJ
 Qc:Nat
 qs:List (Int×Int×Int)
def NB(a:Ac):List aC:= [.int .i64 a.kd, .int .i64 a.env, .int .u8 a.n, .int .i64 a.bu, .int .i64 a.pe, .slice a.TA a.ts.length a.Tc, .int .u8 a.od, .slice a.CA a.cs.length a.Cc, .slice a.RA a.rs.length a.Rc, .slice a.WA a.ws.length a.Wc, .slice a.XA a.xs.length a.Xc, .slice a.QA a.qs.length a.Qc]
theorem Ss:eW NB 12:=⟨λ_=>rfl,λx u hu=>by simp[NB] at hu;rcases hu with rfl|rfl|rfl|rfl|rfl|rfl|rfl|rfl|rfl|rfl|rfl|rfl <;> rfl⟩
structure rA(F:Nat->Prop)(w:aA)(a:Ac):Prop where
 t:Sl pM 5 w a.TA a.ts
 tF:∀q,kW a.TA a.ts.length=some q->F q
 se:∀x∈a.ts,Sl lN 3 w x.A x.t.se/\∀q,kW x.A x.t.se.length=some q->F q
 c:Sl eU 1 w a.CA a.cs
 cF:∀q,kW a.CA a.cs.length=some q->F q
 cr:∀v∈a.cs,0<=v/\v<18446744073709551616
 i:CM F w a.RA a.rs a.WA a.ws a.XA a.xs
 q:Sl mC 3 w a.QA a.qs
 qF:∀q,kW a.QA a.qs.length=some q->F q
 n:0<=a.n/\a.n<=255
 od:0<=a.od/\a.od<=255
theorem rA.kp{a:Ac}(h:rA F w a)(k:Kp F w w'):rA F w' a:=
 ⟨h.t.BI k h.tF,h.tF,λx b=>⟨(h.se x b).1.BI k (h.se x b).2,(h.se x b).2⟩,h.c.BI k h.cF,h.cF,h.cr,h.i.kp k,h.q.BI k h.qF,h.qF,h.n,h.od⟩
theorem rA.up{a:Ac}(h:rA F w a)(d:∀b,F b->G b):rA G w a:=
 ⟨h.t,λq hq=>d q (h.tF q hq),λx e=>⟨(h.se x e).1,λq hq=>d q ((h.se x e).2 q hq)⟩,h.c,λq hq=>d q (h.cF q hq),h.cr,h.i.up d,h.q,λq hq=>d q (h.qF q hq),h.n,h.od⟩
theorem bY.Sr{c:Int}(h:bY F w hb m g c k rs)(b:aD w w w'):bY F w' hb m g c k rs:=(h.below b).1
structure uL(a:Ac):Prop where
 t:a.ts.length<=12
 c:a.cs.length<=300
 q:a.qs.length<=20
 r:a.rs.length<=20
 w:a.ws.length<=20
 x:a.xs.length<=10
 se:∀x∈a.ts,x.t.se.length<=12
 xs:∀z∈a.xs,z.xs.length<=60
theorem Sl.cells{α:Type}{enc:α->List aC}{xs:List α}(h:Sl enc sz w A xs)(hi:i<xs.length):∃b off,A=some ⟨b,off,none⟩/\∀(j:Nat) (u:aC),(enc xs[i])[j]?=some u->w.cell? ⟨b,off+i *sz+j,none⟩=some u:=by
 obtain⟨b,off,a,hc⟩:=h.at_ hi;exact⟨b,off,a,λj u hu=>by rw[acU];exact hc j u hu⟩
def Wb(l:List Ac)(w:aA)(r:aM)(w':aA):Prop:=∃b:Bool,r= .returned (.bool b)/\(b=true->l.length<=60/\∀a∈l,uL a)/\aD w w w'
theorem XC{l:List Ac}(c:Nat)(w:aA)(h:Sl NB 12 w A l)(M:∀a∈l,rA (λb=>b<w.heap.size) w a):aG prog 9 #[(A,l.length,c)] w (Wb l w):=by
 have N:=bP h M;have v:aH (aD w w w):=Below.refl _ _;clear h M;go_enter func9,ntmps9
 go_wp2_with fail
 go_loopw [3] (λv3 wr=>∃i:Nat,v3= .int .i64 i/\i<=l.length/\i<=60/\aH (aD w w wr/\∀a∈l.take i,uL a)) (λv3 _=>60 - (aL v3).toNat)
 case atStart=>exact⟨0,rfl,abX _,abX _,v.o,λa ha=>by simp at ha⟩
 case round=>
  clear v;obtain⟨i,rfl,hi,y,g⟩:=hrel;have j0:(0:Int)<=i:=aQ;by_cases r:i<l.length
  .by_cases Q:i<60
   .obtain⟨b,off,rfl,hc⟩:=(N.o.1.keep g.o.1).cells r;have R:aH (l.take (i+1)=l.take i++ [l[i]]):=(acL r).symm;have S:aH (rA (λb=>b<w.heap.size) wr l[i]):=(N.o.2 _ (abV r)).kp (Kp.cD g.o.1 λ_ hb=>hb);generalize l[i]=a at *;obtain⟨kd,env,n,bu,pe,TA,Tc,ts,od,CA,Cc,cs,RA,Rc,rs,WA,Wc,ws,XA,Xc,xs,QA,Qc,qs⟩:=a;have c0:=hc 0 (.int .i64 kd) rfl;have c1:=hc 1 (.int .i64 env) rfl;have c2:=hc 2 (.int .u8 n) rfl;have c3:=hc 3 (.int .i64 bu) rfl;have c4:=hc 4 (.int .i64 pe) rfl;have c5:=hc 5 (.slice TA ts.length Tc) rfl;have c6:=hc 6 (.int .u8 od) rfl;have c7:=hc 7 (.slice CA cs.length Cc) rfl;have c8:=hc 8 (.slice RA rs.length Rc) rfl;have c9:=hc 9 (.slice WA ws.length Wc) rfl;have yC:=hc 10 (.slice XA xs.length Xc) rfl;have G:=hc 11 (.slice QA qs.length Qc) rfl;rw[acC] at c0;have O:(i:Int)<(l.length:Int):=aQ;have T:(i:Int)<60:=aQ;clear hc;go_upto_region 5 with(fail)
    have u:=aP (bE.new wr 44 #[kd,env, .int .u8 n,bu,pe,(TA,ts.length,Tc), .int .u8 od,(CA,cs.length,Cc),(RA,rs.length,Rc),(WA,ws.length,Wc),(XA,xs.length,Xc),(QA,qs.length,Qc)]);have j:aH (aD w w (wr.alloc (aI #[kd,env, .int .u8 n,bu,pe,(TA,ts.length,Tc), .int .u8 od,(CA,cs.length,Cc),(RA,rs.length,Rc),(WA,ws.length,Wc),(XA,xs.length,Xc),(QA,qs.length,Qc)] 44))):=g.o.1.alloc g.o.1.size _;have B:=aP (S.o.kp (Kp.cD (aX wr (aI #[kd,env, .int .u8 n,bu,pe,(TA,ts.length,Tc), .int .u8 od,(CA,cs.length,Cc),(RA,rs.length,Rc),(WA,ws.length,Wc),(XA,xs.length,Xc),(QA,qs.length,Qc)] 44)) (F:=λb=>b<w.heap.size) λb hb=>abO hb g.o.1.size));have y5:=u.o.cell 5 (.slice TA ts.length Tc) rfl;have y7:=u.o.cell 7 (.slice CA cs.length Cc) rfl;have y8:=u.o.cell 8 (.slice RA rs.length Rc) rfl;have y9:=u.o.cell 9 (.slice WA ws.length Wc) rfl;have U:=u.o.cell 10 (.slice XA xs.length Xc) rfl;have V:=u.o.cell 11 (.slice QA qs.length Qc) rfl;have H:aH (∀x∈l.take i,uL x):=g.o.2;clear c0 c1 c2 c3 c4 c5 c6 c7 c8 c9 yC G u g;have P:aH (Sl pM 5 (wr.alloc (aI #[kd,env, .int .u8 n,bu,pe,(TA,ts.length,Tc), .int .u8 od,(CA,cs.length,Cc),(RA,rs.length,Rc),(WA,ws.length,Wc),(XA,xs.length,Xc),(QA,qs.length,Qc)] 44)) TA ts/\Sl P5 1 (wr.alloc (aI #[kd,env, .int .u8 n,bu,pe,(TA,ts.length,Tc), .int .u8 od,(CA,cs.length,Cc),(RA,rs.length,Rc),(WA,ws.length,Wc),(XA,xs.length,Xc),(QA,qs.length,Qc)] 44)) XA xs):=⟨B.o.t,B.o.i.x⟩
    generalize (wr.alloc (aI #[kd,env, .int .u8 n,bu,pe,(TA,ts.length,Tc), .int .u8 od,(CA,cs.length,Cc),(RA,rs.length,Rc),(WA,ws.length,Wc),(XA,xs.length,Xc),(QA,qs.length,Qc)] 44))=wx at *;go_cut [61] (λs W=>∃bv:Bool,s= .bool bv/\aH (bv=false->ts.length<=12/\cs.length<=300/\qs.length<=20/\rs.length<=20/\ws.length<=20/\xs.length<=10)/\W=wx)
    case first=>
     by_cases g1:(12:Int)<(ts.length:Int)
     .go_wp2_with fail
      go_meet
      exact⟨true,rfl,λh=>(by cases h),rfl⟩
     by_cases g2:(300:Int)<(cs.length:Int)
     .go_wp2_with fail
      go_meet
      exact⟨true,rfl,λh=>(by cases h),rfl⟩
     by_cases g3:(20:Int)<(qs.length:Int)
     .go_wp2_with fail
      go_meet
      exact⟨true,rfl,λh=>(by cases h),rfl⟩
     by_cases g4:(20:Int)<(rs.length:Int)
     .go_wp2_with fail
      go_meet
      exact⟨true,rfl,λh=>(by cases h),rfl⟩
     by_cases g5:(20:Int)<(ws.length:Int)
     .go_wp2_with fail
      go_meet
      exact⟨true,rfl,λh=>(by cases h),rfl⟩
     by_cases g6:(10:Int)<(xs.length:Int)
     .go_wp2_with fail
      go_meet
      exact⟨true,rfl,λh=>(by cases h),rfl⟩
     go_wp2_with fail
     go_meet
     exact⟨false,rfl,λ_=>by omega,rfl⟩
    case rest=>
    obtain⟨bv,rfl,C,rfl⟩:=hcut;cases bv with
    |true=>
     go_wp2_with fail
     go_ret
     exact⟨false,rfl,λh=>(by cases h),j.o⟩
    |false=>
     have e:=aP (C.o rfl);have X:ts.length<=12:=e.o.1;have Y:xs.length<=10:=e.o.2.2.2.2.2;clear C;go_wp2_with fail
     go_loopw [5] (λv5 I=>∃k:Nat,v5= .int .i64 k/\k<=ts.length/\aH (∀x∈ts.take k,x.t.se.length<=12)/\I=wc) (λv5 _=>ts.length - (aL v5).toNat)
     case atStart=>exact⟨0,rfl,abX _,λx d=>by simp at d,rfl⟩
     case round=>
      obtain⟨k,rfl,hk,q,rfl⟩:=hrel;have Z:(0:Int)<=k:=aQ;by_cases m:k<ts.length
      .obtain⟨b2,D,rfl,f⟩:=P.o.1.cells m;have p:aH (ts.take (k+1)=ts.take k++ [ts[k]]):=(acL m).symm;generalize ts[k]=tk at *;have d2:=f 2 (.int .i64 tk.t.de) rfl;have d3:=f 3 (.slice tk.A tk.t.se.length tk.c) rfl;have k1:(k:Int)<(ts.length:Int):=aQ;clear f;by_cases s1:(12:Int)<(tk.t.se.length:Int)
       .go_wp2_with fail
        go_ret
        exact⟨false,rfl,λh=>(by cases h),j.o⟩
       .by_cases s2:(600:Int)<tk.t.de
        .by_cases s3:tk.t.de<=(1048576:Int)
         .go_wp2_with fail
          go_ret
          exact⟨false,rfl,λh=>(by cases h),j.o⟩
         .go_wp2_with fail
          exact⟨⟨k+1,rfl,aQ,λx d=>by
           rw[p.o] at d;rcases ab6.1 d with d|d
           .exact q.o x d
           .rw[ab0.1 d];omega,by first|rfl|trivial⟩,by simp only[aL];omega⟩
        .go_wp2_with fail
         exact⟨⟨k+1,rfl,aQ,λx d=>by
          rw[p.o] at d;rcases ab6.1 d with d|d
          .exact q.o x d
          .rw[ab0.1 d];omega,by first|rfl|trivial⟩,by simp only[aL];omega⟩
      .obtain rfl:k=ts.length:=aQ;have J:aH (∀x∈ts,x.t.se.length<=12):=by have:=q.o;rw[adS] at this;exact this
       have k1:¬(ts.length:Int)<(ts.length:Int):=aQ;clear q;go_wp2_with fail
       go_loopw [6] (λv6 I=>∃k:Nat,v6= .int .i64 k/\k<=xs.length/\aH (∀z∈xs.take k,z.xs.length<=60)/\I=wr) (λv6 _=>xs.length - (aL v6).toNat)
       case atStart=>exact⟨0,rfl,abX _,λx d=>by simp at d,rfl⟩
       case round=>
        obtain⟨k,rfl,hk,q,rfl⟩:=hrel;have Z:(0:Int)<=k:=aQ;by_cases m:k<xs.length
        .obtain⟨b2,D,rfl,f⟩:=P.o.2.cells m;have p:aH (xs.take (k+1)=xs.take k++ [xs[k]]):=(acL m).symm;generalize xs[k]=z at *;have d0:=f 0 (.slice z.A z.xs.length z.c) rfl;rw[adQ,acC] at d0;have K:(k:Int)<(xs.length:Int):=aQ;clear f;by_cases s1:(60:Int)<(z.xs.length:Int)
         .go_wp2_with fail
          go_ret
          exact⟨false,rfl,λh=>(by cases h),j.o⟩
         .go_wp2_with fail
          exact⟨⟨k+1,rfl,aQ,λx d=>by
           rw[p.o] at d;rcases ab6.1 d with d|d
           .exact q.o x d
           .rw[ab0.1 d];omega,by first|rfl|trivial⟩,by simp only[aL];omega⟩
        .obtain rfl:k=xs.length:=aQ;have L:aH (∀z∈xs,z.xs.length<=60):=by have:=q.o;rw[adS] at this;exact this
         have K:¬(xs.length:Int)<(xs.length:Int):=aQ;clear q;go_wp2_with fail
         refine⟨⟨i+1,rfl,aQ,aQ,j.o,λa ha=>?_⟩,by simp only[aL];omega⟩;rw[R.o] at ha;rcases ab6.1 ha with ha|ha
         .exact H.o a ha
         .rw[ab0.1 ha];exact⟨e.o.1,e.o.2.1,e.o.2.2.1,e.o.2.2.2.1,e.o.2.2.2.2.1,e.o.2.2.2.2.2,J.o,L.o⟩
   .obtain rfl:i=60:=aQ;have O:(60:Int)<(l.length:Int):=aQ;have E:=aP g.o.1;clear g;go_wp2_with fail
    go_ret
    exact⟨_,rfl,λh=>absurd (adB h) aQ,E.o⟩
  .obtain rfl:i=l.length:=aQ;have O:¬(l.length:Int)<(l.length:Int):=aQ;have T:(l.length:Int)<=60:=aQ;have E:aH (aD w w wr/\∀a∈l,uL a):=by have:=g.o;rw[adS] at this;exact this
   clear g;go_wp2_with fail
   go_ret
   exact⟨_,rfl,λ_=>⟨y,E.o.2⟩,E.o.1⟩
end
end
section
open Go.ChangeShapes Go.WideShapes Go.ChangeAt Go.RowKit Go.Deep Go.Joins Go.Lib dL Fr Up Nt
variable{P:aO}{w:aA}{fs:Array Field}{n sz:Nat}{A:Option aJ}
section
theorem iU{H:Type}{enc0:aN×aC->H}{e:aN}{cs:List aC}{x:DataW H×List MemPlace}(he:P.underlying e=some (.struct fs))(h:DataW.trod enc0 P w 0 (λ_=>true) true n e cs=some x)(j:Nat)(f:Field)(a:fs[j]?=some f)(o k:Nat)(ho:f.offset=o)(hk:P.cellsOf f.type=k):
 ∃(y:DataW H×List MemPlace) (m:Nat),DataW.trod enc0 P w 0 (λ_=>true) true m f.type ((cs.drop o).take k)=some y:=by
 obtain⟨ys,b,c,i,hlen,d,hf⟩:=DataW.trod_struct he h;have h1:=hf j f a;rw[ho,hk] at h1;have g:j<fs.size:=(afD.1 a).1;rw[abL (show j<ys.length by omega)] at h1;exact⟨_,b,h1⟩
theorem Sl.fE{α:Type}{enc:α->List aC}{xs:List α}(h:Sl enc sz w A xs)(he:eW enc sz)(d:0<sz):∀q,kW A xs.length=some q->q<w.heap.size:=λq hq=>by
 unfold kW at hq;split at hq
 .cases hq
 .obtain⟨b,off,a,hc⟩:=h aQ;rw[a] at hq;injection hq with hq;subst hq;have hl:=he.len (xs[0]'(by omega));have h1:=hc 0 (xs[0]'(by omega)) 0 ((enc (xs[0]'(by omega)))[0]'(by omega)) (abL _) (abL _);have c:=World.block_lt_of_cell? w _ h1;exact c
def P4(a:Sc):Prop:=match a with|⟨x0,x1,x2⟩=>(Lit.int .i64 x0).wf=true/\(Lit.int .i64 x1).wf=true/\(Lit.int .i64 x2).wf=true
theorem Re{H:Type}{enc0:aN×aC->H}(cs:List aC)(x:DataW H×List MemPlace)(n:Nat)(e:cs.length=3)
 (h:DataW.trod enc0 prog w 0 (λ_=>true) true n 201 cs=some x):∃a:Sc,cs=lN a/\P4 a:=by
 obtain⟨_,v0,o,m0,j,t0⟩:=mY underlying201 aV aV h 0 _ rfl;obtain⟨_,v1,p,m1,k,t1⟩:=mY underlying201 aV aV h 1 _ rfl;obtain⟨_,v2,q,m2,l,t2⟩:=mY underlying201 aV aV h 2 _ rfl;obtain⟨a0,b,_,f⟩:=DataW.trod_int underlying3 t0;obtain⟨m,c,_,g⟩:=DataW.trod_int underlying3 t1;obtain⟨a2,d,_,i⟩:=DataW.trod_int underlying3 t2;injection b with b;injection c with c;injection d with d;subst b c d;refine⟨⟨a0,m,a2⟩,?_,⟨f,g,i⟩⟩;match cs,e with
 | [q0,q1,q2],_=>
  simp at j k l;subst j k l;rfl
def QH(a:(Int×Int×Int)):Prop:=match a with|⟨x0,x1,x2⟩=>(Lit.int .i64 x0).wf=true/\(Lit.int .i64 x1).wf=true/\(Lit.int .i64 x2).wf=true
theorem Sz{H:Type}{enc0:aN×aC->H}(cs:List aC)(x:DataW H×List MemPlace)(n:Nat)(e:cs.length=3)
 (h:DataW.trod enc0 prog w 0 (λ_=>true) true n 171 cs=some x):∃a:(Int×Int×Int),cs=mC a/\QH a:=by
 obtain⟨_,v0,o,m0,j,t0⟩:=mY underlying171 aV aV h 0 _ rfl;obtain⟨_,v1,p,m1,k,t1⟩:=mY underlying171 aV aV h 1 _ rfl;obtain⟨_,v2,q,m2,l,t2⟩:=mY underlying171 aV aV h 2 _ rfl;obtain⟨a0,b,_,f⟩:=DataW.trod_int underlying3 t0;obtain⟨m,c,_,g⟩:=DataW.trod_int underlying3 t1;obtain⟨a2,d,_,i⟩:=DataW.trod_int underlying3 t2;injection b with b;injection c with c;injection d with d;subst b c d;refine⟨⟨a0,m,a2⟩,?_,⟨f,g,i⟩⟩;match cs,e with
 | [q0,q1,q2],_=>
  simp at j k l;subst j k l;rfl
def PX(a:(Int×Int×Int)):Prop:=match a with|⟨x0,x1,x2⟩=>(Lit.int .i64 x0).wf=true/\(Lit.int .i64 x1).wf=true/\(Lit.int .i64 x2).wf=true
theorem Qx{H:Type}{enc0:aN×aC->H}(cs:List aC)(x:DataW H×List MemPlace)(n:Nat)(e:cs.length=3)
 (h:DataW.trod enc0 prog w 0 (λ_=>true) true n 106 cs=some x):∃a:(Int×Int×Int),cs=mC a/\PX a:=by
 obtain⟨_,v0,o,m0,j,t0⟩:=mY underlying106 aV aV h 0 _ rfl;obtain⟨_,v1,p,m1,k,t1⟩:=mY underlying106 aV aV h 1 _ rfl;obtain⟨_,v2,q,m2,l,t2⟩:=mY underlying106 aV aV h 2 _ rfl;obtain⟨a0,b,_,f⟩:=DataW.trod_int underlying3 t0;obtain⟨m,c,_,g⟩:=DataW.trod_int underlying3 t1;obtain⟨a2,d,_,i⟩:=DataW.trod_int underlying3 t2;injection b with b;injection c with c;injection d with d;subst b c d;refine⟨⟨a0,m,a2⟩,?_,⟨f,g,i⟩⟩;match cs,e with
 | [q0,q1,q2],_=>
  simp at j k l;subst j k l;rfl
section
variable{H:Type}{enc0:aN×aC->H}{w:aA}
theorem Vk(cs:List aC)(x:DataW H×List MemPlace)(n:Nat)(b:cs.length=1)(h:DataW.trod enc0 prog w 0 (λ_=>true) true n 34 cs=some x):∃a:Wd,cs=P5 a/\Sl eU 1 w a.A a.xs/\∀u∈a.xs,0<=u/\u<18446744073709551616:=by
 match cs,b with
 | [v],_=>
  obtain⟨A,xs,c,rfl,_,_,h1,d⟩:=jE (enc:=eU) (λa=>(Lit.int .u64 a).wf=true) underlying34 (show prog.cellsOf 75=1 by kernel_rfl) aQ h (λcs x n hl h=>MO underlying75 cs x n hl h);exact⟨⟨A,c,xs⟩,rfl,h1,λu hu=>by have:=wf_u64 (d u hu);omega⟩
theorem Ui(cs:List aC)(x:DataW H×List MemPlace)(n:Nat)(b:cs.length=5)(h:DataW.trod enc0 prog w 0 (λ_=>true) true n 131 cs=some x):∃a:Tm,cs=pM a/\Sl lN 3 w a.A a.t.se:=by
 obtain⟨l,m0,t0⟩:=iU underlying131 h 0 _ rfl 0 3 rfl aV;obtain⟨m,m1,t1⟩:=iU underlying131 h 1 _ rfl 3 1 rfl aV;obtain⟨o,m2,t2⟩:=iU underlying131 h 2 _ rfl 4 1 rfl aV;match cs,b with
 | [q0,q1,q2,q3,q4],_=>
  simp only[afE,aeY,aeX,afH] at t0 t1 t2;obtain⟨z0,n0,g⟩:=iU underlying122 t0 0 _ rfl 0 1 rfl aV;obtain⟨p,n1,i⟩:=iU underlying122 t0 1 _ rfl 1 1 rfl aV;obtain⟨z2,q,j⟩:=iU underlying122 t0 2 _ rfl 2 1 rfl aV;simp only[afE,aeY,aeX,afH] at g i j;obtain⟨a0,d,_,_⟩:=DataW.trod_int underlying3 g;obtain⟨k,h1,_,_⟩:=DataW.trod_int underlying3 i;obtain⟨a2,e,_,_⟩:=DataW.trod_int underlying3 j;obtain⟨a4,f,_,_⟩:=DataW.trod_int underlying3 t2;injection d with d;injection h1 with h1;injection e with e;injection f with f;subst d h1 e f;obtain⟨A,se,c,rfl,_,_,s1,s2⟩:=jE (enc:=lN) P4 underlying129 (show prog.cellsOf 201=3 by kernel_rfl) aQ t1 Re;exact⟨⟨⟨a0,k,a2,se,a4⟩,A,c⟩,rfl,s1⟩
theorem Vb(cs:List aC)(x:DataW H×List MemPlace)(n:Nat)(f:cs.length=12)(h:DataW.trod enc0 prog w 0 (λ_=>true) true n 44 cs=some x):∃a:Ac,cs=NB a/\rA (λb=>b<w.heap.size) w a:=by
 obtain⟨M,m0,t0⟩:=iU underlying44 h 0 _ rfl 0 1 rfl aV;obtain⟨N,m1,t1⟩:=iU underlying44 h 1 _ rfl 1 1 rfl aV;obtain⟨O,m2,t2⟩:=iU underlying44 h 2 _ rfl 2 1 rfl aV;obtain⟨P,m3,t3⟩:=iU underlying44 h 3 _ rfl 3 2 rfl aV;obtain⟨Q,m4,t4⟩:=iU underlying44 h 4 _ rfl 5 1 rfl aV;obtain⟨R,m5,t5⟩:=iU underlying44 h 5 _ rfl 6 1 rfl aV;obtain⟨S,m6,t6⟩:=iU underlying44 h 6 _ rfl 7 1 rfl aV;obtain⟨T,m7,t7⟩:=iU underlying44 h 7 _ rfl 8 4 rfl aV;match cs,f with
 | [q0,q1,q2,q3,q4,q5,q6,q7,q8,q9,q10,q11],_=>
  simp only[afE,aeY,aeX,afH] at t0 t1 t2 t3 t4 t5 t6 t7;obtain⟨z0,n0,o⟩:=iU underlying32 t3 0 _ rfl 0 1 rfl aV;obtain⟨U,n1,p⟩:=iU underlying32 t3 1 _ rfl 1 1 rfl aV;obtain⟨z2,V,e⟩:=iU underlying42 t7 0 _ rfl 0 3 rfl aV;obtain⟨z3,W,q⟩:=iU underlying42 t7 1 _ rfl 3 1 rfl aV;simp only[afE,aeY,aeX,afH] at o p e q;obtain⟨z4,X,r⟩:=iU underlying39 e 0 _ rfl 0 1 rfl aV;obtain⟨z5,n5,s⟩:=iU underlying39 e 1 _ rfl 1 1 rfl aV;obtain⟨Y,n6,y⟩:=iU underlying39 e 2 _ rfl 2 1 rfl aV;simp only[afE,aeY,aeX,afH] at r s y;obtain⟨a0,g,_,_⟩:=DataW.trod_int underlying3 t0;obtain⟨G,h1,_,_⟩:=DataW.trod_int underlying3 t1;obtain⟨a2,i,_,I⟩:=DataW.trod_int underlying5 t2;obtain⟨a3,j,_,_⟩:=DataW.trod_int underlying3 o;obtain⟨a4,k,_,_⟩:=DataW.trod_int underlying3 p;obtain⟨a5,l,_,w5⟩:=DataW.trod_int underlying5 t5;injection g with g;injection h1 with h1;injection i with i;injection j with j;injection k with k;injection l with l;subst g h1 i j k l;have b2:=wf_u8 I;have Z:=wf_u8 w5;obtain⟨TA,ts,Tc,rfl,_,_,s1,s2⟩:=jE (enc:=pM) (λa=>Sl lN 3 w a.A a.t.se) underlying33 (show prog.cellsOf 131=5 by kernel_rfl) aQ t4 Ui;obtain⟨CA,cs',Cc,rfl,_,_,B,J⟩:=jE (enc:=eU) (λa=>(Lit.int .u64 a).wf=true) underlying34 (show prog.cellsOf 75=1 by kernel_rfl) aQ t6 (λcs x n hl h=>MO underlying75 cs x n hl h);obtain⟨RA,rs,Rc,rfl,_,_,C,s6⟩:=jE (enc:=eI) (λa=>(Lit.int .i64 a).wf=true) underlying35 (show prog.cellsOf 3=1 by kernel_rfl) aQ r (λcs x n hl h=>MO underlying3 cs x n hl h);obtain⟨WA,ws,Wc,rfl,_,_,D,s8⟩:=jE (enc:=mC) QH underlying36 (show prog.cellsOf 171=3 by kernel_rfl) aQ s Sz;obtain⟨XA,xs,Xc,rfl,_,_,E,c⟩:=jE (enc:=P5) (λa=>Sl eU 1 w a.A a.xs/\∀u∈a.xs,0<=u/\u<18446744073709551616) underlying37 (show prog.cellsOf 34=1 by kernel_rfl) aQ y Vk;obtain⟨QA,qs,Qc,rfl,_,_,d,K⟩:=jE (enc:=mC) PX underlying40 (show prog.cellsOf 106=3 by kernel_rfl) aQ q Qx;refine⟨⟨a0,G,a2,a3,a4,TA,Tc,ts,a5,CA,Cc,cs',RA,Rc,rs,WA,Wc,ws,XA,Xc,xs,QA,Qc,qs⟩,rfl,?_⟩;exact⟨s1,s1.fE lL aQ,λx F=>⟨s2 x F,(s2 x F).fE CJ aQ⟩,B,B.fE yG aQ,λv L=>by have:=wf_u64 (J v L);omega,⟨C,C.fE gJ aQ,D,D.fE uP aQ,E,E.fE Qy aQ,λz m=>⟨(c z m).1,(c z m).1.fE yG aQ,(c z m).2⟩⟩,d,d.fE uP aQ,(show 0<=a2/\a2<=255 by omega),(show 0<=a5/\a5<=255 by omega)⟩
end
end
end
section
open Go.RowKit Go.Lib Go.Shelf dL Fr Up Nt
variable{r:Option Nat}{A9 A5 A:Option aJ}{c9 n0 g n:Nat}{co pe de po:Int}{ss:List Sc}
section
structure vP(w0 wr:aA)(N:Nat)(A:Option aJ)(c:Nat)(L:List Tm):Prop where
 o:bI pM 5 wr w0.heap.size 125 A c L
 s:∀x∈L,Sl lN 3 wr x.A x.t.se/\x.t.se.length<=x.c/\∀q,aY x.A=some q->q<N/\∃cs,bE wr q 199 cs
 b:aD w0 w0 wr
 n:w0.heap.size<=N/\N<=wr.heap.size
section
variable{w0 wr w9:aA}{N:Nat}{A:Option aJ}{c:Nat}{L:List Tm}
theorem vP.below(h:vP w0 wr N A c L)(hb:aD wr wr w9):vP w0 w9 N A c L:=
 ⟨h.o.keep hb,λx a=>⟨(h.s x a).1.keep hb,(h.s x a).2.1,λq hq=>⟨((h.s x a).2.2 q hq).1,by obtain⟨cs,h1⟩:=((h.s x a).2.2 q hq).2;exact⟨cs,h1.keep hb⟩⟩⟩,h.b.trans (hb.mono (abT h.n.1 h.n.2)),h.n.1,abT h.n.2 hb.size⟩
theorem vP.up(h:vP w0 wr N A c L):vP w0 wr wr A c L:=
 ⟨h.o,λx a=>⟨(h.s x a).1,(h.s x a).2.1,λq hq=>⟨by obtain⟨cs,h1⟩:=((h.s x a).2.2 q hq).2;exact h1.lt,((h.s x a).2.2 q hq).2⟩⟩,h.b,abT h.n.1 h.n.2,abM _⟩
theorem vP.grown(h:vP w0 wr N A c L)(d:wr.grownBy w9 r)(j:aY A=none\/aY A≠r)(k:∀q,r=some q->w0.heap.size<=q)(hs:∀x∈L,aY x.A=none\/aY x.A≠r):vP w0 w9 N A c L:=
 ⟨h.o.kept d j,λx a=>⟨(h.s x a).1.grown d λg f e=>by
  rcases hs x a with h1|h1
  .rw[h1] at e;cases e
  .exact h1 (e.trans f.symm),(h.s x a).2.1,λq hq=>⟨((h.s x a).2.2 q hq).1,by
  obtain⟨cs,h1⟩:=((h.s x a).2.2 q hq).2;exact⟨cs,h1.grown d λe=>by
   rcases hs x a with i|i
   .rw[i] at hq;cases hq
   .exact i (hq.trans e)⟩⟩⟩,LM h.b d k,h.n.1,abT h.n.2 d.size⟩
theorem vP.app(h:vP w0 wr N A c L){x:Tm}(m:Sl lN 3 wr x.A x.t.se/\x.t.se.length<=x.c/\∀q,aY x.A=some q->q<wr.heap.size/\∃cs,bE wr q 199 cs)(d:bI pM 5 w9 w0.heap.size 125 A9 c9 (L++ [x]))(j:wr.grownBy w9 (aY A)):vP w0 w9 w9 A9 c9 (L++ [x]):=by
 have ne:∀y:Tm,(∀q,aY y.A=some q->∃cs,bE wr q 199 cs)->aY y.A=none\/aY y.A≠aY A:=λy a=>by
  cases hq:aY y.A with
  |none=>exact .inl rfl
  |some q=>
   refine .inr λe=>?_
   obtain⟨cs,h1⟩:=a q hq;obtain⟨cs',f⟩:=qJ h.o q e.symm;exact RE h1 f cE rfl
 have key:∀y:Tm,(Sl lN 3 wr y.A y.t.se/\y.t.se.length<=y.c/\∀q,aY y.A=some q->q<wr.heap.size/\∃cs,bE wr q 199 cs)->Sl lN 3 w9 y.A y.t.se/\y.t.se.length<=y.c/\∀q,aY y.A=some q->q<w9.heap.size/\∃cs,bE w9 q 199 cs:=λy a=>by
  have n1:=ne y λq hq=>(a.2.2 q hq).2
  refine⟨a.1.grown j λg k e=>?_,a.2.1,λq hq=>?_⟩
  .rcases n1 with h1|h1
   .rw[h1] at e;cases e
   .exact h1 (e.trans k.symm)
  .obtain⟨h1,cs,f⟩:=a.2.2 q hq;have i:=f.grown j λe=>by
    rcases n1 with l|l
    .rw[l] at hq;cases hq
    .exact l (hq.trans e)
   exact⟨i.lt,cs,i⟩
 refine⟨d,λy a=>?_,LM h.b j (λq hq=>(h.o.lt q hq).1),abT h.n.1 (abT h.n.2 j.size),abM _⟩;rcases ab6.1 a with a|a
 .obtain⟨h1,f,i⟩:=h.s y a;exact key y ⟨h1,f,λq hq=>⟨abO (i q hq).1 h.n.2,(i q hq).2⟩⟩
 .rw[ab0.1 a];exact key x m
structure M9(w0 wr:aA)(n0 N g:Nat)(B:Option aJ)(d:Nat)(L:List Tm)(co pe de po:Int)(A5:Option aJ)(c5:Nat)(ss:List Sc):Prop where
 t:vP w0 wr n0 B d L
 k:bE wr g 125 #[co,pe,de,(A5,ss.length,c5),po]
 o:bI lN 3 wr N 199 A5 c5 ss
 bB:∀q,aY B=some q->q<n0
 ng:n0<=g/\g<N/\N<=wr.heap.size
theorem M9.below{c5:Nat}(h:M9 w0 wr n0 N g A c L co pe de po A5 c5 ss)(hb:aD wr wr w9):M9 w0 w9 n0 N g A c L co pe de po A5 c5 ss:=
 ⟨h.t.below hb,h.k.keep hb,h.o.keep hb,h.bB,h.ng.1,h.ng.2.1,abT h.ng.2.2 hb.size⟩
theorem M9.app{c5:Nat}{s:Sc}(h:M9 w0 wr n0 N g A c L co pe de po A5 c5 ss)(b:bI lN 3 w9 N 199 A9 c9 (ss++ [s]))(f:wr.grownBy w9 (aY A5))(l:n=(ss++ [s]).length):(∃v,w9.cell? (g,3)=some v)/\w9.frozen? (g,3)=false/\M9 w0 (w9.setCell (g,3) (.slice A9 n c9)) n0 N g A c L co pe de po A9 c9 (ss++ [s]):=by
 have d:∀q,aY A5=some q->N<=q:=λq hq=>(h.o.lt q hq).1
 have m:∀q,aY A9=some q->N<=q:=λq hq=>(b.lt q hq).1
 have ng:=h.ng;have i:bE w9 g 125 _:=h.k.grown f λe=>by have:=d g e.symm;omega
 have t9:vP w0 w9 n0 A c L:=h.t.grown f (by
  cases a:aY A with
  |none=>exact .inl rfl
  |some q=>exact .inr λe=>by have:=h.bB q a;have:=d q e.symm;omega) (λq hq=>by have:=d q hq;have:=h.t.n;omega) (λx j=>by
  cases a:aY x.A with
  |none=>exact .inl rfl
  |some q=>exact .inr λe=>by have:=((h.t.s x j).2.2 q a).1;have:=d q e.symm;omega)
 have gs:w9.grownBy (w9.setCell (g,3) (.slice A9 n c9)) (some g):=aZ (bL _ _) 3 _;refine⟨⟨_,i.cell 3 _ rfl⟩,i.frozen 3,t9.grown gs ?_ (λq hq=>by injection hq with hq;have:=h.t.n;omega) (λx j=>?_),?_,b.kept gs ?_,h.bB,ng.1,ng.2.1,abT (abT ng.2.2 f.size) gs.size⟩
 .cases a:aY A with
  |none=>exact .inl rfl
  |some q=>exact .inr λe=>by injection e with e;have:=h.bB q a;omega
 .cases a:aY x.A with
  |none=>exact .inl rfl
  |some q=>exact .inr λe=>by injection e with e;have:=((h.t.s x j).2.2 q a).1;omega
 .have:=i.cB 3 (.slice A9 n c9);rw[l] at this⊢;exact this
 .cases a:aY A9 with
  |none=>exact .inl rfl
  |some q=>exact .inr λe=>by injection e with e;have:=m q a;omega
theorem vP.Ue(h:vP w0 wr N A c L):sM wr A L:=⟨h.o.sl lL,λx a=>(h.s x a).1,λx a=>(h.s x a).2.1⟩
end
def Wz(ts:List Tm)(w:aA)(r:aM)(w':aA):Prop:=∃(A':Option aJ) (c':Nat) (L:List Tm),r= .returned (.slice A' ts.length c')/\sM w' A' L/\L.map Tm.t=ts.map Tm.t/\aD w w w'
theorem V9{ts:List Tm}(cT:Nat)(w:aA)(h:Sl pM 5 w A ts)(hs:∀x∈ts,Sl lN 3 w x.A x.t.se)(hl:ts.length<=100)(V:∀x∈ts,x.t.se.length<=100):
 aG prog 25 #[(A,ts.length,cT)] w (Wz ts w):=by
 have HS:=bP h hs;have h0:aH (vP w w w none 0 []):=⟨bI.nil _ _ _,λx hx=>(by cases hx),Below.refl _ _,abM _,abM _⟩
 clear h hs;go_enter func25,ntmps25
 go_wp2_with fail
 go_loopw [3,4] (λv3 v4 wr=>∃(i:Nat) (B:Option aJ) (d:Nat),v3= .slice B i d/\v4= .int .i64 i/\i<=ts.length/\aH (∃L,vP w wr wr B d L/\L.map Tm.t=(ts.take i).map Tm.t)) (λ_ v4 _=>ts.length - (aL v4).toNat)
 case atStart=>exact⟨0,none,0,rfl,rfl,abX _, [],h0.o,rfl⟩
 case round=>
  clear h0;obtain⟨i,B,d,rfl,rfl,hi,F⟩:=hrel;obtain⟨L,e,l⟩:=F.o;have G:L.length=i:=by have:=congrArg List.length l;simp at this;omega
  have H:=dH e l G;have i0:(0:Int)<=i:=aQ;by_cases p:i<ts.length
  .have i1:(i:Int)<(ts.length:Int):=aQ;obtain⟨b,off,rfl,hc⟩:=HS.o.1.cells p;have kH:aH (ts.take (i+1)=ts.take i++ [ts[i]]):=(acL p).symm;have M:aH (Sl lN 3 w ts[i].A ts[i].t.se/\ts[i].t.se.length<=100):=⟨HS.o.2 _ (abV p),V _ (abV p)⟩
   generalize ts[i]=x at *;obtain⟨⟨co,pe,de,se,po⟩,xA,xc⟩:=x;have HC:aH (w.cell? (b,off+i *5+3)=some (.slice xA se.length xc)):=hc 3 _ rfl;have c0:wr.cell? (b,off+i *5)=some (.int .i64 co):=bK e.b (hc 0 _ rfl);have c1:wr.cell? (b,off+i *5+1)=some (.int .i64 pe):=bK e.b (hc 1 _ rfl);have c2:wr.cell? (b,off+i *5+2)=some (.int .i64 de):=bK e.b (hc 2 _ rfl);have c4:wr.cell? (b,off+i *5+4)=some (.int .i64 po):=bK e.b (hc 4 _ rfl);have hse1:se.length<=100:=M.o.2;clear hc e l G F;go_upto_region 5 with(fail)
   have r:=bD c0;have u:=bD c1;have y:=bD c2;have z:=bD c4;refine bM (bQ _) (λ_=>bQ) [5] (λ_ v w=>FE (jM c0) 125 #[aU,aU,aU,bH,aU] v w) [12] [] 60 (bZ _) (λ_ _ _ h W=>bV h W) (λ_ d hd _ v w w' _ h W=>h.keep W) aV aV bF ?_;repeat (first|(refine eK ?_)|(refine sC 5 [] bF bF bF bF (λγ w hC e=>?_) ?_;(simp only[cY];go_simp;exact pB (aX w _) ⟨_,rfl,Below.size hC,bE.new w _ _⟩);(try refine dE ?_)))
   refine dI ?_;intro γ w_ hb_ e;clear r u y z;simp only[cY,Act.put,abN,abU,abS];refine dS ?_;obtain⟨g5,e_,O,P⟩:=e 5 aT;simp only[e_];clear e e_;refine iO O hb_ P rfl 125 _ _ rfl #[co,pe,de,bH,po] rfl rfl rfl aV aV ?_;clear O hb_ P;intro w5 Q R;refine cN ?_;simp only[Act.put];have K:aH (M9 w w5 wr w5.heap.size g5 B d L co pe de po none 0 []):=by
    obtain⟨h1,h2⟩:=R;exact⟨H.o.1.below Q,h2,bI.nil _ _ _,λq hq=>(H.o.1.o.lt q hq).2,h1,h2.lt,abM _⟩
   have X:aH (aD w w w5):=K.o.t.b;clear c0 c1 c2 c4 Q R;generalize wr.heap.size=n0 at *;generalize w5.heap.size=N at *;go_wp2_with fail
   go_loopw [6] (λv6 wr=>∃k:Nat,v6= .int .i64 k/\k<=se.length/\aH (∃I c5,M9 w wr n0 N g5 B d L co pe de po I c5 (se.take k))) (λv6 _=>se.length - (aL v6).toNat)
   case atStart=>exact⟨0,rfl,abX _,none,0,K.o⟩
   case round=>
    clear K X;obtain⟨k,rfl,hk,F⟩:=hrel;obtain⟨I,c5,a⟩:=F.o;have K:=aP a;have c3:wr.cell? (b,off+i *5+3)=some (.slice xA se.length xc):=bK a.t.b HC.o;have k0:(0:Int)<=k:=aQ;have C:(se.take k).length=k:=by rw[acQ];omega
    have g3:=a.k.cell 3 (.slice I (se.take k).length c5) rfl;rw[C] at g3;by_cases S:k<se.length
    .have k1:(k:Int)<(se.length:Int):=aQ;obtain⟨b3,f,rfl,D⟩:=(M.o.1.keep a.t.b).cells S;have Y:aH (se.take (k+1)=se.take k++ [se[k]]):=(acL S).symm;generalize se[k]=s at *;obtain⟨lk,fr,up⟩:=s;have s0:wr.cell? (b3,f+k *3)=some (.int .i64 lk):=D 0 _ rfl;have s1:wr.cell? (b3,f+k *3+1)=some (.int .i64 fr):=D 1 _ rfl;have s2:wr.cell? (b3,f+k *3+2)=some (.int .i64 up):=D 2 _ rfl;have T:=aP C;clear D a F C;go_upto_region 10 with(fail)
     have Z:=aP (K.o.below (aX wr (aI #[lk,fr,up] 201)));have U:=bE.new wr 201 #[lk,fr,up];have y0:=U.cell 0 lk rfl;have y1:=U.cell 1 fr rfl;have y2:=U.cell 2 up rfl;have g3':=bK (aX wr (aI #[lk,fr,up] 201)) g3;clear g3 c3 s0 s1 s2 U;generalize wr.alloc (aI #[lk,fr,up] 201)=w8 at *;go_wp2_with(refine bS _ rfl (.tmp 44) (.tmp 52) rfl Vf CJ (base:=N) (xs:=se.take k) (Z.o.o.alloc _) (n:=k) T.o rfl (m:=1) rfl (ys:= [⟨lk,fr,up⟩]) rfl (Sl.fL CJ w8 ⟨lk,fr,up⟩ _ rfl _ aT) dN aQ (abT Z.o.ng.2.2 aT) _ rfl (k+1) rfl ?_;intro A9 c9 w9 g J at9;(obtain⟨b9,f9,HO9⟩:=(Z.o.below (aX w8 (aI #[lk,fr,up] 199))).app g J (n:=k+1) (by rw[ab2,T.o];rfl));obtain⟨b9v,b9⟩:=b9)
     exact⟨⟨k+1,rfl,aQ,A9,c9,by rw[Y.o];exact HO9⟩,by simp only[aL];omega⟩
    .obtain rfl:k=se.length:=aQ;have k1:¬(se.length:Int)<(se.length:Int):=aQ;rw[adS] at a;have E:=aP a;have g0:=a.k.cell 0 co rfl;have g1:=a.k.cell 1 pe rfl;have g2:=a.k.cell 2 de rfl;have g4:=a.k.cell 4 po rfl;clear a K F C;go_wp2_with(refine bS _ rfl (.tmp 55) (.tmp 57) rfl Es lL (base:=w.heap.size) (xs:=L) (E.o.t.o.alloc _) (n:=i) H.o.2.2 rfl (m:=1) rfl (ys:= [⟨⟨co,pe,de,se,po⟩,I,c5⟩]) rfl (Sl.fL lL wr ⟨⟨co,pe,de,se,po⟩,I,c5⟩ _ rfl _ aT) dN aQ (abT E.o.t.n.1 (abT E.o.t.n.2 aT)) _ rfl (i+1) rfl ?_;intro A9 c9 w9 g J at9)
     have j:=E.o.below (aX wr (aI #[co,pe,de, .slice I se.length c5,po] 125));exact⟨⟨i+1,A9,c9,rfl,rfl,aQ,L++ [⟨⟨co,pe,de,se,po⟩,I,c5⟩],j.t.up.app ⟨j.o.sl CJ,j.o.cap,λq hq=>⟨(j.o.lt q hq).2,qJ j.o q hq⟩⟩ g J,by rw[kH.o,afA,afA,H.o.2.1];rfl⟩,by simp only[aL];omega⟩
  .obtain rfl:i=ts.length:=aQ;have i1:¬(ts.length:Int)<(ts.length:Int):=aQ;clear e l G F;go_wp2_with fail
   go_ret
   have h1:=H.o.2.1;rw[adS] at h1;exact⟨B,d,L,rfl,H.o.1.Ue,h1,H.o.1.b⟩
end
theorem Nj(e:Int)(w:aA):aG prog 19 #[e] w λr w'=>r= .returned (.bool (decide (0<=e/\e<4)))/\w=w':=by
 by_cases h1:0<=e
 .by_cases a:e<4
  .have hd:decide (0<=e/\e<4)=true:=acB ⟨h1,a⟩;rw[hd];go_enter func19,ntmps19
   go_wp2_with fail
   go_ret
   exact⟨rfl,rfl⟩
  .have hd:decide (0<=e/\e<4)=false:=ab4 λh=>a h.2
   rw[hd];go_enter func19,ntmps19
   go_wp2_with fail
   go_ret
   exact⟨rfl,rfl⟩
 .have hd:decide (0<=e/\e<4)=false:=ab4 λh=>h1 h.1
  rw[hd];go_enter func19,ntmps19
  go_wp2_with fail
  go_ret
  exact⟨rfl,rfl⟩
theorem KF(w:aA)(c:Int)(hc:1<=c/\c<=64):aG prog 8 #[c] w λe w'=>∃hb m g p0,e= .returned (.pointer (some ⟨hb,0,none⟩))/\bY (λb=>b<w.heap.size) w' hb m g c (oP p0) sI/\aD w w w':=by
 have h:=aP (Dx w c hc);go_enter func8,ntmps8
 go_wp2_with fail
 refine aR h ?_;rintro r u ⟨hb,m,g,p0,rfl,f,d⟩;have c0:=f.c0;unfold pA at c0;obtain⟨G,a,hk,d0,_⟩:=f.kn;have i:=hk.pf;have j:=hk.pt;have k:=hk.pc;have l:=hk.pi;have n:=hk.pr;have p:=hk.pb;have q:=hk.ps;unfold pA at i j k l n p q;have s:=bP f d;clear f d hk h;go_wp2_with(first|(go_at_call 10;(refine aS (AP c0) ?_);rintro x t ⟨rfl,rfl⟩)|(go_at_call 11;(refine aS (lR d0) ?_);rintro x t ⟨rfl,rfl⟩))
 go_ret
 exact⟨hb,m,g,p0,rfl,s.o⟩
end
end Go.Proofs.YtacgiflhgdaeaaaGreat
