/- Texts laid as one. -/
import Derived.Test.YtacgiflhgdaeaaaGreatAZ17
import Derived.Test.YtacgiflhgdaeaaaGreatAZ20
set_option linter.unusedVariables false
set_option linter.unusedSimpArgs false
set_option maxRecDepth 100000
set_option maxHeartbeats 20000000
namespace Go.Proofs.YtacgiflhgdaeaaaGreat
open Go.Proofs.Tryz
open Go renaming World->aA,Addr->aJ,Calls->aG
open Go.RowKit renaming Below->aD,Hid->aH,intOf->aL
open Go.Obj renaming cells->aI
section
open Go.RowKit Go.Lib Go.Shelf
variable{F:Nat->Prop}{w wr w5 w9:aA}{g n c9:Nat}{A A5 A9:Option aJ}{D5:List Du}{y5:Wa}
section
def DX(g:Nat)(w:aA):Int:=aL ((w.cell? (g,1)).getD undef)
theorem dG.DX{y:Wa}(h:dG F w g n y):DX g w=y.nw:=by
 unfold Go.Proofs.YtacgiflhgdaeaaaGreat.DX;rw[h.c1];rfl
def US(F:Nat->Prop)(g n:Nat)(w:aA)(e:Ending)(w':aA):Prop:=∃(A:Option aJ) (c:Nat) (D:List Du) (E:Int),e= .returned (.tuple #[(A,D.length,c),E])/\D.length<=1048576000000/\(∀d∈D,0<=d.wh/\d.wh<4)/\bI uB 3 w' w.heap.size 274 A c D/\(∃y',dG (cE F A) w' g n y')/\Kp F w w'
structure N7(F:Nat->Prop)(w wr:aA)(g n:Nat)(A:Option aJ)(c:Nat)(D:List Du)(y:Wa):Prop where
 o:bI uB 3 wr w.heap.size 274 A c D
 d:∀d∈D,0<=d.wh/\d.wh<4
 m:dG (cE F A) wr g n y
 k:Kp F w wr
 l:(D.length:Int)<=y.nw *1000000
theorem N7.app{c:Nat}{D:List Du}{y:Wa}(h:N7 F w wr g n A c D y)(fl:Ol F w)(v:n<=1000000)(hl:D5.length<=n)(hd:∀d∈D5,0<=d.wh/\d.wh<4)(m:dG (cE (cE F A) A5) w5 g n y5)(i:y5.nw=y.nw+1)(p:Kp (cE F A) wr w5)
 (a:bI uB 3 w9 w.heap.size 274 A9 c9 (D++D5)) (r:w5.grownBy w9 (aY A)) (ha:aY A9=aY A\/aY A9=some w5.heap.size):N7 F w w9 g n A9 c9 (D++D5) y5:=by
 have s:dG (cE F A) w5 g n y5:=m.less (λb hb=> .inl hb);have j:Kp F w w5:=h.k.trans (p.mono λb hb=> .inl hb);obtain⟨t,u⟩:=dN.app (BJ g n y5) s (fl.kp j) (λb hb e=>by have:=(h.o.lt b e).1;have:=fl b hb;omega) r ha (λq hq=>(a.lt q hq).2);refine⟨a,λx f=>?_,t,j.trans u,?_⟩
 .rcases aaO.1 f with f|f
  .exact h.d x f
  .exact hd x f
 .have:=h.l;rw[aaM,i];omega
theorem Db{y:Wa}(h:dG F w g n y)(L:n<=1000000)(tt:Int):aG prog 106 #[.pointer g,tt] w (US F g n w):=by
 have c0:=h.c0;have c1:=h.c1;have hnw:=h.i.nw;have O:aH (US F g n w (.returned (.tuple #[bH, .int .i64 1])) w):=⟨none,0, [],1,rfl,aaH _,λd hd=>(by cases hd),bI.nil _ _ _,⟨y,h.less (λb hb=>by rcases hb with hb|hb;exact hb;cases hb)⟩,Kp.refl _ _⟩
 by_cases h1:tt<y.nw
 .generalize y.nw=nw at *;clear h L;go_enter func106,ntmps106
  go_wp2_with fail
  go_ret2
  exact O.o
 by_cases z:1048576<tt
 .generalize y.nw=nw at *;clear h L;go_enter func106,ntmps106
  go_wp2_with fail
  go_ret2
  exact O.o
 have Q:=aP L;have HF:=aP h.fl;have HQ:aH (N7 F w w g n none 0 [] y):=⟨bI.nil _ _ _,λd hd=>(by cases hd),h.less (λb hb=>by rcases hb with hb|hb;exact hb;cases hb),Kp.refl _ _,by simp only[abM];omega⟩
 have R:0<=tt/\tt<=1048576:=aQ;clear O L h;have HY:aH (∃B,N7 F w w g n none 0 [] B):=⟨y,HQ.o⟩
 generalize y.nw=nw at *;clear HQ;go_enter func106,ntmps106
 go_wp2_with fail
 go_loopw [6] (λv6 wr=>∃(m c:Nat) (A:Option aJ) (D:List Du),v6= .slice A m c/\aH (m=D.length/\∃B,N7 F w wr g n A c D B)) (λ_ wr=>(tt - DX g wr).toNat)
 case atStart=>exact⟨0,0,none, [],rfl,rfl,HY.o⟩
 case round=>
  clear HY c0 c1 h1 z;obtain⟨m,c,A,D,rfl,a⟩:=hrel;obtain⟨s,B,p⟩:=a.o;clear a;have a:=bN s p;have c1:=p.m.c1;have c3:=p.m.c3;have E:=p.m.DX;have hb:=p.m.i.nw;have hl:=p.l;rw[<-s] at hl;obtain⟨ln,hlen,_⟩:=Ei (P:=prog) underlying335 p.m.mp 3;obtain⟨M,j⟩:∃v,v=B.nw:=⟨_,rfl⟩
  have G:=aP j;have S:aH (DX g wr=M):=E.trans j.symm;rw[<-j] at c1 hb hl;clear p E j s;have hml:(m:Int)<=1048576000000:=aQ;have t:aH (US F g n w (.returned (.tuple #[(A,m,c),aU])) (wr.setCell (g,1) tt)):=by
   obtain⟨h1,z⟩:=a.o.2.m.O0 R;refine⟨A,c,D,0,by rw[a.o.1],?_,a.o.2.d,a.o.2.o.kp z (λq hq=> .inr hq),⟨_,h1⟩,a.o.2.k.trans (z.mono λb hb=> .inl hb)⟩;rw[<-a.o.1];omega
  have f1:=a.o.2.m.fz 1;by_cases hlt:M<tt
  .by_cases hp:0<ln
   .have T:(0:Int)<(ln:Int):=aQ;have HT:aH (aG prog 144 #[.pointer g] wr λe w'=>∃(u:Option aJ) (c5 m5:Nat) (f:List Du),e= .returned (.slice u m5 c5)/\m5<=1000000/\aH (m5=f.length/\f.length<=n/\(∀d∈f,0<=d.wh/\d.wh<4)/\bI uB 3 w' wr.heap.size 274 u c5 f/\(∃N,dG (cE (cE F A) u) w' g n N/\N.nw=B.nw+1)/\Kp (cE F A) wr w')):=(YZ a.o.2.m Q.o (by rw[<-G.o];omega)).mono (by
     rintro e w' ⟨u,c5,f,rfl,h1,z,h3,h4,U⟩;exact⟨u,c5,f.length,f,rfl,aaC h1 Q.o,rfl,h1,z,h3,h4,U⟩)
    have V:aH (w.heap.size<=wr.heap.size):=a.o.2.k.size;clear t f1;go_upto_region 7 with(fail)
    clear c1 c3 hlen hp T;go_wp2_with fail
    refine aR HT ?_;rintro e w5 ⟨u,c5,m5,f,rfl,hm5,C⟩;have W:aH (bI uB 3 w5 w.heap.size 274 A c D):=a.o.2.o.kp C.o.2.2.2.2.2 (λq hq=> .inr hq);have X:aH (Sl uB 3 w5 u f):=C.o.2.2.2.1.sl rD;have Y:aH (w.heap.size<=w5.heap.size):=aaC V.o C.o.2.2.2.2.2.size;clear HT;go_wp2_with(at_builtin;refine bP _ rfl _ _ rfl Sg rD W.o (n:=m) a.o.1.symm rfl (m:=m5) rfl (ys:=f) C.o.1.symm X.o dI aQ Y.o _ rfl (m+m5) rfl ?_;intro Z c9 w9 r H I)
    have HL:aH (m+m5=(D++f).length):=by
     unfold aH;rw[aaM,<-a.o.1,<-C.o.1]
    have J:aH (∃x,N7 F w w9 g n Z c9 (D++f) x/\x.nw=M+1):=by
     obtain⟨_,hl5,hd5,_,⟨N,U,n5⟩,k5⟩:=C.o;exact⟨N,a.o.2.app HF.o Q.o hl5 hd5 U n5 k5 r H I,by rw[n5,G.o]⟩
    clear r H I;have HN9:aH (DX g w9=M+1):=by
     obtain⟨x,h9,e9⟩:=J.o;exact h9.m.DX.trans e9
    have K:aH (∃x,N7 F w w9 g n Z c9 (D++f) x):=by
     obtain⟨x,h9,_⟩:=J.o;exact⟨x,h9⟩
    go_roundw
    case rel=>exact⟨m+m5,c9,Z,D++f,rfl,HL.o,K.o⟩
    case measure=>
     rw[HN9.o,S.o];omega
   .have hp0:ln=0:=aQ;subst hp0;clear hp hb hl;go_wp2_with fail
    go_ret2
    exact t.o
  .clear hb hl;go_wp2_with fail
   go_ret2
   exact t.o
def RZ(nw:Int)(M:Nat):Wa:=⟨nw,0,M,λ_=>none,List.replicate 256 ⟨none,0, []⟩⟩
theorem Ii(n:Nat):iA (List.replicate n ⟨none,0, []⟩)=0:=by
 induction n with
 |zero=>rfl
 |succ n a=>
  rw[List.replicate_succ];unfold iA at a⊢;rw[List.map_cons,List.sum_cons,a];rfl
theorem dG.new(hF:Ol F w){M:Nat}{nw:Int}(c:0<=nw/\nw<=1048576)(f:iG zL w M (λ_=>none))(h:bF w g 339 (vB (RZ nw M)).toArray)(a:g≠M)(j:¬F M)(ng:¬F g):dG F w g 0 (RZ nw M):=by
 refine⟨⟨λb=>if b=g then 1 else if b=M then 2 else 0,λb hb=>⟨hF b hb,?_⟩,λi p hp=>?_⟩,⟨c,⟨ab3 _,ab3 _⟩,(by unfold RZ;exact acN),aeO (Ii 256),λx d k=>by cases k⟩⟩
 .simp only;rw[aaA (λe=>ng (by rw[<-e];exact hb)),aaA (λe=>j (by rw[<-e];exact hb))]
 .unfold RG at hp;match i,hp with
  |0,hp=>
   simp at hp;subst hp;exact⟨h,Fo.ol _ _ _,λhf=>hf.2 aT⟩
  |1,hp=>
   simp at hp;subst hp;refine⟨f,Fo.ol _ _ _,λhf=>hf.2 ?_⟩;show(if M=g then 1 else if M=M then 2 else 0)=2;rw[aaA (acT a),Zz rfl]
  |i+2,hp=>
   rw[aaJ aT] at hp;simp only[RZ,List.map_replicate,aa9,abM,adE] at hp;split at hp
   .injection hp with hp;subst hp;exact gP.nil (Fo.ol _ _ _)
   .cases hp
theorem Ms(M:Nat):((zeroCells339.setIfInBounds 0 (.bool true)).setIfInBounds 1 (.int .i64 0)).setIfInBounds 3 (.map (some M))=(vB (RZ 0 M)).toArray:=aV
theorem Hw(w:aA):aG prog 140 #[aU] w λe w'=>∃g,e= .returned (.tuple #[.pointer (some ⟨g,0,none⟩),aU])/\w.heap.size<=g/\BM (λb=>b<w.heap.size) w' g 0/\aD w w w':=by
 have d:= @run_makeMap prog;go_enter func140,ntmps140
 go_wp2_with fail
 go_ret2
 rw[Ms];have a:=aX w (Obj.map #[] 0);have hb:=a.alloc a.size (aI (vB (RZ 0 w.heap.size)).toArray 339);have f:(w.alloc (Obj.map #[] 0)).heap.size=w.heap.size+1:=aT;refine⟨w.heap.size+1,rfl,abP _,⟨RZ 0 w.heap.size,dG.new (λb c=>Zy c hb.size) ⟨ab3 _,cC⟩ ((iG.new w zL).keep (aX _ _)) (bF.fI _ _ _ f) aQ (abX _) aQ⟩,hb⟩
end
end
section
open Go.RowKit Go.Lib Go.Shelf dF Fr Up Nt
variable{F:Nat->Prop}{w:aA}{g q:Nat}{a:Ka}{k k1 k2 k':Kv}
section
section
variable{F:Nat->Prop}{w w':aA}{g:Nat}{a:Ka}{k:Kv}
theorem bQ.Ys(h:bQ F w g a k):∃G,BM G w a.gw k.n/\(∀(n:Nat) (w':aA) (A:Option aJ),(∀q,Go.Proofs.YtacgiflhgdaeaaaGreat.aY A=some q->w.heap.size<=q)->BM (cE G A) w' a.gw n->Ol (cE G A) w'->Kp G w w'->bQ (cE F A) w' g a {k with n:=n}/\Kp F w w'):=by
 obtain⟨G,d,back⟩:=h.o.MD 8 _ rfl;exact⟨G,d,λn w' A c b fl k'=>⟨⟨(back (Q1 a.gw n) w' _ c b fl k').1,h.al,h.bd,h.ln,h.pp⟩,(back (Q1 a.gw n) w' _ c b fl k').2⟩⟩
theorem bQ.Ze(h:bQ F w g a k):∃G,uZ G w a.gb k.b k.v/\(∀(b:List Nt) (v:List Vc) (w':aA) (A:Option aJ),(∀q,Go.Proofs.YtacgiflhgdaeaaaGreat.aY A=some q->w.heap.size<=q)->uZ (cE G A) w' a.gb b v->Ol (cE G A) w'->Kp G w w'->bQ (cE F A) w' g a {k with b:=b,v:=v}/\Kp F w w'):=by
 obtain⟨G,e,back⟩:=h.o.MD 6 _ rfl;exact⟨G,e,λb v w' A d c fl k'=>⟨⟨(back (TK a.gb b v) w' _ d c fl k').1,h.al,h.bd,h.ln,h.pp⟩,(back (TK a.gb b v) w' _ d c fl k').2⟩⟩
end
theorem Dh(h:bQ F w g a k)(e:k.n<=1000000)(tt:Int):aG prog 106 #[.pointer a.gw,tt] w λr w'=>∃(A:Option aJ) (c n:Nat) (D:List Du) (E:Int),r= .returned (.tuple #[(A,n,c),E])/\n<=1048576000000/\aH (n=D.length/\(∀d∈D,0<=d.wh/\d.wh<4)/\bI uB 3 w' w.heap.size 274 A c D/\bQ (cE F A) w' g a k/\Kp F w w'):=by
 obtain⟨G,⟨y,f⟩,back⟩:=h.Ys;refine(Db f e tt).mono ?_;rintro r w' ⟨A,c,D,E,rfl,hl,hd,ho,⟨i,b⟩,k2⟩;obtain⟨b1,b2⟩:=back k.n w' A (λq hq=>(ho.lt q hq).1) ⟨i,b⟩ b.fl k2;exact⟨A,c,D.length,D,E,rfl,hl,rfl,hd,ho,b1,b2⟩
theorem Z7(h:bQ F w g a k)(hw:KW k)(now:Int):aG prog 107 #[.pointer a.gb,now] w λr w'=>∃(O:Option aJ) (d n:Nat) (T:List Nt),r= .returned (.slice O n d)/\n<=500/\aH (n=T.length/\T.Perm (lO 0 (k.b.filter λx=>decide (x.dD<=now)))/\bI jM 3 w' w.heap.size 96 O d T/\bQ (cE F O) w' g a {k with b:=k.b.filter λx=>decide (now<x.dD),v:=T.foldl mQ k.v}/\Kp F w w'):=by
 obtain⟨G,e,back⟩:=h.Ze;refine(ZY now e (by have:=hw.b;omega) hw.be).mono ?_;rintro r w' ⟨O,d,T,rfl,ho,hp,c,f⟩;have fl:Ol (cE G O) w':=by
  obtain⟨_,_,_,fl,_⟩:=c;exact fl
 obtain⟨b1,b2⟩:=back _ _ w' O (λq hq=>(ho.lt q hq).1) c fl f;refine⟨O,d,T.length,T,rfl,?_,rfl,hp,ho,b1,b2⟩;rw[hp.length_eq,zU];have:=ac9 (λx:Nt=>decide (x.dD<=now)) k.b;have:=hw.b;omega
def yN(q:Nat)(w:aA):Nat:=(match w.cell? (q,2) with|some (.bool true)=>0|_=>1)+(match w.cell? (q,6) with|some (.bool true)=>0|_=>1)
theorem Lv{L:List Ln}(h:Ir F w g q L)(hl:L.length=2):yN q w=BS L:=by
 match L,hl,h with
 | [x,y],_,h=>
  have b:=(h.at_ (i:=0) aT).2.2.1;have h1:=(h.at_ (i:=1) aT).2.2.1;simp only[adO,aa8,adP,abL,abG] at b h1;unfold yN BS;rw[b,h1];obtain⟨e,f,c,j⟩:=x;obtain⟨l,m,d,n⟩:=y;cases c <;> cases d <;> rfl
theorem bQ.yN(h:bQ F w g a k):yN a.iq w=BS a.ln:=by
 obtain⟨G,b,_⟩:=h.ir;exact Lv b h.ln
theorem Eo(h:bQ F w g a k):aG prog 109 #[.pointer a.gi] w λr w'=>∃(i:Int) (b:Bool) (L:List Ln),r= .returned (.tuple #[i,b])/\aH (bQ F w' g {a with ln:=L} k/\Kp F w w'/\(b=true->BS L<BS a.ln)):=by
 obtain⟨G,d,back⟩:=h.ir;refine(Hi d).mono ?_;rintro r w' ⟨L,hl,e,f,j⟩;obtain⟨b1,b2⟩:=back L w' hl e f;rcases j with⟨i,_,rfl,c⟩|rfl
 .exact⟨i,true,L,rfl,b1,b2,λ_=>c⟩
 .exact⟨0,false,L,rfl,b1,b2,λh=>by cases h⟩
theorem KW.tell(h:KW k)(e:Int):KW (dL k e):=by
 unfold dL;split
 .refine⟨h.t,h.b,h.cn,?_,h.be,h.n⟩;show gQ (jY k.s e true);unfold jY;split
  .exact h.sd.EE _ _
  .exact h.sd
 .exact h
theorem KW.nF(h:KW k)(l:List Int):KW (dQ k l):=by
 induction l generalizing k with
 |nil=>exact h
 |cons e l b=>exact b (h.tell e)
theorem XJ(k:Kv)(e:Int):(dL k e).c=k.c/\(dL k e).f=k.f/\(dL k e).t=k.t/\(dL k e).b=k.b/\(dL k e).v=k.v/\(dL k e).n=k.n:=by
 unfold dL;split <;> exact⟨rfl,rfl,rfl,rfl,rfl,rfl⟩
theorem AI(l:List Int):∀k:Kv,(dQ k l).c=k.c/\(dQ k l).f=k.f/\(dQ k l).t=k.t/\(dQ k l).b=k.b/\(dQ k l).v=k.v/\(dQ k l).n=k.n:=by
 induction l with
 |nil=>intro k;exact⟨rfl,rfl,rfl,rfl,rfl,rfl⟩
 |cons e l d=>
  intro k;obtain⟨h,a2,a3,a4,a5,i⟩:=d (dL k e);obtain⟨b1,b2,b3,j,m,o⟩:=XJ k e;exact⟨h.trans b1,a2.trans b2,a3.trans b3,a4.trans j,a5.trans m,i.trans o⟩
theorem GK(k:Kv)(l:List Int)(e:Int):dQ k (l++ [e])=dL (dQ k l) e:=by
 unfold dQ;rw[acC];rfl
theorem KW.over(h:KW k)(p:Nt->Bool)(v:List Vc):KW {k with b:=k.b.filter p,v:=v}:=
 ⟨h.t,aaC (ac9 _ _) h.b,h.cn,h.sd,λx c=>h.be x (abZ.1 c).1,h.n⟩
theorem kA.snoc{x:Nt}{l:List Nt}(r:kA l k k1)(t:nH x.dM x.eY k1 k2):kA (l++ [x]) k (dL k2 x.dM):=by
 induction r with
 |nil _=>exact .cons t (.nil _)
 |cons r1 _ b=>exact .cons r1 (b t)
theorem kA.kw{l:List Nt}(r:kA l k k')(h:KW k):KW k':=by
 induction r with
 |nil _=>exact h
 |cons r1 _ b=>exact b ((r1.kw h).tell _)
end
section
theorem SE{a:Ka}(h:bQ F w g a k)(hw:KW k)(hn:k.n<=1000000):aG prog 76 #[.pointer g] w λr w'=>∃k',kQ k k'/\gJ F g k' (.tuple #[]) w r w':=by
 have hnw:=hw.sd.nw;have ps:=h.ps;have pw:=h.pw;unfold pA at ps pw;obtain⟨G,hs,_⟩:=h.sd;have N:=vR hs;have HA:=Dh h hn k.s.nw;have HW:=aP hw;have HR:aH (∀(l1 l:List Int) (T:List Nt) (I:Kv),T.Perm (lO 0 (k.b.filter λx=>decide (x.dD<=k.s.nw)))->kA T {dQ k l1 with b:=k.b.filter λx=>decide (k.s.nw<x.dD),v:=T.foldl mQ k.v} I->kQ k (dQ I l)):=λl1 l T I h1 t=>⟨l1,l,T,I,h1,t,rfl⟩
 generalize k.s.nw=nw at *;have N:=aP N;have HA:=aP HA;have hwr:IntKind.u64.wrap nw=nw:=by rw[IntKind.wrap_u64];omega
 clear h hs hw;go_enter func76,ntmps76
 go_wp2_with fail
 refine aR N ?_;rintro r w1 ⟨rfl,rfl⟩;go_wp2_with fail
 refine aR HA ?_;rintro r w2 ⟨A,c,n,D,E,rfl,hn5,HD⟩;clear N HA ps pw;go_wp2_with fail
 go_loopw [29] (λa6 wr=>∃i:Nat,a6= .int .i64 i/\i<=n/\aH (∃l1,KM (cE F A) wr g (dQ k l1)/\Kp (cE F A) w2 wr)) (λa6 _=>n - (aL a6).toNat)
 case atStart=>exact⟨0,rfl,aaH _, [],⟨a,HD.o.2.2.2.1⟩,Kp.refl _ _⟩
 case round=>
  obtain⟨i,rfl,hi,HX⟩:=hrel;obtain⟨l1,⟨a1,h1⟩,hK⟩:=HX.o;by_cases J:i<n
  .have f:i<D.length:=by rw[<-HD.o.1];exact J
   have K:=HD.o.2.2.1.kp hK (λq hq=> .inr hq);obtain⟨q,rfl⟩:∃q,A=some ⟨q,0,none⟩:=by
    rcases K.shape with⟨_,t,_⟩|t
    .rw[t] at f;simp at f
    .exact t
   have e0:=bM rD K f (j:=0) (v:= .int .i64 D[i].at_) rfl;have e1:=bM rD K f (j:=1) (v:= .int .i64 D[i].hd) rfl;have e2:=bM rD K f (j:=2) (v:= .int .i64 D[i].wh) rfl;rw[aaU] at e0;have hwh:=HD.o.2.1 D[i] (aaF f);have i0:(0:Int)<=i:=aQ;have i1:(i:Int)<(n:Int):=aQ;generalize D[i]=d at *;obtain⟨S,dh,dw⟩:=d;simp only at e0 e1 e2 hwh;obtain⟨u,rfl⟩:=aaB hwh.1;have u8:(u:Int)<8:=aQ;have P:=bF.new wr 274 #[S,dh,u];have H3:=aP (And.intro ((bQ.cD g a1 (dQ k l1)).box h1 h1.fl (aI #[S,dh,u] 274)) (hK.trans (h1.below (aX wr (aI #[S,dh,u] 274))).2));clear h1 hK K HX hwh;go_upto_region 6 with(fail)
   generalize wr.alloc (aI #[S,dh,u] 274)=w3 at *;generalize wr.heap.size=q3 at *;have x0:=P.cell 0 S rfl;have x2:=P.cell 2 u rfl;obtain⟨v0,z0⟩:=H3.o.1.p7 (i:=u) aQ;have f0:=H3.o.1.fz (11+u);have hne:q3≠g:=λe=>by
    obtain⟨ow,U⟩:=H3.o.1.o;have V:=(U.get 0 (p:=PB g 64 (kL a1).toArray) rfl).nf;have:=U.1 q3 (.inr rfl);rw[e] at this;exact V ⟨this.1,by rw[this.2];decide⟩
   clear e0 e1 e2;go_region_held3 (λW=>W.cell? (q3,2)=some (.int .i64 u)) (first|with_reducible assumption|exact(dJ hne).trans x2|exact x2|fail) (fail)
   have B:aH (∃a4,bQ (Fb (cE F (some ⟨q,0,none⟩)) q3) (w3.setCell (g,11+u) (.int .i64 0)).drew g a4 (dQ k l1)/\Kp (cE F (some ⟨q,0,none⟩)) w2 (w3.setCell (g,11+u) (.int .i64 0)).drew/\bF (w3.setCell (g,11+u) (.int .i64 0)).drew q3 274 #[S,dh,u]):=by
    obtain⟨⟨a4,U⟩,k4⟩:=H3.o.1.store (11+u) aQ 0;have hd:=U.below (Below.refl _ _).drew;exact⟨a4,hd.1,(H3.o.2.trans (k4.mono λb hb=> .inl hb)).drew,k4.aY P (.inr rfl)⟩
   generalize (w3.setCell (g,11+u) (.int .i64 0)).drew=w4 at *;obtain⟨a4,U⟩:=B.o;have B:=aP U;have xb4:=U.2.2;clear U P H3 z0 f0 x0 x2 hne;have x0:=xb4.cell 0 S rfl;have x2:=xb4.cell 2 u rfl;have X:=aP (tO B.o.1 (HW.o.nF l1).p8 u 1 0 (IntKind.u64.wrap S) aQ);clear xb4;go_wp2_with fail
   refine aR X ?_;rintro r w5 ⟨v5,rfl,V,k5⟩;have HE:aH (∃l1,KM (cE F (some ⟨q,0,none⟩)) w5 g (dQ k l1)/\Kp (cE F (some ⟨q,0,none⟩)) w2 w5):=⟨l1++ [(u:Int)],⟨a4,by rw[GK];exact V.less (λb hb=> .inl hb)⟩,B.o.2.1.trans (k5.mono λb hb=> .inl hb)⟩
   clear V k5 X B x0 x2;go_wp2_with fail
   go_roundw
   case rel=>exact⟨i+1,by go_num,aQ,HE.o⟩
   case measure=>simp[aL];omega
  .obtain rfl:i=n:=aQ;have i1:¬(i:Int)<(i:Int):=aQ;have H5:aH (bQ F wr g a1 (dQ k l1)/\Kp F w wr):=⟨h1.less (λb hb=> .inl hb),HD.o.2.2.2.2.trans (hK.mono λb hb=> .inl hb)⟩
   clear h1 hK HX hi J;have pb:=H5.o.1.pb;unfold pA at pb;have HO:=aP (Z7 H5.o.1 (HW.o.nF l1) nw);clear HD;go_wp2_with fail
   refine aR HO ?_;rintro r w6 ⟨O,d,m,T,rfl,hm5,X⟩;clear HO pb;have y:aH (m=T.length/\T.Perm (lO 0 (k.b.filter λx=>decide (x.dD<=nw)))/\bI jM 3 w6 wr.heap.size 96 O d T/\bQ (cE F O) w6 g a1 {dQ k l1 with b:=k.b.filter λx=>decide (nw<x.dD),v:=T.foldl mQ k.v}/\Kp F wr w6):=by
    have:=X.o;rw[(AI l1 k).2.2.2.1,(AI l1 k).2.2.2.2.1] at this;exact this
   clear X;have Q:aH (KW {dQ k l1 with b:=k.b.filter λx=>decide (nw<x.dD),v:=T.foldl mQ k.v}):=by
    have:=(HW.o.nF l1).over (λx=>decide (nw<x.dD)) (T.foldl mQ k.v);rw[(AI l1 k).2.2.2.1] at this;exact this
   obtain⟨Y,hkO⟩:∃Y,Y={dQ k l1 with b:=k.b.filter λx=>decide (nw<x.dD),v:=T.foldl mQ k.v}:=⟨_,rfl⟩
   have HR2:aH (∀(l:List Int) (I:Kv),kA T Y I->kQ k (dQ I l)):=λl I ho=>HR.o l1 l T I y.o.2.1 (by rw[<-hkO];exact ho)
   rw[<-hkO] at y Q;clear hkO HR;go_wp2_with fail
   go_loopw [55] (λv55 wz=>∃i:Nat,v55= .int .i64 i/\i<=m/\aH (∃z,kA (T.take i) Y z/\KM (cE F O) wz g z/\Kp (cE F O) w6 wz)) (λv55 _=>m - (aL v55).toNat)
   case atStart=>exact⟨0,rfl,aaH _,Y, .nil _,⟨a1,y.o.2.2.2.1⟩,Kp.refl _ _⟩
   case round=>
    obtain⟨j,rfl,hj,HX⟩:=hrel;obtain⟨z,H,⟨a2,t⟩,hK⟩:=HX.o;by_cases J:j<m
    .have f:j<T.length:=by rw[<-y.o.1];exact J
     have K:=y.o.2.2.1.kp hK (λq hq=> .inr hq);obtain⟨q,rfl⟩:∃q,O=some ⟨q,0,none⟩:=by
      rcases K.shape with⟨_,t,_⟩|t
      .rw[t] at f;simp at f
      .exact t
     have e0:=bM jO K f (j:=0) (v:= .int .i64 T[j].dM) rfl;have e1:=bM jO K f (j:=1) (v:= .int .i64 T[j].eY) rfl;have e2:=bM jO K f (j:=2) (v:= .int .i64 T[j].dD) rfl;rw[aaU] at e0;have htk:aH (T.take (j+1)=T.take j++ [T[j]]):=by unfold aH;rw[abE,Zv f];rfl
     have j0:(0:Int)<=j:=aQ;have j1:(j:Int)<(m:Int):=aQ;have C:aH (KW z):=H.kw Q.o;have M:=aP H;generalize T[j]=x at *;obtain⟨R,Z,xt,xg⟩:=x;simp only at e0 e1 e2;have P:=bF.new wr 96 #[R,Z,xt];have H7:=aP (And.intro ((bQ.cD g a2 z).box t t.fl (aI #[R,Z,xt] 96)) (hK.trans (t.below (aX wr (aI #[R,Z,xt] 96))).2));clear t hK K HX H;go_upto_region 12 with(fail)
     generalize wr.alloc (aI #[R,Z,xt] 96)=w7 at *;generalize wr.heap.size=q7 at *;have x0:=P.cell 0 R rfl;have x1:=P.cell 1 Z rfl;have HXB:=aP P;have HTK:=aP (Cg H7.o.1 C.o R Z);clear e0 e1 e2 P;go_wp2_with fail
     refine aR HTK ?_;rintro r w8 ⟨I,ht,rfl,⟨a8,h8⟩,k8⟩;have xb8:=k8.aY HXB.o (.inr rfl);have H8:=bN h8 (H7.o.2.trans (k8.mono λb hb=> .inl hb));have HKW2:aH (KW I):=ht.kw C.o;have HOV2:aH (kA (T.take (j+1)) Y (dL I R)):=by unfold aH;rw[htk.o];exact M.o.snoc ht
     clear h8 k8 ht HTK H7 HXB x0 x1 M htk;have x0:=xb8.cell 0 R rfl;have x1:=xb8.cell 1 Z rfl;have HTL:=aP (tO H8.o.1 HKW2.o.p8 R 6 Z 0 aQ);clear xb8;go_wp2_with fail
     refine aR HTL ?_;rintro r w9 ⟨v9,rfl,h9,k9⟩;have HE:aH (∃z,kA (T.take (j+1)) Y z/\KM (cE F (some ⟨q,0,none⟩)) w9 g z/\Kp (cE F (some ⟨q,0,none⟩)) w6 w9):=⟨_,HOV2.o,⟨a8,h9.less (λb hb=> .inl hb)⟩,H8.o.2.trans (k9.mono λb hb=> .inl hb)⟩
     clear h9 k9 HTL H8 x0 x1;go_wp2_with fail
     go_roundw
     case rel=>exact⟨j+1,by go_num,aQ,HE.o⟩
     case measure=>simp[aL];omega
    .obtain rfl:j=m:=aQ;have j1:¬(j:Int)<(j:Int):=aQ;have M:aH (kA T Y z):=by
      have:=H;rw[aaS (by rw[<-y.o.1];exact Zw _)] at this;exact this
     have HQ:aH (∃l L,bQ F wr g {a2 with ln:=L} (dQ z l)/\Kp F w wr):=⟨[],a2.ln,t.less (λb hb=> .inl hb),(H5.o.2.trans y.o.2.2.2.2).trans (hK.mono λb hb=> .inl hb)⟩
     have C:aH (KW z):=H.kw Q.o;have HR3:aH (∀l,kQ k (dQ z l)):=λl=>HR2.o l z M.o
     clear t hK H HX y hj J M HR2 Q H5;go_wp2_with fail
     go_loopw [] (λwz=>aH (∃l L,bQ F wz g {a2 with ln:=L} (dQ z l)/\Kp F w wz)) (λwz=>yN a2.iq wz)
     case atStart=>exact HQ.o
     case round=>
      clear HQ;obtain⟨l,L,t,hK⟩:=hrel.o;have pi:=t.pi;unfold pA at pi;simp only at pi;have HN:=Eo t;simp only at HN;have HN:=aP HN;have HU:=aP t.yN;have HK:=aP hK;clear t hK;go_wp2_with fail
      refine aR HN ?_;rintro r w4 ⟨i,b,L4,rfl,B⟩;clear HN pi;cases b with
      |false=>
       have HE:aH (∃k',kQ k k'/\gJ F g k' (.tuple #[]) w (.returned (.tuple #[])) w4):=⟨_,HR3.o l,rfl,⟨_,B.o.1⟩,HK.o.trans B.o.2.1⟩
       clear B;go_wp2_with fail
       refine bodyPost_ret (v:= .tuple #[]) (by simp[results,results76,go_sem]) rfl ?_;exact HE.o
      |true=>
       have HB:=aP (B8 B.o.1 i);have X:=aP (λe=>tO B.o.1 (C.o.nF l).p8 e 2 i nw aQ);generalize EX {a2 with ln:=L4} i=be at *;go_wp2_with fail
       refine aR HB ?_;rintro r w5 ⟨rfl,rfl⟩;go_wp2_with fail
       refine aS (X.o _) ?_;rintro r w5 ⟨v5,rfl,V,k5⟩;have HE:aH (∃l L,bQ F w5 g {a2 with ln:=L} (dQ z l)/\Kp F w w5):=⟨l++ [be],L4,by rw[GK];exact V,(HK.o.trans B.o.2.1).trans k5⟩
       have HM:aH (yN a2.iq w5<yN a2.iq wr):=by
        unfold aH;rw[show yN a2.iq w5=BS L4 from V.yN,show yN a2.iq wr=BS L from HU.o];exact B.o.2.2 (by trivial)
       clear V k5 HB X B;go_wp2_with fail
       go_roundw
       case rel=>exact HE.o
       case measure=>exact HM.o
end
end
section
open Go.RowKit Go.Lib
theorem Lw:(prog.info? 267).map (λi=>(i.zero,i.size,i.bytes))=some (some (.agg #[false,false,false,aU]),4,16):=aV
def KP:Ln:=⟨false,false,false,0⟩
theorem Dk(w:aA):aG prog 138 #[.int .i64 2] w λe w'=>∃(g q:Nat) (L:List Ln),e= .returned (.tuple #[.pointer g,aU])/\L.length=2/\Ir (λb=>b<w.heap.size) w' g q L/\aD w w w':=by
 obtain⟨v,l,m,n,p⟩:=info_parts Lw;go_enter func138,ntmps138
 go_upto_region 4 with(at_make;refine wpList_make_full _ rfl _ _ 332 rfl w.heap.size 267 v _ 4 underlying332 l m n _ _ _ _ 2 rfl rfl aQ aQ (by rw[p];omega) dI (Zw _) ?_;intro c a h)
 have ho:bI KD 4 c w.heap.size 267 (some ⟨w.heap.size,0,none⟩) 2 [KP,KP]:=by
  have e:(madeCells (Value.agg #[false,false,false,aU]).cells (2 *4)).toList= [KP,KP].flatMap KD:=aV;rw[e] at a;exact a
 have hb:aD w w c:=⟨h.os,h.tape,h.output,h.size,λi hi=>h.block i hi aT⟩
 have hq:w.heap.size<c.heap.size:=(ho.lt _ rfl).2;have f:=aX c (aI #[.slice w.heap.size 2 2] 334);have s:=bF.new c 334 #[.slice w.heap.size 2 2];have r:=hb.trans (f.mono hb.size);have d:Ir (λb=>b<w.heap.size) (c.alloc (aI #[.slice w.heap.size 2 2] 334)) c w.heap.size [KP,KP]:=⟨s,(ho.keep f).from_ (aaH _),aT,λb hb=>Zy hb r.size,aQ,abX _,aQ⟩
 generalize c.alloc (aI #[.slice w.heap.size 2 2] 334)=w5 at *;generalize c.heap.size=g at *;generalize k:w.heap.size=q at *;obtain⟨t,x⟩:=d.set (i:=0) (j:=1) aT aQ {KP with ma:=true} (.bool true) rfl;obtain⟨u,y⟩:=t.set (i:=1) (j:=1) aT aQ {KP with ma:=true} (.bool true) rfl;have z:aH (∃L:List Ln,L.length=2/\Ir (λb=>b<q) ((w5.setCell (q,1) (.bool true)).setCell (q,5) (.bool true)) g q L/\aD q w ((w5.setCell (q,1) (.bool true)).setCell (q,5) (.bool true))):=⟨_,rfl,u,(r.setCell (Zw _) _).setCell (Zw _) _⟩
 have c0:=d.b.cell 0 _ rfl;obtain⟨_,A,_,_⟩:=d.at_ (i:=0) aT;obtain⟨_,b1,_,_⟩:=d.at_ (i:=1) aT;obtain⟨_,f1,_,_⟩:=d.fz (i:=0) aT;obtain⟨_,f5,_,_⟩:=d.fz (i:=1) aT;simp only[adO,adP,aa8,abL,abG,KP] at A b1 f1 f5;have ne:=d.ne;clear t x u y d hb f r ho s h a;go_wp2_with fail
 refine wp_loop_rounds 3 ?_;rw[rounds_succ];go_wp2_with fail
 rw[rounds_succ];go_wp2_with fail
 rw[rounds_succ];go_wp2_with fail
 go_ret2
 obtain⟨L,hl,hi,hb⟩:=z.o;exact⟨g,q,L,rfl,hl,by rw[k];exact hi,by rw[k];exact hb⟩
end
section
open Go.RowKit Go.Lib Go.Shelf dF Fr Up Nt
variable{l l':List Pt}{F:Nat->Prop}{w w' w5:aA}{C:Cf}{g gf gi iq gs gw:Nat}{k:Kv}{L3:List Ln}
section
theorem Ob.add{p:Pt}(h:Ob l F w)(a:p.X (λb=>b<w.heap.size) w')(hb:aD w w w'):Ob (l++ [p]) F w':=by
 obtain⟨c,h⟩:=h;exact⟨_,(h.add p a hb).1⟩
theorem Ob.reorder(σ τ:Nat->Nat)(h:Ob l F w)(hs:∀i p,l'[i]?=some p->l[σ i]?=some p/\τ (σ i)=i):Ob l' F w:=by
 obtain⟨a,hF,d⟩:=h;refine⟨λb=>match a b with|0=>0|k+1=>τ k+1,λb hb=>⟨(hF b hb).1,by simp only;rw[(hF b hb).2]⟩,λi p hp=>?_⟩;obtain⟨h1,e⟩:=hs i p hp;refine p.cD _ (λ_=>True) _ w w (d (σ i) p h1) (Kp.refl _ _) (λ_ _ _=>trivial) (Fo.ol _ _ _) (λr f g hf=>?_);have j:a r=σ i+1:=aaW λhc=>g ⟨f,hc⟩
 have c:=hf.2;simp only[j,e] at c;exact c rfl
def DN:Cf:=⟨List.replicate 128 DP,0⟩
def CZ:List Vc:=List.replicate 8 ⟨List.replicate 16 0,0⟩
def pE:Nat->Cf
 |0=>DN
 |i+1=>if i=0 then(cY (pE i) 0 (i:Nat) 3 (i:Nat) 15 0).2 else(cY (cY (pE i) 0 (i:Nat) 3 (i:Nat) 15 0).2 (i:Nat) 0 3 0 2 0).2
def vQ:Nat->Cf
 |0=>pE 4
 |i+1=>(cY (vQ i) 0 (8+(i:Nat)) 2 (i:Nat) 15 0).2
def tI:Nat->Sd
 |0=>zW 4
 |i+1=>jY (tI i) (i:Nat) true
def oK(p:Nat×Nat):Kv:=⟨vQ 2,vE 6, [], [],CZ,tI 4,0,p⟩
theorem BD(h:0<=C.n)(e s kd ob rt pf:Int):0<=(cY C e s kd ob rt pf).2.n/\(cY C e s kd ob rt pf).2.n<=C.n+1:=by
 unfold cY;split
 .exact⟨h,by show C.n<=C.n+1;omega⟩
 .split
  .exact⟨h,by show C.n<=C.n+1;omega⟩
  .split
   .exact⟨h,by show C.n<=C.n+1;omega⟩
   .exact⟨by show 0<=C.n+1;omega,by show C.n+1<=C.n+1;omega⟩
theorem QH:∀i,0<=(pE i).n/\(pE i).n<=2 *i
 |0=>⟨ab3 _,ab3 _⟩
 |i+1=>by
  have h:=QH i;have h1:=BD h.1 0 (i:Nat) 3 (i:Nat) 15 0;have a:=BD h1.1 (i:Nat) 0 3 0 2 0;unfold pE;split <;> omega
theorem Y6:∀i,0<=(vQ i).n/\(vQ i).n<=8+i
 |0=>by
  have h:=QH 4;exact⟨h.1,by show(pE 4).n<=_;omega⟩
 |i+1=>by
  have h:=Y6 i;have h1:=BD h.1 0 (8+(i:Nat)) 2 (i:Nat) 15 0;unfold vQ;omega
theorem UC:∀i,gQ (tI i)/\(tI i).P.length=4/\(tI i).nw=0
 |0=>⟨gQ.new aQ aQ,rfl,rfl⟩
 |i+1=>by
  obtain⟨h1,a,b⟩:=UC i;unfold tI jY;split
  .exact⟨h1.EE _ _,by show(List.modify _ _ _).length=4;rw[ab0];exact a,b⟩
  .exact⟨h1,a,b⟩
theorem EZ{a:Ka}(h:bQ F w g a k)(f:0<=k.c.n/\k.c.n<=1000000000000)(e s kd ob rt:Int):aG prog 141 #[.pointer a.gc,e,s, .agg #[kd,ob,rt]] w λr w'=>∃v:Int,r= .returned (.int .i64 v)/\bQ F w' g a {k with c:=(cY k.c e s kd ob rt 0).2}/\Kp F w w':=by
 obtain⟨G,i,back⟩:=h.cp;refine(PH i f e s kd ob rt).mono ?_;rintro r w' ⟨rfl,b,d⟩;exact⟨_,rfl,(back _ _ b d).1,(back _ _ b d).2⟩
theorem Iq(w:aA):jK (λb=>b<w.heap.size) (w.alloc (aI #[bH,aU,aU] 314)) w.heap.size []:=
 ⟨none,0,0,0,⟨bF.new w _ _,bI.nil _ _ _⟩,λb hb=>Zy hb (aX w _).size,abX _,λq hq=>by cases hq⟩
theorem ZQ(w:aA):eG (λb=>b<w.heap.size) (w.alloc (aI (rX DN).toArray 318)) w DN:=
 ⟨bF.new w _ _,acN,λb hb=>Zy hb (aX w _).size,abX _⟩
theorem WK(w:aA):uZ (λb=>b<w.heap.size) (w.alloc (aI (zP none 0 0 CZ).toArray 179)) w.heap.size [] CZ:=
 ⟨none,0,⟨bF.new w _ _,bI.nil _ _ _,acN,λv a=>by rw[abK a];exact⟨acN,cC⟩⟩,λb hb=>Zy hb (aX w _).size,abX _,λq hq=>by cases hq⟩
def TS:List uP:=List.replicate 8 ⟨none,0, [],0⟩
theorem XW(w:aA):uM (λb=>b<w.heap.size) (w.alloc (aI (TS.flatMap vL).toArray 324)) w.heap.size:=by
 have a:∀(i:Nat) (hi:i<TS.length),TS[i]=⟨none,0, [],0⟩:=λi hi=>aeE ..
 refine⟨TS.map uX,⟨TS,⟨acN,bF.new w _ _,λi hi=>?_,λi j hi d _=>?_⟩,rfl,λb hb=>⟨Zy hb (aX w _).size,λe=>by omega,λr a=>?_⟩⟩,rfl,λr a=>?_⟩
 .rw[a i hi];exact bI.nil _ _ _
 .rw[a i hi];exact .inl rfl
 .rw[abK a];exact λe=>by cases e
 .obtain⟨x,c,rfl⟩:=acL.1 a;rw[abK c];exact aaH _
theorem Bb:zeroCells318=(rX DN).toArray:=aV
theorem V5:zeroCells179=(zP none 0 0 CZ).toArray:=aV
theorem Z3(h:Ob ([TH gf (vE 6)]++ [ZL gi iq L3]++ [Ca gs (zW 4)]++ [Q1 gw 0]) F w5)(hl:L3.length=2):
 bQ F (((((w5.alloc (aI #[bH,aU,aU] 314)).alloc (aI zeroCells318 318)).alloc (aI #[bH,aU,bH,aU,bH,aU,bH,aU,bH,aU,bH,aU,bH,aU,bH,aU] 324)).alloc (aI zeroCells179 179)).alloc (aI #[.pointer gf, .pointer w5.heap.size, .pointer (some ⟨w5.heap.size+1,0,none⟩), .pointer gi, .pointer (some ⟨w5.heap.size+1+1,0,none⟩), .pointer (some ⟨w5.heap.size+1+1+1,0,none⟩), .pointer gs, .int .i64 6, .int .i64 2, .int .i64 4, .pointer gw,aU,aU,aU,aU,aU,aU,aU,aU,aU,aU,aU,aU,aU,aU,aU,aU] 64)) (w5.heap.size+1+1+1+1) ⟨gf,w5.heap.size,w5.heap.size+1,gi,w5.heap.size+1+1,w5.heap.size+1+1+1,gs,gw,List.replicate 8 0,List.replicate 8 0,iq,L3⟩ ⟨DN,vE 6, [], [],CZ,zW 4,0,(w5.heap.size,gf)⟩:=by
 rw[Bb,V5];have q:=h.add (p:=Kh w5.heap.size []) (Iq w5) (aX w5 _);have j:(w5.alloc (aI #[bH,aU,aU] 314)).heap.size=w5.heap.size+1:=aT;generalize w5.alloc (aI #[bH,aU,aU] 314)=a at *;have k:=q.add (p:=TY a DN) (ZQ a) (aX a _);have l:(a.alloc (aI (rX DN).toArray 318)).heap.size=w5.heap.size+1+1:=by rw[<-j];simp
 rw[j] at k;generalize a.alloc (aI (rX DN).toArray 318)=c at *;have g:=k.add (p:=Jq c) (XW c) (aX c _);rw[l] at g;have r:(aI (TS.flatMap vL).toArray 324)=(aI #[bH,aU,bH,aU,bH,aU,bH,aU,bH,aU,bH,aU,bH,aU,bH,aU] 324):=rfl;rw[r] at g;have m:(c.alloc (aI #[bH,aU,bH,aU,bH,aU,bH,aU,bH,aU,bH,aU,bH,aU,bH,aU] 324)).heap.size=w5.heap.size+1+1+1:=by rw[<-l];simp
 generalize c.alloc (aI #[bH,aU,bH,aU,bH,aU,bH,aU,bH,aU,bH,aU,bH,aU,bH,aU] 324)=d at *;have o:=g.add (p:=TK d.heap.size [] CZ) (WK d) (aX d _);rw[m] at o;have z9:(d.alloc (aI (zP none 0 0 CZ).toArray 179)).heap.size=w5.heap.size+1+1+1+1:=by rw[<-m];simp
 generalize d.alloc (aI (zP none 0 0 CZ).toArray 179)=f at *;have e:=o.add (p:=PB f.heap.size 64 (kL ⟨gf,w5.heap.size,w5.heap.size+1,gi,w5.heap.size+1+1,w5.heap.size+1+1+1,gs,gw,List.replicate 8 0,List.replicate 8 0,iq,L3⟩).toArray) ⟨bF.new f _ _,λb hb=>Zy hb (aX f _).size,abX _⟩ (aX f _);rw[z9] at e;refine⟨Ob.reorder (λi=>match i with|0=>8|1=>0|2=>4|3=>5|4=>1|5=>6|6=>7|7=>2|_=>3) (λi=>match i with|8=>0|0=>1|4=>2|5=>3|1=>4|6=>5|7=>6|2=>7|_=>8) e (λi p hp=>?_),rfl,rfl,hl,rfl⟩;match i,hp with
 |0,hp=>exact⟨hp,rfl⟩
 |1,hp=>exact⟨hp,rfl⟩
 |2,hp=>exact⟨hp,rfl⟩
 |3,hp=>exact⟨hp,rfl⟩
 |4,hp=>exact⟨hp,rfl⟩
 |5,hp=>exact⟨hp,rfl⟩
 |6,hp=>exact⟨hp,rfl⟩
 |7,hp=>exact⟨hp,rfl⟩
 |8,hp=>exact⟨hp,rfl⟩
 |n+9,hp=>simp[Jw] at hp
def Ao(p:Nat×Nat)(i:Nat):Kv:=⟨pE i,vE 6, [], [],CZ,tI i,0,p⟩
def UF(p:Nat×Nat)(i:Nat):Kv:=⟨vQ i,vE 6, [], [],CZ,tI 4,0,p⟩
theorem UB(h:0<=C.n/\C.n<=1000000)(i:Nat){p:Nat×Nat}:KW ⟨C,vE 6, [], [],CZ,tI i,0,p⟩:=
 ⟨aaH _,aaH _,⟨h.1,by show C.n<=1000000000;omega⟩,(UC i).1,λx a=>(by cases a),aaH _⟩
theorem Fy(p:Nat×Nat)(i:Nat):Ao p (i+1)=⟨if i=0 then(cY (pE i) 0 (i:Nat) 3 (i:Nat) 15 0).2 else(cY (cY (pE i) 0 (i:Nat) 3 (i:Nat) 15 0).2 (i:Nat) 0 3 0 2 0).2,vE 6, [], [],CZ,jY (tI i) (i:Nat) true,0,p⟩:=rfl
theorem Iu(w:aA):aG prog 98 #[.agg #[.int .i64 6, .int .i64 2, .int .i64 4]] w λe w'=>∃g p0,e= .returned (.tuple #[.pointer (some ⟨g,0,none⟩),aU])/\KM (λb=>b<w.heap.size) w' g (oK p0)/\aD w w w':=by
 have T:=aX w (aI #[.int .i64 6, .int .i64 2, .int .i64 4] 60);have xb:=bF.new w 60 #[.int .i64 6, .int .i64 2, .int .i64 4];have G:aH (Ob [] (λb=>b<(w.alloc (aI #[.int .i64 6, .int .i64 2, .int .i64 4] 60)).heap.size) (w.alloc (aI #[.int .i64 6, .int .i64 2, .int .i64 4] 60))):=Ob.none (λb hb=>hb) (λb hb=>hb);have H:aH (w.heap.size<(w.alloc (aI #[.int .i64 6, .int .i64 2, .int .i64 4] 60)).heap.size):=by unfold aH;simp
 have I:=aP T;clear T;go_enter func98,ntmps98
 go_upto_region 1 with(fail)
 generalize w.alloc (aI #[.int .i64 6, .int .i64 2, .int .i64 4] 60)=J at *;generalize hq:w.heap.size=q at *;obtain⟨n1,U⟩:∃n,n=J.heap.size:=⟨_,rfl⟩
 rw[<-U] at G H;clear U;have x0:=xb.cell 0 (.int .i64 6) rfl;have V:aH (aG prog 137 #[.int .i64 6] J (Iz 6 J)):=Nf 6 J aQ aQ;have W:=aP xb;clear xb;go_wp2_with fail
 refine aR V ?_;rintro e w2 ⟨rfl,X,d⟩;have Y:aH (Ob [TH J (vE 6)] (λb=>b<n1) w2):=G.o.add (p:=TH J (vE 6)) ⟨X,λb hb=>Zy hb d.size,abX _⟩ d;have K:=aP (W.o.keep d);have L:aH (aD q w w2):=I.o.trans (d.mono (by have:=I.o.size;omega));clear X d G V x0 W I;generalize J.heap.size=gf at *;have M:=K.o.cell 1 (.int .i64 2) rfl;have Z:=aP (Dk w2);go_wp2_with fail
 refine aR Z ?_;rintro e w3 ⟨gi,iq,L3,rfl,a6,a7,u⟩;have a8:=aP (Y.o.add (p:=ZL gi iq L3) a7 u);have N:=aP (K.o.keep u);have O:aH (aD q w w3):=L.o.trans (u.mono (by have:=L.o.size;omega));have HL3:=aP a6;clear a7 u a6 Y Z M K L;have x2:=N.o.cell 2 (.int .i64 4) rfl;have HSd:=aP (RW w3);go_wp2_with fail
 refine aR HSd ?_;rintro e w4 ⟨gs,rfl,hs4,x⟩;have HO4:=aP (a8.o.add (p:=Ca gs (zW 4)) hs4 x);have HX4:=aP (N.o.keep x);have P:aH (aD q w w4):=O.o.trans (x.mono (by have:=O.o.size;omega));clear hs4 x a8 HSd x2 N O;have HWh:=aP (Hw w4);go_wp2_with fail
 refine aR HWh ?_;rintro e w5 ⟨gw,rfl,_,hw5,y⟩;have HO5:=aP (HO4.o.add (p:=Q1 gw 0) hw5 y);have f:=aP (HX4.o.keep y);have z:aH (aD q w w5):=P.o.trans (y.mono (by have:=P.o.size;omega));clear hw5 y HO4 HWh HX4 P;have x0:=f.o.cell 0 (.int .i64 6) rfl;have M:=f.o.cell 1 (.int .i64 2) rfl;have x2:=f.o.cell 2 (.int .i64 4) rfl;have a:=(((aX w5 (aI #[bH,aU,aU] 314)).alloc (aX _ _).size (aI zeroCells318 318)).alloc ((aX _ _).alloc (aX _ _).size _).size (aI #[bH,aU,bH,aU,bH,aU,bH,aU,bH,aU,bH,aU,bH,aU,bH,aU] 324)).alloc (((aX _ _).alloc (aX _ _).size _).alloc ((aX _ _).alloc (aX _ _).size _).size _).size (aI zeroCells179 179);have y0:=bG a x0;have y1:=bG a M;have y2:=bG a x2;have HK:=aP (Z3 HO5.o HL3.o);have HX9:=f.o.keep a;have h:=aX ((((w5.alloc (aI #[bH,aU,aU] 314)).alloc (aI zeroCells318 318)).alloc (aI #[bH,aU,bH,aU,bH,aU,bH,aU,bH,aU,bH,aU,bH,aU,bH,aU] 324)).alloc (aI zeroCells179 179)) (aI #[.pointer gf, .pointer w5.heap.size, .pointer (some ⟨w5.heap.size+1,0,none⟩), .pointer gi, .pointer (some ⟨w5.heap.size+1+1,0,none⟩), .pointer (some ⟨w5.heap.size+1+1+1,0,none⟩), .pointer gs, .int .i64 6, .int .i64 2, .int .i64 4, .pointer gw,aU,aU,aU,aU,aU,aU,aU,aU,aU,aU,aU,aU,aU,aU,aU,aU] 64);have c:=aP (HX9.keep h);have HB10:aH (aD q w (((((w5.alloc (aI #[bH,aU,aU] 314)).alloc (aI zeroCells318 318)).alloc (aI #[bH,aU,bH,aU,bH,aU,bH,aU,bH,aU,bH,aU,bH,aU,bH,aU] 324)).alloc (aI zeroCells179 179)).alloc (aI #[.pointer gf, .pointer w5.heap.size, .pointer (some ⟨w5.heap.size+1,0,none⟩), .pointer gi, .pointer (some ⟨w5.heap.size+1+1,0,none⟩), .pointer (some ⟨w5.heap.size+1+1+1,0,none⟩), .pointer gs, .int .i64 6, .int .i64 2, .int .i64 4, .pointer gw,aU,aU,aU,aU,aU,aU,aU,aU,aU,aU,aU,aU,aU,aU,aU,aU] 64))):=z.o.trans (((a.mono (by have:=z.o.size;omega))).trans (h.mono (by have:=z.o.size;have:=a.size;omega)));clear HX9 h a;go_upto_region 14 with(fail)
 generalize (((((w5.alloc (aI #[bH,aU,aU] 314)).alloc (aI zeroCells318 318)).alloc (aI #[bH,aU,bH,aU,bH,aU,bH,aU,bH,aU,bH,aU,bH,aU,bH,aU] 324)).alloc (aI zeroCells179 179)).alloc (aI #[.pointer gf, .pointer w5.heap.size, .pointer (some ⟨w5.heap.size+1,0,none⟩), .pointer gi, .pointer (some ⟨w5.heap.size+1+1,0,none⟩), .pointer (some ⟨w5.heap.size+1+1+1,0,none⟩), .pointer gs, .int .i64 6, .int .i64 2, .int .i64 4, .pointer gw,aU,aU,aU,aU,aU,aU,aU,aU,aU,aU,aU,aU,aU,aU,aU,aU] 64))=w10 at *;have M:=c.o.cell 1 (.int .i64 2) rfl;have x2:=c.o.cell 2 (.int .i64 4) rfl;clear y0 y1 y2 HO5 f z;have Q:aH (KM (λb=>b<n1) w10 (w5.heap.size+1+1+1+1) (Ao (w5.heap.size,gf) 0)/\Kp (λb=>b<n1) w10 w10):=⟨⟨_,HK.o⟩,Kp.refl _ _⟩
 clear HK;generalize (w5.heap.size,gf)=p0 at Q;generalize w5.heap.size+1+1+1+1=g at *;have HX:=c;clear c;go_wp2_with fail
 go_loopw [64] (λv64 wr=>∃i:Nat,v64= .int .i64 i/\i<=4/\aH (KM (λb=>b<n1) wr g (Ao p0 i)/\Kp (λb=>b<n1) w10 wr)) (λv64 _=>4 - (aL v64).toNat)
 case atStart=>exact⟨0,rfl,aaH _,Q.o⟩
 case round=>
  clear Q M x2;obtain⟨i,rfl,hi,D⟩:=hrel;obtain⟨⟨a1,h1⟩,hK⟩:=D.o;clear D;by_cases hi4:i<4
  .have i4:(i:Int)<4:=aQ;have hen:=QH i;have A:aH (0<=(cY (pE i) 0 (i:Nat) 3 (i:Nat) 15 0).2.n/\(cY (pE i) 0 (i:Nat) 3 (i:Nat) 15 0).2.n<=100):=by
    have:=BD hen.1 0 (i:Nat) 3 (i:Nat) 15 0;unfold aH;omega
   have k:=aP (EZ h1 (by show 0<=(pE i).n/\(pE i).n<=_;omega) 0 (i:Nat) 3 (i:Nat) 15);have pc:=h1.pc;unfold pA at pc;have l:=aP hK;clear h1 hK hen;go_wp2_with fail
   refine aR k ?_;rintro e R ⟨v1,rfl,t,k2⟩;have E:=bN t (l.o.trans k2);clear t k2 k l pc;have pc:=E.o.1.pc;have ps:=E.o.1.ps;unfold pA at pc ps;by_cases B:i=0
   .subst B;have m:=aP (CQ E.o.1 (UB ⟨A.o.1,by have:=A.o.2;omega⟩ 0) (0:Int) true);go_wp2_with fail
    refine aR m ?_;rintro e S ⟨rfl,r,k3⟩;have F:aH (KM (λb=>b<n1) S g (Ao p0 1)/\Kp (λb=>b<n1) w10 S):=⟨⟨a1,r⟩,E.o.2.trans k3⟩
    clear r k3 m E;go_wp2_with fail
    go_roundw
    case rel=>exact⟨1,by go_num,aQ,F.o⟩
    case measure=>simp[aL]
   .have hib:((i:Int) !=0)=true:=by simp[B]
    have HR2:=aP (EZ E.o.1 (by have:=A.o;show 0<=(cY (pE i) 0 (i:Nat) 3 (i:Nat) 15 0).2.n/\(cY (pE i) 0 (i:Nat) 3 (i:Nat) 15 0).2.n<=_;omega) (i:Nat) 0 3 0 2);have HI0:=aP B;clear B;go_wp2_with fail
    refine aR HR2 ?_;rintro e S ⟨v2,rfl,r,k3⟩;have H3:=bN r (E.o.2.trans k3);clear r k3 HR2 E pc ps;have ps:=H3.o.1.ps;unfold pA at ps;have m:=aP (CQ H3.o.1 (UB (C:=(cY (cY (pE i) 0 (i:Nat) 3 (i:Nat) 15 0).2 (i:Nat) 0 3 0 2 0).2) (by have h5:=A.o;have:=BD h5.1 (i:Nat) 0 3 0 2 0;omega) i) (i:Nat) true);go_wp2_with fail
    refine aR m ?_;rintro e w13 ⟨rfl,h4,k4⟩;have F:aH (KM (λb=>b<n1) w13 g (Ao p0 (i+1))/\Kp (λb=>b<n1) w10 w13):=by
     unfold aH;rw[Fy,aaA HI0.o];exact⟨⟨a1,h4⟩,H3.o.2.trans k4⟩
    clear h4 k4 m H3;go_wp2_with fail
    go_roundw
    case rel=>exact⟨i+1,by go_num,aQ,F.o⟩
    case measure=>simp[aL];omega
  .obtain rfl:i=4:=aQ;have HQ2:aH (KM (λb=>b<n1) wr g (UF p0 0)/\Kp (λb=>b<n1) w10 wr):=⟨⟨a1,h1⟩,hK⟩
   clear h1 hK hi hi4;go_wp2_with fail
   go_loopw [91] (λv91 wz=>∃i:Nat,v91= .int .i64 i/\i<=8/\aH (KM (λb=>b<n1) wz g (UF p0 0)/\Kp (λb=>b<n1) w10 wz)) (λv91 _=>8 - (aL v91).toNat)
   case atStart=>exact⟨0,rfl,aaH _,HQ2.o⟩
   case round=>
    clear HQ2;obtain⟨i,rfl,hi,D⟩:=hrel;obtain⟨⟨a2,t⟩,hK⟩:=D.o;clear D;by_cases hi8:i<8
    .have i8:(i:Int)<8:=aQ;obtain⟨v,hc⟩:=t.bound (i:=i) hi8;have fz:=t.fz (19+i);have HS:aH (KM (λb=>b<n1) (wr.setCell ⟨g,19+i,none⟩ (.int .i64 (-1))) g (UF p0 0)/\Kp (λb=>b<n1) w10 (wr.setCell ⟨g,19+i,none⟩ (.int .i64 (-1)))):=⟨(t.store (19+i) aQ (-1)).1,hK.trans (t.store (19+i) aQ (-1)).2⟩
     clear t hK;go_wp2_with fail
     go_roundw
     case rel=>exact⟨i+1,by go_num,aQ,HS.o⟩
     case measure=>simp[aL];omega
    .obtain rfl:i=8:=aQ;have M:wr.cell? (q,1)=some (.int .i64 2):=hK.cell (HX.o.cell 1 (.int .i64 2) rfl) H.o;have HQ3:aH (KM (λb=>b<n1) wr g (UF p0 0)/\Kp (λb=>b<n1) w10 wr):=⟨⟨a2,t⟩,hK⟩
     clear t hK hi hi8;go_wp2_with fail
     go_loopw [102] (λs wz=>∃i:Nat,s= .int .i64 i/\i<=2/\aH (KM (λb=>b<n1) wz g (UF p0 i)/\Kp (λb=>b<n1) w10 wz)) (λs _=>2 - (aL s).toNat)
     case atStart=>exact⟨0,rfl,aaH _,HQ3.o⟩
     case round=>
      clear HQ3 M;obtain⟨i,rfl,hi,D⟩:=hrel;obtain⟨⟨a3,r⟩,hK⟩:=D.o;clear D;by_cases hi2:i<2
      .have i2:(i:Int)<2:=aQ;have hln:=Y6 i;have k:=aP (EZ r (by show 0<=(vQ i).n/\(vQ i).n<=_;omega) 0 (8+(i:Nat)) 2 (i:Nat) 15);have pc:=r.pc;unfold pA at pc;have l:=aP hK;clear r hK hln;go_wp2_with fail
       refine aR k ?_;rintro e R ⟨v1,rfl,h4,k4⟩;have F:aH (KM (λb=>b<n1) R g (UF p0 (i+1))/\Kp (λb=>b<n1) w10 R):=⟨⟨a3,h4⟩,l.o.trans k4⟩
       clear h4 k4 k l;go_wp2_with fail
       go_roundw
       case rel=>exact⟨_, .int .i64 ((i:Int)+1),_,_,_,_,_,_,_,_,_,_,_,_,⟨i+1,by go_num,aQ,F.o⟩,rfl⟩
       case measure=>simp[aL];omega
      .obtain rfl:i=2:=aQ;have F:aH (KM (λb=>b<w.heap.size) wr g (oK p0)/\aD w w wr):=by
        have hb:=HB10.o;have hq1:=H.o;rw[hq];exact⟨⟨a3,r.less (λb hb=>by omega)⟩,⟨hK.os.trans hb.os,hK.tape.trans hb.tape,hK.output.trans hb.output,aaC hb.size hK.size,λj hj=>(hK.block j aQ).trans (hb.block j hj)⟩⟩
       clear r hK;go_wp2_with fail
       go_ret2
       exact⟨g,p0,rfl,F.o.1,F.o.2⟩
end
variable{i m:Nat}{G:Nat->Prop}{a:Ka}
section
def BL(g:Nat)(c:Int)(bs:List Bool):List Value:= [pA g, .int .i64 c]++bs.map Value.bool
def An(g:Nat)(a:Ka)(k:Kv):Pt:=⟨λF w=>bQ F w g a k,bQ.cD g a k⟩
def Qe(m g:Nat)(c:Int)(bs:List Bool)(a:Ka)(k:Kv):List Pt:= [PB m 142 (BL g c bs).toArray,An g a k]
structure iS(F:Nat->Prop)(w:aA)(m g:Nat)(c:Int)(bs:List Bool)(a:Ka)(k:Kv):Prop where
 o:Ob (Qe m g c bs a k) F w
 b8:bs.length=8
def gF(F:Nat->Prop)(w:aA)(m g:Nat)(c:Int)(k:Kv):Prop:=∃bs a,iS F w m g c bs a k
theorem iS.cD(m g:Nat)(c:Int)(bs:List Bool)(a:Ka)(k:Kv):dN (λF w=>iS F w m g c bs a k):=λF G H w w' h x b fl hH=>⟨Ob.cD _ F G H w w' h.o x b fl hH,h.b8⟩
theorem gF.cD(m g:Nat)(c:Int)(k:Kv):dN (λF w=>gF F w m g c k):=λF G H w w' ⟨bs,a,h⟩ x b fl hH=>⟨bs,a,iS.cD m g c bs a k F G H w w' h x b fl hH⟩
section
variable{F:Nat->Prop}{w w':aA}{m g:Nat}{c:Int}{bs:List Bool}{a:Ka}{k:Kv}
theorem iS.fl(h:iS F w m g c bs a k):Ol F w:=h.o.fl
theorem iS.below(h:iS F w m g c bs a k)(hb:aD w w w'):iS F w' m g c bs a k/\Kp F w w':=⟨⟨h.o.below hb,h.b8⟩,h.o.QC hb⟩
theorem iS.bk(h:iS F w m g c bs a k):bF w m 142 (BL g c bs).toArray:=by
 obtain⟨d,h1⟩:=h.o;exact(h1.get 0 (p:=PB m 142 (BL g c bs).toArray) rfl).b
theorem iS.c0(h:iS F w m g c bs a k):w.cell? (m,0)=some (.pointer g):=h.bk.cell 0 _ rfl
theorem iS.c1(h:iS F w m g c bs a k):w.cell? (m,1)=some (.int .i64 c):=h.bk.cell 1 _ rfl
theorem iS.cb(h:iS F w m g c bs a k)(hi:i<8):∃b:Bool,w.cell? (m,2+i)=some (.bool b):=by
 have hl:=h.b8;refine⟨bs[i]'(by omega),h.bk.cell (2+i) _ ?_⟩;rw[aaR,BL,aaJ aT];simp[show 2+i - 2=i by omega,hl,hi]
theorem iS.fz(h:iS F w m g c bs a k)(i:Nat):w.frozen? (m,i)=false:=h.bk.frozen i
theorem iS.set(h:iS F w m g c bs a k)(hi:i<8)(b:Bool):iS F (w.setCell (m,2+i) (.bool b)) m g c (bs.set i b) a k/\Kp F w (w.setCell (m,2+i) (.bool b)):=by
 obtain⟨G,d,back⟩:=h.o.use 0 _ rfl;obtain⟨s1,s2⟩:=oF.set (cs':=(BL g c (bs.set i b)).toArray) d (2+i) (.bool b) (by
  rw[Zx];congr 1
  unfold BL;rw[aaQ _ _ aT,ab6];simp)
 obtain⟨b1,b2⟩:=back (PB m 142 (BL g c (bs.set i b)).toArray) _ s1 s2;exact⟨⟨b1,by simp[h.b8]⟩,b2⟩
theorem iS.kn(h:iS F w m g c bs a k):∃G,bQ G w g a k/\(∀(a':Ka) (k':Kv) (w':aA),bQ G w' g a' k'->Kp G w w'->iS F w' m g c bs a' k'/\Kp F w w'):=by
 obtain⟨G,e,back⟩:=h.o.use 1 _ rfl;exact⟨G,e,λa' k' w' b d=>⟨⟨(back (An g a' k') w' b d).1,h.b8⟩,(back (An g a' k') w' b d).2⟩⟩
theorem iS.ks(h:iS F w m g c bs a k):w.cell? (g,6)=some (.pointer a.gs)/\w.cell? (g,4)=some (.pointer a.gr)/\w.cell? (g,3)=some (.pointer a.gi)/\w.cell? (g,7)=some (.int .i64 6)/\w.cell? (g,8)=some (.int .i64 2)/\w.cell? (g,9)=some (.int .i64 4):=by
 obtain⟨G,b,_⟩:=h.kn;exact⟨b.ps,b.pr,b.pi,b.LO⟩
theorem iS.less(h:iS F w m g c bs a k)(d:∀b,G b->F b):iS G w m g c bs a k:=⟨Ob.cD _ F (λ_=>True) G w w h.o (Kp.refl _ _) (λ_ _ _=>trivial) (λb hb=>h.fl b (d b hb)) (λr _ e hf=>e (d r hf)),h.b8⟩
end
theorem R4(h:bQ F w g a k)(hw:KW k)(i:Int):aG prog 115 #[.pointer a.gs,i] w λe w'=>(∃pt:Option Nat,e= .returned (.pointer (ZS pt))/\aH (aG prog 116 #[.pointer (ZS pt)] w λe w'=>∃(d:Int) (b:Bool),e= .returned (.tuple #[d,b])/\w=w'))/\w=w':=by
 obtain⟨G,hs,_⟩:=h.sd;refine(VF hs hw.p8 i).mono ?_;rintro e w' ⟨⟨pt,rfl,h1,j⟩,rfl⟩;refine⟨⟨pt,rfl,?_⟩,rfl⟩;cases f:tL k.s i with
 |none=>
  rw[h1 f];refine(OC w).mono ?_;rintro e w' ⟨rfl,rfl⟩;exact⟨0,false,rfl,rfl⟩
 |some v=>
  obtain⟨q,rfl,hq⟩:=j v f;have hl:v.ch.length<=4000000:=by
   unfold tL at f;split at f
   .cases hp:k.s.P[i.toNat]? with
    |none=>rw[hp] at f;cases f
    |some p=>
     rw[hp] at f;have:=(hw.sd.sv p (abV hp) v f).len;omega
   .cases f
  refine(MW hq hl).mono ?_;rintro e w' ⟨rfl,rfl⟩;cases v.ch with
  |nil=>exact⟨0,false,rfl,rfl⟩
  |cons x xs=>exact⟨x.de,true,rfl,rfl⟩
theorem Dz(h:bQ F w g a k)(i:Int)(hi:0<=i/\i<8)(kd x b:Int)(hk:1<=kd/\kd<=8):aG prog 117 #[.pointer a.gr,i, .agg #[kd,x, .int .u64 b]] w λe w'=>∃r:Int,e= .returned (.int .i64 r)/\bQ F w' g a k/\Kp F w w':=by
 obtain⟨G,j,back⟩:=h.rw;refine(OD j i hi kd x b hk).mono ?_;rintro e w' ⟨r,rfl,d,f⟩;exact⟨r,rfl,(back _ d f).1,(back _ d f).2⟩
theorem CB(W:aA):(Instr.field 60 (.agg #[.int .i64 6, .int .i64 2, .int .i64 4]) 2).run prog W= .ok (.int .i64 4) W:=aV
theorem MU(h:bQ F w g a k):aG prog 87 #[.pointer g] w λe w'=>e= .returned (.agg #[.int .i64 6, .int .i64 2, .int .i64 4])/\aD w w w':=by
 obtain⟨c7,c8,c9⟩:=h.LO;have hb:=aX w (aI #[aU,aU,aU] 60);have d7:=bG hb c7;have d8:=bG hb c8;have d9:=bG hb c9;clear h hb;go_enter func87,ntmps87
 go_wp2_with fail
 exact bodyPost_ret (v:= .agg #[.int .i64 6, .int .i64 2, .int .i64 4]) (by simp[results,results87,go_sem]) rfl ⟨rfl,aX _ _⟩
theorem Eh{c:Int}(h:gF F w m g c k)(hw:KW k)(e:Int)(b:Bool):aG prog 78 #[.pointer m, .agg #[e,b]] w λr w'=>r= .returned (.tuple #[])/\gF F w' m g c k/\Kp F w w':=by
 obtain⟨bs,a,h⟩:=h;have D:=aX w (aI #[e,b] 69);have P:=bF.new w 69 #[e,b];have H1:=aP (And.intro ((iS.cD m g c bs a k).box h h.fl (aI #[e,b] 69)) (h.below D).2);have Y:=aP hw;clear h D hw;go_enter func78,ntmps78
 go_upto_region 1 with(fail)
 generalize w.alloc (aI #[e,b] 69)=w1 at *;generalize w.heap.size=q1 at *;have c0:=H1.o.1.c0;obtain⟨ps,_,_,c7,c8,c9⟩:=H1.o.1.ks;have Q:=aP P;clear P;obtain⟨G,hk,_⟩:=H1.o.1.kn;obtain⟨G2,hs,_⟩:=hk.sd;have R:=aP (vR hs);have E:=aP (MU hk);clear hk hs;go_wp2_with fail
 refine aR R ?_;rintro r B ⟨rfl,rfl⟩;go_wp2_with fail
 refine aR E ?_;rintro r B ⟨rfl,x⟩;have Z:=CB B;generalize IntKind.u64.wrap k.s.nw=nw at *;have HQ:aH (∃bs a,iS (Fb F q1) B m g c bs a k/\Kp (Fb F q1) w1 B):=⟨bs,a,(H1.o.1.below x).1,(H1.o.1.below x).2⟩
 clear R E c0 ps c7 c8 c9 x;go_wp2_with fail
 go_loopw [24] (λv24 wr=>∃i:Nat,v24= .int .i64 i/\i<=4/\aH (∃bs a,iS (Fb F q1) wr m g c bs a k/\Kp (Fb F q1) w1 wr)) (λv24 _=>4 - (aL v24).toNat)
 case atStart=>exact⟨0,rfl,aaH _,HQ.o⟩
 case round=>
  clear HQ;obtain⟨i,rfl,hi,S⟩:=hrel;obtain⟨H,a2,n,hK⟩:=S.o;clear S;by_cases a1:i<4
  .have i4:(i:Int)<4:=aQ;have i0:¬(i:Int)<0:=aQ;have i8:(i:Int)<8:=aQ;have c0:=n.c0;obtain⟨T,cb⟩:=n.cb (i:=i) aQ;have fb:=n.fz (2+i);obtain⟨ps,_⟩:=n.ks;have U:=hK.cell (Q.o.cell 0 e rfl) (.inr rfl);have V:=hK.cell (Q.o.cell 1 (.bool b) rfl) (.inr rfl);obtain⟨G,hk,_⟩:=n.kn;have W:=aP (R4 hk Y.o (i:Nat));have u:=aP (λv:Bool=>n.set (i:=i) aQ v);have q:=aP hK;have y:q1≠m:=λe1=>by
    obtain⟨ow,X⟩:=n.o;have h5:=(X.get 0 (p:=PB m 142 (BL g c H).toArray) rfl).nf;have:=X.1 q1 (.inr rfl);rw[e1] at this;exact h5 ⟨this.1,by rw[this.2];decide⟩
   clear n hK hk;go_wp2_with fail
   refine aR W ?_;rintro r B ⟨⟨pt,rfl,HD⟩,rfl⟩;clear W;go_wp2_with fail
   refine aR HD ?_;rintro r B ⟨d,has,rfl,rfl⟩;have z:=aP (u.o has);have y0:(wr.setCell (m,2+i) (.bool has)).cell? (q1,0)=some (.int .i64 e):=(dJ y).trans U;have y1:(wr.setCell (m,2+i) (.bool has)).cell? (q1,1)=some (.bool b):=(dJ y).trans V;clear u HD;go_upto_region 9 with(fail)
   generalize wr.setCell (m,2+i) (.bool has)=w5 at *;clear U V c0 cb fb ps y;obtain⟨_,pr,_⟩:=z.o.1.ks;obtain⟨G5,I,j⟩:=z.o.1.kn;have M:=aP (λ(kd:Int) (N:1<=kd/\kd<=8)=>Dz I (i:Nat) aQ kd 0 nw N);have l:=aP j;have J:aH (aG prog 117 #[.pointer a2.gr, .int .i64 (i:Nat), .agg #[.int .i64 3,aU, .int .u64 nw]] w5 λe w'=>∃r:Int,e= .returned (.int .i64 r)/\aH (∃bs a,iS (Fb F q1) w' m g c bs a k/\Kp (Fb F q1) w1 w')):=(M.o 3 aQ).mono (by
    rintro r C ⟨v,rfl,K,L⟩;exact⟨v,rfl,_,_,(l.o _ _ _ K L).1,(q.o.trans z.o.2).trans (l.o _ _ _ K L).2⟩)
   have A:aH (aG prog 117 #[.pointer a2.gr, .int .i64 (i:Nat), .agg #[.int .i64 4,aU, .int .u64 nw]] w5 λe w'=>∃r:Int,e= .returned (.int .i64 r)/\aH (∃bs a,iS (Fb F q1) w' m g c bs a k/\Kp (Fb F q1) w1 w')):=(M.o 4 aQ).mono (by
    rintro r C ⟨v,rfl,K,L⟩;exact⟨v,rfl,_,_,(l.o _ _ _ K L).1,(q.o.trans z.o.2).trans (l.o _ _ _ K L).2⟩)
   have t:aH (∃bs a,iS (Fb F q1) w5 m g c bs a k/\Kp (Fb F q1) w1 w5):=⟨_,_,z.o.1,q.o.trans z.o.2⟩
   clear I j M l z q;cases has with
   |true=>
    cases T with
    |true=>
     cases b with
     |true=>
      go_wp2_with fail
      go_roundw
      case rel=>exact⟨i+1,by go_num,aQ,t.o⟩
      case measure=>simp[aL];omega
     |false=>
      go_wp2_with fail
      go_roundw
      case rel=>exact⟨i+1,by go_num,aQ,t.o⟩
      case measure=>simp[aL];omega
    |false=>
     cases b with
     |true=>
      go_wp2_with fail
      refine aR J ?_;rintro r C ⟨v,rfl,f⟩;go_wp2_with fail
      go_roundw
      case rel=>exact⟨i+1,by go_num,aQ,f.o⟩
      case measure=>simp[aL];omega
     |false=>
      go_wp2_with fail
      refine aR J ?_;rintro r C ⟨v,rfl,f⟩;go_wp2_with fail
      go_roundw
      case rel=>exact⟨i+1,by go_num,aQ,f.o⟩
      case measure=>simp[aL];omega
   |false=>
    cases T with
    |true=>
     cases b with
     |true=>
      go_wp2_with fail
      refine aR A ?_;rintro r C ⟨v,rfl,f⟩;go_wp2_with fail
      go_roundw
      case rel=>exact⟨i+1,by go_num,aQ,f.o⟩
      case measure=>simp[aL];omega
     |false=>
      go_wp2_with fail
      refine aR A ?_;rintro r C ⟨v,rfl,f⟩;go_wp2_with fail
      go_roundw
      case rel=>exact⟨i+1,by go_num,aQ,f.o⟩
      case measure=>simp[aL];omega
    |false=>
     cases b with
     |true=>
      by_cases he:e=(i:Int)
      .have O:(e==(i:Int))=true:=by simp[he]
       clear he;go_wp2_with fail
       refine aR A ?_;rintro r C ⟨v,rfl,f⟩;go_wp2_with fail
       go_roundw
       case rel=>exact⟨i+1,by go_num,aQ,f.o⟩
       case measure=>simp[aL];omega
      .have O:(e==(i:Int))=false:=by simp[he]
       clear he;go_wp2_with fail
       go_roundw
       case rel=>exact⟨i+1,by go_num,aQ,t.o⟩
       case measure=>simp[aL];omega
     |false=>
      go_wp2_with fail
      go_roundw
      case rel=>exact⟨i+1,by go_num,aQ,t.o⟩
      case measure=>simp[aL];omega
  .obtain rfl:i=4:=aQ;have f:aH (gF F wr m g c k/\Kp F w wr):=⟨⟨H,a2,n.less (λb hb=> .inl hb)⟩,H1.o.2.trans (hK.mono λb hb=> .inl hb)⟩
   clear n hK;go_wp2_with fail
   go_end0
   exact⟨rfl,f.o.1,f.o.2⟩
end
end
end Go.Proofs.YtacgiflhgdaeaaaGreat
