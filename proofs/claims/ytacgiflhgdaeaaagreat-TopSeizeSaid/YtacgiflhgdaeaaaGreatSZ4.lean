/- Texts laid as one. -/
import Derived.Test.YtacgiflhgdaeaaaGreatSZ1
import Derived.Test.YtacgiflhgdaeaaaGreatSZ3
set_option linter.unusedVariables false
set_option linter.unusedSimpArgs false
set_option maxRecDepth 100000
set_option maxHeartbeats 20000000
namespace Go.Proofs.YtacgiflhgdaeaaaGreat
open Go.Proofs.Tryz
open Go renaming World->aA,Value->aC,Addr->aJ,TypeId->aN,Calls->aG
open Go.RowKit renaming Below->aD,Hid->aH,intOf->aL
open Go.Obj renaming cells->aI
section
open Go.RowKit Go.Lib Go.Shelf
variable{A6 B:Option aJ}{m g n d:Nat}{F:Nat->Prop}{w:aA}{tu:Int}{M:Option Nat}
section
theorem Rh:jL prog 182 331 2 16:=fP (z:= .agg #[bC,aU]) underlying182 aV (by simp[Value.cells]) aQ
section
variable{F:Nat->Prop}{w w' w5:aA}{g n c d:Nat}{E B:Option aJ}{nw tu:Int}{M:Option Nat}{b:Bs}
theorem gG.mpK(h:gG F w g E n c b M B d nw tu)(a:w.grownBy w' (aY B)):Gx KZ w' M b.f:=⟨h.mp.1,λr i=>by
 cases hb:aY B with
 |none=>rw[hb] at a;exact(h.mp.2 r i).same (a.block r (h.mp.2 r i).lt aT)
 |some q=>
  rw[hb] at a;refine(h.mp.2 r i).rI a (λe=>?_);obtain⟨cs,h1⟩:=qJ h.oB q hb;exact zJ (h.mp.2 r i) h1 e⟩
theorem gG.Zf{c6:Nat}{x:Bk}(h:gG F w g E n c b M B d nw tu)(hm:m=b.L.length)(a:bI UT 2 w5 (g+1) 331 A6 c6 (b.L++ [x]))(j:w.grownBy w5 (aY B))(k:aY A6=aY B\/aY A6=some w.heap.size):
 gG F (w5.setCell (g,4) (.slice A6 (m+1) c6)) g E n c {b with L:=b.L++ [x]} M A6 c6 nw tu/\Kp F w (w5.setCell (g,4) (.slice A6 (m+1) c6)):=by
 have l:Kp F w w5:=Kp.grown j λb hb=>⟨h.fl b hb,λe=>h.fB b e.symm hb⟩
 have o:=h.b.grown j (λe=>by have:=(h.oB.lt g e.symm).1;omega);have f:=aZ (bL w5 g) 4 (.slice A6 (m+1) c6);have p:=(h.fl.kp l).self h.fg f;have i:=h.mpK j;refine⟨⟨?_,a.kept f (tG a),⟨i.1,λr s=>(i.2 r s).rI f (zJ (i.2 r s) o)⟩,(h.fl.kp l).kp p,h.fg,λq hq hF=>?_,h.fM⟩,l.trans p⟩
 .have:=o.cB 4 (.slice A6 (m+1) c6);subst hm;simpa[GU] using this
 .rcases k with e|e
  .exact h.fB q (e ▸ hq) hF
  .rw[e] at hq;injection hq with hq;have:=h.fl q hF;omega
theorem gG.Zc{c6:Nat}{R:List Bk}(h:gG F w g E n c b M B d nw tu)(hm:m=R.length)(a:bI UT 2 w (g+1) 331 A6 c6 R)(f:∀q,aY A6=some q->¬F q):
 gG F (w.setCell (g,4) (.slice A6 m c6)) g E n c {b with L:=R} M A6 c6 nw tu/\Kp F w (w.setCell (g,4) (.slice A6 m c6)):=by
 have e:=aZ (bL w g) 4 (.slice A6 m c6);have i:=h.fl.self h.fg e;refine⟨⟨?_,a.kept e (tG a),⟨h.mp.1,λr j=>(h.mp.2 r j).rI e (zJ (h.mp.2 r j) h.b)⟩,h.fl.kp i,h.fg,f,h.fM⟩,i⟩;have:=h.b.cB 4 (.slice A6 m c6);subst hm;simpa[GU] using this
end
theorem SK{c:Nat}{E:Option aJ}{nw:Int}{b:Bs}(h:gG F w g E n c b M B d nw tu)(hb:tH b)(a i:Int)(hl:b.L.length<=2000000):
 aG prog 100 #[.pointer (some ⟨g,1,none⟩),a,i] w λe w'=>e= .returned (.int .i64 (C5 b a))/\(∃M B d,gG F w' g E n c (tK b a i) M B d nw tu)/\Kp F w w':=by
 have j:=aP (RL h a);cases hf:b.f a with
 |none=>
  have C:aH (C5 b a=6/\tK b a i=b):=by unfold aH C5 tK;rw[hf];exact⟨rfl,rfl⟩
  rw[hf] at j;have q:=aP h;clear h hb hf;generalize tK b a i=P at *;generalize C5 b a=U at *;go_enter func100,ntmps100
  go_wp2_with fail
  refine aR j ?_;rintro e V ⟨rfl,rfl⟩;go_wp2_with fail
  go_ret
  exact⟨by rw[C.o.1];rfl,by rw[C.o.2];exact⟨_,_,_,q.o⟩,Kp.refl _ _⟩
 |some s=>
  have C:aH (C5 b a=0):=by unfold aH C5;rw[hf];rfl
  have t:aH (tK b a i=if b.bn<i then {b with f:=gF b.f a none,L:=b.L++ [⟨s,i⟩]} else {b with f:=gF b.f a none,us:=b.us - s}):=by unfold aH tK;rw[hf]
  rw[hf] at j;obtain⟨r,rfl⟩:∃r,M=some r:=by
   cases M with
   |none=>have:=h.mp.1 rfl a;rw[hf] at this;cases this
   |some r=>exact⟨r,rfl⟩
  have hs:=hb.nn a s hf;have R:=Nx hb.nn hf;have S:=yN hb.pn;have D:=hb.all;have G:=hb.top;have l:=wT underlying181 underlying3 (I0 w) (h.mp.2 r rfl) a false;rw[hf] at l;simp only[acO,KZ,afY,acH,acG] at l;obtain⟨u,H,I,W⟩:∃u,iJ KZ u r (gF b.f a none)/\w.grownBy u (some r)/\aH (∀ty,(Builtin.delete_ #[181,3] ty #[.map (some r),a]).run prog w= .ok (.tuple #[]) u):=by
   obtain⟨u,h1,h2,h3⟩:=BN underlying181 underlying3 (h.mp.2 r rfl) a 0;exact⟨u,h2,h3,λty=>h1⟩
  have X:=W.o;have c3:=h.b.cell 3 (.map (some r)) rfl;obtain⟨m7,Y⟩:=h.map H I;have c1:=m7.b.cell 1 b.bn rfl;have J:b.us - s<=4294967296:=aQ;have K:0<=b.us - s:=aQ;have Z:IntKind.u64.wrap (b.us - s)=b.us - s:=by rw[IntKind.wrap_u64];omega
  have q:=bP m7 Y;clear h hb hf S D G R H I m7 Y W;generalize tK b a i=P at *;generalize C5 b a=U at *;by_cases Q:b.bn<i
  .have x:aH (P={b with f:=gF b.f a none,L:=b.L++ [⟨s,i⟩]}):=by have:=t.o;rw[abP Q] at this;exact this
   clear t Z J K;have c4:=q.o.1.b.cell 4 (.slice B b.L.length d) rfl;obtain⟨m,hm⟩:∃m,m=b.L.length:=⟨_,rfl⟩
   try simp only at c4
   rw[<-hm] at c4 hl;have HN:=aP hm;clear hm;obtain⟨bn,p⟩:∃bn,bn=b.bn:=⟨_,rfl⟩
   rw[<-p] at c1 Q;clear p;go_enter func100,ntmps100
   go_wp2_with fail
   refine aR j ?_;rintro e V ⟨rfl,rfl⟩;have m8:=q.o.1.keep (aX u (aI #[.int .u64 s,i] 331));have k:=aP (And.intro m8 (q.o.2.trans (q.o.1.fl.below (aX u (aI #[.int .u64 s,i] 331)))));clear m8;go_wp2_with(at_builtin;refine bS _ rfl _ _ rfl Rh BW k.o.1.oB (n:=m) HN.o.symm rfl (m:=1) rfl (ys:= [⟨s,i⟩]) rfl (Sl.new BW u ⟨s,i⟩ _ rfl _) dN aQ (by have:=k.o.1.b.lt;omega) _ rfl (m+1) rfl ?_;intro A6 c6 w6 y z N;(have T:=(k.o.1.b.grown z (λe=>by have:=(k.o.1.oB.lt g e.symm).1;omega)));(have f6:=T.frozen 4);(have d6:=T.cell 4 _ rfl);(have A:=aP (k.o.1.Zf HN.o y z N));clear T y z N)
   have HR:aH (Ending.returned (.int .i64 0)=Ending.returned (.int .i64 U)/\(∃M B d,gG F (w6.setCell (g,4) (.slice A6 (m+1) c6)) g E n c P M B d nw tu)/\Kp F w (w6.setCell (g,4) (.slice A6 (m+1) c6))):=
    ⟨by rw[C.o],by rw[x.o];exact⟨_,_,_,A.o.1⟩,k.o.2.trans A.o.2⟩
   exact bodyPost_ret (v:= .int .i64 0) (by simp[results,results100,go_sem]) rfl HR.o
  .have x:aH (P={b with f:=gF b.f a none,us:=b.us - s}):=by have:=t.o;rw[abQ Q] at this;exact this
   clear t;have c2:=q.o.1.b.cell 2 (.int .u64 b.us) rfl;have f2:=q.o.1.b.frozen 2;have A:=aP (q.o.1.VC (b.us - s));obtain⟨bn,p⟩:∃bn,bn=b.bn:=⟨_,rfl⟩
   rw[<-p] at c1 Q;clear p;obtain⟨us,O⟩:∃us,us=b.us:=⟨_,rfl⟩
   rw[<-O] at c2 Z J K A x;clear O;go_enter func100,ntmps100
   go_wp2_with fail
   refine aR j ?_;rintro e V ⟨rfl,rfl⟩;go_wp2_with fail
   go_ret
   exact⟨by rw[C.o];rfl,by rw[x.o];exact⟨_,_,_,A.o.1⟩,q.o.2.trans A.o.2⟩
end
variable{r:Option Nat}
section
structure Xv(F:Nat->Prop)(H g:Nat)(B:Option aJ)(M:Option Nat):Prop where
 g:g<H
 B:∀q,aY B=some q->q<H
 M:∀r,M=some r->r<H
 F:∀b,F b->b<H
section
variable{F:Nat->Prop}{w w' w5:aA}{g n c d H:Nat}{E B:Option aJ}{nw tu:Int}{M:Option Nat}{b:Bs}
theorem gG.lo(h:gG F w g E n c b M B d nw tu):Xv F w g B M:=⟨h.b.lt,λq hq=>(h.oB.lt q hq).2,λr a=>(h.mp.2 r a).lt,h.fl⟩
theorem gG.beside(h:gG F w g E n c b M B d nw tu)(a:w.grownBy w' r)(l:Xv F H g B M)(f:∀q,r=some q->H<=q):gG F w' g E n c b M B d nw tu/\Kp F w w':=by
 have k:Kp F w w':=Kp.grown a λb hb=>⟨h.fl b hb,λe=>by have:=f b e.symm;have:=l.F b hb;omega⟩
 refine⟨⟨h.b.grown a (λe=>by have:=f g e.symm;have:=l.g;omega),h.oB.kept a ?_,⟨h.mp.1,λq hq=>(h.mp.2 q hq).same (a.block q (h.mp.2 q hq).lt (λe=>by have:=f q e.symm;have:=l.M q hq;omega))⟩,h.fl.kp k,h.fg,h.fB,h.fM⟩,k⟩;cases hb:aY B with
 |none=>exact .inl rfl
 |some q=>right;intro e;have:=f q e.symm;have:=l.B q hb;omega
end
theorem R1(now:Int){l:List Bk}(h:∀p∈l,0<=p.sh)(j:Nat):iE (mF now (l.take j))<=iE l:=by
 have h1:=DF now (l.take j);have e:0<=iE (vH now (l.take j)):=yN λp hp=>h p (ae7 (ac1.1 hp).1)
 have f:iE l=iE (l.take j)+iE (l.drop j):=by
  have a:iE (l.take j++l.drop j)=iE (l.take j)+iE (l.drop j):=by simp[iE, -List.take_append_drop]
  rw[List.take_append_drop] at a;exact a
 have i:0<=iE (l.drop j):=yN λp hp=>h p (List.mem_of_mem_drop hp)
 omega
structure X9(F:Nat->Prop)(w wr:aA)(g:Nat)(E:Option aJ)(n c:Nat)(b:Bs)(M:Option Nat)(B:Option aJ)(d:Nat)(nw tu now us:Int)(k:Nat)(A:Option aJ)(c6:Nat)(R:List Bk):Prop where
 m:gG F wr g E n c {b with bn:=now,us:=us} M B d nw tu
 o:bI UT 2 wr w.heap.size 331 A c6 R
 kp:Kp F w wr
 eR:R=vH now (b.L.take k)
 eu:us=b.us - iE (mF now (b.L.take k))
 sz:w.heap.size<=wr.heap.size
theorem R0{c:Nat}{E:Option aJ}{nw:Int}{b:Bs}(h:gG F w g E n c b M B d nw tu)(hb:tH b)(now:Int)(hl:b.L.length<=2000000):
 aG prog 111 #[.pointer (some ⟨g,1,none⟩),now] w λe w'=>(∃v:Int,e= .returned (.int .i64 v))/\(∃M B d,gG F w' g E n c (l7 b now) M B d nw tu)/\Kp F w w':=by
 have c1:=h.b.cell 1 b.bn rfl;have f1:=h.b.frozen 1;obtain⟨bn,T⟩:∃bn,bn=b.bn:=⟨_,rfl⟩
 rw[<-T] at c1;have HBN:=aP T;clear T;by_cases hn:now<bn
 .have U:aH (l7 b now=b):=by unfold aH l7;rw[abP (by rw[<-HBN.o];exact hn)]
  have HM:=aP h;clear h hb;generalize l7 b now=b' at *;go_enter func111,ntmps111
  go_wp2_with fail
  go_ret
  exact⟨⟨0,rfl⟩,by rw[U.o];exact⟨_,_,_,HM.o⟩,Kp.refl _ _⟩
 .have U:aH (l7 b now={b with bn:=now,us:=b.us - iE (mF now b.L),L:=vH now b.L}):=by unfold aH l7;rw[abQ (by rw[<-HBN.o];exact hn)]
  obtain⟨m1,k1⟩:=h.Wr now;have G:=aP h.lo;have t:=aP hb;have c4:=m1.b.cell 4 (.slice B b.L.length d) rfl;obtain⟨m,hm⟩:∃m,m=b.L.length:=⟨_,rfl⟩
  rw[<-hm] at c4 hl;have HN:=aP hm;have H1:aH (X9 F w (w.setCell (g,1) now) g E n c b M B d nw tu now b.us 0 none 0 []):=⟨m1,bI.nil _ _ _,k1,rfl,by simp[mF,iE],k1.size⟩
  clear h hb m1 k1 hm;generalize l7 b now=b' at *;go_enter func111,ntmps111
  go_upto_region 4 with(fail)
  generalize w.setCell (g,1) now=w1 at *;clear c1 f1;go_wp2_with fail
  go_loopw [5,6,8,28] (λv5 v6 _ v28 wr=>∃(k:Nat) (V us:Int) (A:Option aJ) (c6 r:Nat) (R:List Bk),v5= .int .i64 V/\v6= .slice A r c6/\v28= .int .i64 k/\k<=m/\0<=V/\V<=k/\r<=k/\aH (r=R.length)/\aH (X9 F w wr g E n c b M B d nw tu now us k A c6 R)) (λ_ _ _ v28 _=>m - (aL v28).toNat)
  case atStart=>exact⟨0,0,b.us,none,0,0, [],rfl,rfl,rfl,abX _,aQ,aQ,abM _,rfl,H1⟩
  case round=>
   clear H1 c4;obtain⟨k,V,us,A,c6,r,R,rfl,rfl,rfl,hk,hg0,hg1,hrk,I,a⟩:=hrel;by_cases hkm:k<m
   .have f:k<b.L.length:=by rw[<-HN.o];exact hkm
    obtain⟨q,rfl⟩:∃q,B=some ⟨q,0,none⟩:=by
     rcases a.o.m.oB.shape with⟨_,h2,_⟩|h2
     .simp only at h2;rw[h2] at f;simp at f
     .exact h2
    have e0:=bN BW a.o.m.oB (i:=k) f (j:=0) (v:= .int .u64 b.L[k].sh) rfl;have e1:=bN BW a.o.m.oB (i:=k) f (j:=1) (v:= .int .i64 b.L[k].un) rfl;rw[acC] at e0;have hy:=t.o.pn _ (abV f);have hle:=R1 now t.o.pn (k+1);have l:=VX now (b.L.take k) b.L[k];have u:=XQ now (b.L.take k) b.L[k];have x:b.L.take (k+1)=b.L.take k++ [b.L[k]]:=by rw[acV,abL f];rfl
    rw[<-x] at l u;have O:=t.o.all;have hsF:=TU t.o.nn;have P:=t.o.top;have W:=a.o.eu;have J:=a.o.eR;obtain⟨y,X⟩:∃y,y=b.L[k]:=⟨_,rfl⟩
    rw[<-X] at e0 e1 hy l u;have i0:(0:Int)<=k:=aQ;have i1:(k:Int)<(m:Int):=aQ;have s:=aP (aX wr (aI #[.int .u64 y.sh,y.un] 331));have yb:=bE.new wr 331 #[.int .u64 y.sh,y.un];have m2:=a.o.m.keep s.o;have o2:=a.o.o.keep s.o;have k2:=a.o.kp.trans (a.o.m.fl.below s.o);by_cases hu:y.un<=now
    .have hgs:iE (mF now (b.L.take (k+1)))=iE (mF now (b.L.take k))+y.sh:=by rw[l,abP hu,OZ]
     have hge:0<=us - y.sh:=aQ;have hlt:us - y.sh<=4294967296:=by
      have:0<=iE (mF now (b.L.take k)):=yN λp hp=>t.o.pn p (ae7 (ac1.1 hp).1)
      omega
     have HA:aH (us - y.sh=b.us - iE (mF now (b.L.take (k+1)))/\R=vH now (b.L.take (k+1))):=⟨aQ,by rw[u,abP hu,aeF];exact J⟩
     have z1:IntKind.u64.wrap (us - y.sh)=us - y.sh:=by rw[IntKind.wrap_u64];omega
     have c2:=m2.b.cell 2 (.int .u64 us) rfl;have D:=dH m2 o2 k2;have jM:w.heap.size<=(wr.alloc (aI #[.int .u64 y.sh,y.un] 331)).heap.size:=abT a.o.sz s.o.size;have Y:=aP jM;clear hgs l u x O hsF P W J X hle m2 o2 k2 a f jM;go_upto_region 11 with(fail)
     clear e0 e1 s;generalize wr.alloc (aI #[.int .u64 y.sh,y.un] 331)=w3 at *;generalize wr.heap.size=yq at *;have x0:=yb.cell 0 (.int .u64 y.sh) rfl;clear yb;have K:=bD x0;have N:=bD c2;refine bM (bQ _) (λ_=>bQ) [] (λ_ _ _=>True) [9] [] 57 (bZ _) (λ_ _ _ h hz=>bV h hz) (λ_ d hd _ v w w' _ h hz=>by cases hd) aV aV bF ?_;repeat refine eK ?_
     refine dI ?_;intro γ w5 z hT;clear K N;simp only[cY,Act.put,abN,abU,abS];refine dS ?_;have m5:=D.o.1.keep z;have o5:=D.o.2.1.keep z;have k5:=D.o.2.2.trans (D.o.1.fl.below z);refine dZ w5 rfl 75 _ _ rfl g 2 (.int .u64 (us - y.sh)) rfl rfl aV rfl (m5.b.one (by simp[GU])) ?_;refine cN ?_;try simp only[Act.put]
     obtain⟨m6,k6⟩:=m5.VC (us - y.sh);have o6:=o5.kept (aZ (bL w5 g) 2 (.int .u64 (us - y.sh))) (o5.ne (p:=⟨g,2,none⟩) (B:=w.heap.size) G.o.g (abM _));have HF:aH (X9 F w (w5.setCell (g,2) (.int .u64 (us - y.sh))) g E n c b M (some ⟨q,0,none⟩) d nw tu now (us - y.sh) (k+1) A c6 R):=⟨m6,o6,k5.trans k6,HA.o.2,HA.o.1,abT Y.o (abT z.size k6.size)⟩
     clear m5 o5 k5 m6 k6 o6 hT z c2 x0;go_wp2_with fail
     go_roundw
     case rel=>exact⟨k+1,V+1,us - y.sh,A,c6,r,R,by go_num,rfl,by go_num,aQ,aQ,aQ,aQ,I,HF⟩
     case measure=>simp[aL];omega
    .have HA:aH (us=b.us - iE (mF now (b.L.take (k+1)))/\R++ [y]=vH now (b.L.take (k+1))):=⟨by rw[l,abQ hu,aeF];exact W,by rw[u,abQ hu];rw[J]⟩
     have hus0:0<=us:=by
      have:iE (mF now (b.L.take (k+1)))=iE (mF now (b.L.take k)):=by rw[l,abQ hu,aeF]
      omega
     have Y:aH (w.heap.size<=(wr.alloc (aI #[.int .u64 y.sh,y.un] 331)).heap.size):=abT a.o.sz s.o.size;have D:=dH m2 o2 k2;clear l u x O hsF P W J X hle m2 o2 k2 a f hus0;go_upto_region 12 with(fail)
     clear e0 e1 s;generalize wr.alloc (aI #[.int .u64 y.sh,y.un] 331)=w3 at *;generalize wr.heap.size=yq at *;have x0:=yb.cell 0 (.int .u64 y.sh) rfl;have x1:=yb.cell 1 y.un rfl;clear yb;have C:=aX w3 (aI #[.int .u64 y.sh,y.un] 331);have H4:=dH (D.o.1.keep C) (D.o.2.1.keep C) (D.o.2.2.trans (D.o.1.fl.below C));have Q:aH (w.heap.size<=(w3.alloc (aI #[.int .u64 y.sh,y.un] 331)).heap.size):=abT Y.o C.size;clear C;go_wp2_with(at_builtin;refine bS _ rfl _ _ rfl Rh BW H4.o.2.1 (n:=r) I.o.symm rfl (m:=1) rfl (ys:= [y]) rfl (Sl.new BW w3 y _ rfl _) dN aQ Q.o _ rfl (r+1) rfl ?_;intro A6 c7 w6 S Z at6;(have a1:=H4.o.1.beside Z G.o (λq hq=>(H4.o.2.1.lt q hq).1));(have HF:aH (X9 F w w6 g E n c b M (some ⟨q,0,none⟩) d nw tu now us (k+1) A6 c7 (R++ [y])):=⟨a1.1,S,H4.o.2.2.trans a1.2,HA.o.2,HA.o.1,abT Q.o Z.size⟩);clear S Z at6 a1 H4 D)
     go_roundw
     case rel=>exact⟨k+1,V,us,A6,c7,r+1,R++ [y],rfl,rfl,by go_num,aQ,aQ,aQ,aQ,by show r+1=(R++ [y]).length;rw[ab2,<-I.o];rfl,HF⟩
     case measure=>simp[aL];omega
   .obtain rfl:k=m:=aQ;have i1:¬(k:Int)<(k:Int):=aQ;have x:b.L.take k=b.L:=ab8 (by rw[<-HN.o];exact abM _);have f4:=a.o.m.b.frozen 4;have c4:=a.o.m.b.cell 4 (.slice B b.L.length d) rfl;have HF:=aP (a.o.m.Zc (A6:=A) (c6:=c6) I.o (a.o.o.from_ (by have:=G.o.g;omega)) (λq hq hF=>by have:=(a.o.o.lt q hq).1;have:=G.o.F q hF;omega));have HB3:aH (b'={b with bn:=now,us:=us,L:=R}):=by unfold aH;rw[U.o,a.o.eu,a.o.eR,x]
    have HK:=aP (a.o.kp.trans HF.o.2);clear a x;go_wp2_with fail
    go_ret
    exact⟨⟨V,rfl⟩,by rw[HB3.o];exact⟨_,_,_,HF.o.1⟩,HK.o⟩
end
end
variable{T T' bu pe:Int}
section
section
structure rX(T:Int)(s:Sv):Prop where
 b:QE s
 rp:∀r∈s.rf,1<=r.am/\r.at_<=T+s.pe
 cd:∀x∈s.ch,x.de<=T+s.pe
 ro:s.rf.Pairwise λx y=>x.at_<=y.at_
 nw:0<=s.nw/\s.nw<=T
 cg:0<=s.cg/\s.cg<=T
theorem rX.mono{s:Sv}(h:rX T s)(d:T<=T'):rX T' s:=
 ⟨h.b,λr a=>⟨(h.rp r a).1,by have:=(h.rp r a).2;omega⟩,λx c=>by have:=h.cd x c;omega,h.ro,⟨h.nw.1,by have:=h.nw.2;omega⟩,⟨h.cg.1,by have:=h.cg.2;omega⟩⟩
def wJ(bu pe:Int):Sv:=⟨bu,pe,0,bu, [], [],0⟩
theorem rX.new(h:1<=bu/\bu<=pe/\pe<=1048576)(a:0<=T):rX T (wJ bu pe):=by
 refine⟨⟨?_,?_,?_,?_,h,?_,?_⟩,?_,?_,?_,⟨?_,a⟩,⟨?_,a⟩⟩ <;> simp[wJ,sE,pD]
 omega
theorem Js{l:List Ck}(h:∀x∈l,1<=x.lf/\0<=x.us):(l.length:Int)<=sE l:=by
 induction l with
 |nil=>simp[sE]
 |cons r l a=>
  have:=h r aT;have:=a λr b=>h r (by simp[b])
  rw[oI];simp only[acN];omega
theorem Gg{l:List Rl}(h:∀r∈l,1<=r.am):(l.length:Int)<=pD l:=by
 induction l with
 |nil=>simp[pD]
 |cons r l a=>
  have:=h r aT;have:=a λr b=>h r (by simp[b])
  rw[BA];simp only[acN];omega
theorem rX.len{s:Sv}(h:rX T s):s.rf.length+s.ch.length<=1048576:=by
 have h1:=Js h.b.ch;have c:=Gg λr a=>(h.rp r a).1
 have:=h.b.all;have:=h.b.bu;have:=h.b.av;omega
theorem BS(now:Int):∀(l:List Rl) (av:Int),(rD now av l).2<:+l
 | [],_=>List.suffix_refl _
 |r::l,av=>by
  unfold rD;split
  .exact(BS now l _).trans (List.suffix_cons r l)
  .exact List.suffix_refl _
def BF(s:Sv):Bool:=!s.rf.isEmpty || s.ch.any λx=>decide (0<x.us)
theorem uD{s:Sv}(h:BF s=false):s.rf= []/\∀x∈s.ch,¬0<x.us:=by
 unfold BF at h;rw[Bool.or_eq_false_iff] at h;refine⟨by simpa using h.1,λx a hu=>?_⟩;have:=List.any_eq_false.1 h.2 x a;simp[hu] at this
theorem zY{s:Sv}(h:s.rf= [])(a:∀x∈s.ch,¬0<x.us):BF s=false:=by
 unfold BF;rw[h,Bool.or_eq_false_iff];exact⟨rfl,List.any_eq_false.2 λx b=>by simp;have:=a x b;omega⟩
theorem I4{T:Int}(bu pe:Int):∀(l:List Ck) (s:Sv),0<=s.av->(∀x∈l,1<=x.lf/\0<=x.us/\x.de<=T+pe)->(∀r∈s.rf,1<=r.am/\r.at_<=T+pe)->s.rf.Pairwise (λx y=>x.at_<=y.at_)->l.Pairwise (λx y=>x.de<=y.de)->(∀r∈s.rf,∀x∈l,r.at_<=x.de)->s.av+sE l+pD s.rf=bu->
 0<=(l.foldl iH s).av/\(∀r∈(l.foldl iH s).rf,1<=r.am/\r.at_<=T+pe)/\(l.foldl iH s).rf.Pairwise (λx y=>x.at_<=y.at_)/\(l.foldl iH s).av+pD (l.foldl iH s).rf=bu/\(l.foldl iH s).bu=s.bu/\(l.foldl iH s).pe=s.pe/\(l.foldl iH s).nw=s.nw/\(l.foldl iH s).cg=s.cg/\((s.rf= []/\∀x∈l,¬0<x.us)->(l.foldl iH s).rf= [])
 | [],s,h1,_,f,g,_,_,i=>⟨h1,f,g,by simpa[sE] using i,rfl,rfl,rfl,rfl,λh=>h.1⟩
 |x::l,s,h1,h2,f,g,h5,j,i=>by
  have q:=h2 x aT;rw[oI] at i;have e:=aeQ.1 h5;rw[ad4];by_cases hu:x.us=0
  .have k:iH s x={s with av:=s.av+x.lf}:=by unfold iH mX;rw[abP hu]
   rw[k];obtain⟨m,a2,a3,a4,a5,n,o,p,a9⟩:=I4 bu pe l {s with av:=s.av+x.lf} (by simp only;omega) (λy d=>h2 y (by simp[d])) f g e.2 (λr c y d=>j r c y (by simp[d])) (by simp only;omega);exact⟨m,a2,a3,a4,a5,n,o,p,λh=>a9 ⟨h.1,λy d=>h.2 y (by simp[d])⟩⟩
  .have k:iH s x={s with av:=s.av+x.lf,rf:=s.rf++ [⟨x.de,x.us⟩]}:=by unfold iH mX;rw[abQ hu]
   rw[k];obtain⟨m,a2,a3,a4,a5,n,o,p,a9⟩:=I4 (T:=T) bu pe l {s with av:=s.av+x.lf,rf:=s.rf++ [⟨x.de,x.us⟩]} (by simp only;omega) (λy d=>h2 y (by simp[d])) (λr c=>by
    rcases ab6.1 c with c|c
    .exact f r c
    .rw[ab0.1 c];exact⟨by simp only;omega,q.2.2⟩) (aeG.2 ⟨g,aeH _ _,λa ha b hb=>by rw[ab0.1 hb];exact j a ha x aT⟩) e.2 (λr c y d=>by
    rcases ab6.1 c with c|c
    .exact j r c y (by simp[d])
    .rw[ab0.1 c];exact e.1 y d) (by simp only;rw[EL];simp only;omega)
   exact⟨m,a2,a3,a4,a5,n,o,p,λh=>absurd (show 0<x.us by omega) (h.2 x aT)⟩
theorem rX.pop{s:Sv}(h:rX T s)(c:0<=T):rX T (uO T s):=by
 have hs:=BS T s.rf s.av;have hm:∀r∈(rD T s.av s.rf).2,r∈s.rf:=λr a=>hs.subset a
 exact⟨h.b.pop T,λr a=>h.rp r (hm r a),h.cd,h.ro.sublist hs.sublist,⟨c,adL _⟩,h.cg⟩
theorem rX.begin{s:Sv}(h:rX T s)(n:0<=T)(rd:Bool):rX T (kI s T rd)/\(kI s T rd).nw=T/\(BF s=false->BF (kI s T rd)=false)/\(kI s T rd).bu=s.bu/\(kI s T rd).pe=s.pe:=by
 have hp:=h.pop n;have f:=BS T s.rf s.av;have hu:BF s=false->(uO T s).rf= []:=λhu=>by
  have h1:=(uD hu).1;have k:(uO T s).rf<:+s.rf:=f;rw[h1] at k;exact List.suffix_nil.1 k
 have i:=hp.b.av;have g:=hp.b.all;unfold kI;cases rd with
 |false=>
  simp only[acH,acG];obtain⟨o,a2,a3,a4,a5,j,l,p,a9⟩:=I4 (T:=T) s.bu s.pe s.ch (uO T s) i (λx c=>⟨(hp.b.ch x c).1,(hp.b.ch x c).2,hp.cd x c⟩) hp.rp hp.ro hp.b.ord hp.b.CC g;refine⟨⟨⟨o,aT,λr e=>by have:=(a2 r e).1;omega,by simp only[sE,List.map_nil,List.sum_nil,Int.add_zero];rw[a4,a5];rfl,by simp only;rw[a5,j];exact hp.b.bu,aT,aT⟩,λr e=>by simp only;rw[j];exact a2 r e,aT,a3,by simp only;rw[l];exact hp.nw,by simp only;rw[p];exact hp.cg⟩,l,λd=>zY (a9 ⟨hu d,λx c=>(uD d).2 x c⟩) aT,a5,j⟩
 |true=>
  simp only[ac3];split
  .rename_i m;refine⟨⟨⟨?_,?_,hp.b.rf,?_,hp.b.bu,?_,?_⟩,hp.rp,?_,hp.ro,hp.nw,hp.cg⟩,rfl,λd=>zY (hu d) λx c=>?_,rfl,rfl⟩
   .simp
   .intro x c;rcases ab6.1 c with c|c
    .exact hp.b.ch x c
    .rw[ab0.1 c];exact⟨by simp only;omega,aT⟩
   .simp only[Az];omega
   .refine aeG.2 ⟨hp.b.ord,aeH _ _,λa ha b hb=>?_⟩;rw[ab0.1 hb];exact hp.cd a ha
   .intro r e x c;rcases ab6.1 c with c|c
    .exact hp.b.CC r e x c
    .rw[ab0.1 c];exact(hp.rp r e).2
   .intro x c;rcases ab6.1 c with c|c
    .exact hp.cd x c
    .rw[ab0.1 c];exact adL _
   .rcases ab6.1 c with c|c
    .exact(uD d).2 x c
    .rw[ab0.1 c];simp
  .exact⟨hp,rfl,λd=>zY (hu d) (uD d).2,rfl,rfl⟩
theorem rX.run{T:Int}{s:Sv}(h:rX T s){x:Ck}{xs:List Ck}(hs:s.ch=x::xs):rX (T+1) (C4 s)/\(C4 s).bu=s.bu/\(C4 s).pe=s.pe:=by
 have m:=h.b.ch x (by rw[hs];simp);have g:=h.b.bu;have k:=h.cd x (by rw[hs];simp);have i:=h.b.all;rw[hs,oI] at i;have f:=h.b.ord;rw[hs] at f;have e:=aeQ.1 f;have hm:∀y∈xs,y∈s.ch:=λy c=>by rw[hs];simp[c]
 have n:=h.nw;have hc:=h.cg;unfold C4;rw[hs];simp only;split
 .rename_i l;have j:¬(x.us+1=0):=aQ;unfold mX;simp only[abQ j];refine⟨⟨⟨h.b.av,λy c=>h.b.ch y (hm y c),λr d=>?_,?_,g,e.2,λr d y c=>?_⟩,λr d=>?_,λy c=>by have:=h.cd y (hm y c);simp only;omega,aeG.2 ⟨h.ro,aeH _ _,λa ha b hb=>?_⟩,by simp only;omega,by simp only;omega⟩,by first|exact⟨rfl,rfl⟩|trivial⟩
  .rcases ab6.1 d with d|d
   .exact h.b.rf r d
   .rw[ab0.1 d];simp only;omega
  .simp only[EL];omega
  .rcases ab6.1 d with d|d
   .exact h.b.CC r d y (hm y c)
   .rw[ab0.1 d];exact e.1 y c
  .rcases ab6.1 d with d|d
   .have:=h.rp r d;simp only;omega
   .rw[ab0.1 d];simp only;omega
  .rw[ab0.1 hb];exact h.b.CC a ha x (by rw[hs];simp)
 .rename_i l;refine⟨⟨⟨h.b.av,λy c=>?_,h.b.rf,?_,g,?_,λr d y c=>?_⟩,λr d=>by have:=h.rp r d;simp only;omega,λy c=>?_,h.ro,by simp only;omega,by simp only;omega⟩,by first|exact⟨rfl,rfl⟩|trivial⟩
  .rcases adV.1 c with rfl|c
   .simp only;omega
   .exact h.b.ch y (hm y c)
  .simp only[oI];omega
  .exact aeQ.2 ⟨λy c=>e.1 y c,e.2⟩
  .rcases adV.1 c with rfl|c
   .exact h.b.CC r d x (by rw[hs];simp)
   .exact h.b.CC r d y (hm y c)
  .rcases adV.1 c with rfl|c
   .simp only;omega
   .have:=h.cd y (hm y c);simp only;omega
def yJ(l:List Rl):Int:=l.foldl (λa r=>max a r.at_) 0
def yH(a:Int)(l:List Ck):Int:=l.foldl (λa x=>if 0<x.us then max a x.de else a) a
def sY(s:Sv):Int:=yH (yJ s.rf) s.ch
theorem K9{a:Int}:∀{l:List Ck},(∀x∈l,¬0<x.us)->yH a l=a
 | [],_=>rfl
 |x::l,h=>by
  have:=K9 (a:=a) (l:=l) (λy b=>h y (by simp[b]));unfold yH at *;rw[ad4,abQ (h x aT)];exact this
theorem LN{s:Sv}(h:BF s=false):sY s=0:=by
 unfold sY;rw[K9 (uD h).2,(uD h).1];rfl
theorem VH(l:List Rl)(r:Rl):yJ (l++ [r])=max (yJ l) r.at_:=by simp[yJ]
theorem V0(a:Int)(l:List Ck)(x:Ck):yH a (l++ [x])=if 0<x.us then max (yH a l) x.de else yH a l:=by simp[yH]
end
end
section
open Go.RowKit Go.Lib Go.Shelf
variable{F:Nat->Prop}{w:aA}{g:Nat}
section
theorem YX{s:Sv}(h:sO F w g s)(hl:s.rf.length+s.ch.length<=2000000):
 aG prog 99 #[.pointer g] w λe w'=>e= .returned (.int .i64 (sY s))/\aD w w w':=by
 obtain⟨A,c,B,d,h⟩:=h;have c4:=h.b.cell 4 (.slice A s.ch.length c) rfl;have c5:=h.b.cell 5 (.slice B s.rf.length d) rfl;have I:=aP h;obtain⟨n,D⟩:∃n,n=s.rf.length:=⟨_,rfl⟩
 obtain⟨m,hm⟩:∃m,m=s.ch.length:=⟨_,rfl⟩
 rw[<-D] at c5 hl;rw[<-hm] at c4 hl;have C:=bP D hm;clear h D hm;go_enter func99,ntmps99
 go_wp2_with fail
 go_loopw [3,16] (λv3 r wr=>∃(k:Nat) (x:Int),r= .int .i64 k/\v3= .int .i64 x/\k<=n/\aH (x=yJ (s.rf.take k))/\aD w w wr) (λ_ r _=>n - (aL r).toNat)
 case atStart=>exact⟨0,0,rfl,rfl,abX _,rfl,Below.refl _ _⟩
 case round=>
  obtain⟨k,x,rfl,rfl,hk,t,a⟩:=hrel;by_cases J:k<n
  .have u:k<s.rf.length:=by have:=C.o.1;omega
   obtain⟨b,off,rfl,Q,R⟩:=((I.o.oB.sl pN).keep a).Ll u;have S:(0:Int)<=k:=aQ;have K:(k:Int)<(n:Int):=aQ;have i:s.rf.take (k+1)=s.rf.take k++ [s.rf[k]]:=by rw[acV,abL u];rfl
   have l:aH (yJ (s.rf.take (k+1))=max x s.rf[k].at_):=by unfold aH;rw[i,VH,<-t.o]
   clear i;generalize s.rf[k]=y at *;have p:=aP (a.alloc a.size (aI #[y.at_,y.am] 327));clear a;by_cases E:x<y.at_
   all_goals
    go_wp2_with fail
    go_roundw
    case rel=>exact⟨k+1,_,by go_num,rfl,aQ,by show _=_;rw[l.o];omega,p.o⟩
    case measure=>simp[aL];omega
  .obtain rfl:k=n:=aQ;have K:¬(k:Int)<(k:Int):=aQ;replace c4:=bK a c4;have G:aH (x=yJ s.rf):=by show x=_;rw[t.o,ab8 (by have:=C.o.1;omega)]
   clear t;go_wp2_with fail
   go_loopw [3,30] (λv3 v30 L=>∃(j:Nat) (x:Int),v30= .int .i64 j/\v3= .int .i64 x/\j<=m/\aH (x=yH (yJ s.rf) (s.ch.take j))/\aD w w L) (λ_ v30 _=>m - (aL v30).toNat)
   case atStart=>exact⟨0,x,rfl,rfl,abX _,G,a⟩
   case round=>
    clear a c4;obtain⟨j,x,rfl,rfl,T,t,a⟩:=hrel;by_cases M:j<m
    .have f:j<s.ch.length:=by have:=C.o.2;omega
     have z:=I.o.oA.keep (w':=wr) a;obtain⟨q,rfl⟩:∃q,A=some ⟨q,0,none⟩:=by
      rcases z.shape with⟨_,H,_⟩|H
      .rw[H] at f;simp at f
      .exact H
     have N:=bN kZ z f (j:=0) (v:= .int .i64 s.ch[j].lf) rfl;have U:=bN kZ z f (j:=1) (v:= .int .i64 s.ch[j].us) rfl;have V:=bN kZ z f (j:=2) (v:= .int .i64 s.ch[j].de) rfl;rw[acC] at N;have W:(0:Int)<=j:=aQ;have O:(j:Int)<(m:Int):=aQ;clear z;have i:s.ch.take (j+1)=s.ch.take j++ [s.ch[j]]:=by rw[acV,abL f];rfl
     have l:aH (yH (yJ s.rf) (s.ch.take (j+1))=if 0<s.ch[j].us then max x s.ch[j].de else x):=by unfold aH;rw[i,V0,<-t.o]
     clear i;generalize s.ch[j]=y at *;have p:=aP (a.alloc a.size (aI #[y.lf,y.us,y.de] 329));clear a;by_cases hu:0<y.us
     .by_cases E:x<y.de
      all_goals
       go_wp2_with fail
       go_roundw
       case rel=>exact⟨j+1,_,by go_num,rfl,aQ,by show _=_;rw[l.o,abP hu];omega,p.o⟩
       case measure=>simp[aL];omega
     .go_wp2_with fail
      go_roundw
      case rel=>exact⟨j+1,_,by go_num,rfl,aQ,by show _=_;rw[l.o,abQ hu],p.o⟩
      case measure=>simp[aL];omega
    .obtain rfl:j=m:=aQ;have O:¬(j:Int)<(j:Int):=aQ;go_wp2_with fail
     go_ret
     have P:x=sY s:=by rw[t.o,ab8 (by have:=C.o.2;omega)];rfl
     exact⟨by rw[<-P];rfl,a⟩
theorem Jr(bu pe:Int)(w:aA)(l:nP bu pe=true):aG prog 97 #[.agg #[bu,pe]] w λe w'=>∃g,e= .returned (.tuple #[.pointer (some ⟨g,0,none⟩),aU])/\w.heap.size<=g/\sO (λb=>b<w.heap.size) w' g (wJ bu pe)/\aD w w w':=by
 have d:=aP (λW=>DH bu pe W);rw[l] at d;have c:=aX w (aI #[bu,pe] 112);have f:=bE.new w 112 #[bu,pe];go_enter func97,ntmps97
 go_upto_region 1 with(fail)
 generalize w.alloc (aI #[bu,pe] 112)=w1 at *;generalize hq:w.heap.size=q at f⊢;have j:=f.cell 0 bu rfl;have k:=f.cell 1 pe rfl;go_wp2_with fail
 refine aS (d.o _) ?_;rintro e h ⟨rfl,a⟩;replace j:=bK a j;replace k:=bK a k;have i:=aP (c.trans (Below.mono a c.size));clear c a;go_wp2_with fail
 have m:w.heap.size<=h.heap.size:=i.o.size;exact bodyPost_ret (v:= .tuple #[.pointer h.heap.size,aU]) (by simp[results,results97,go_sem]) rfl ⟨h.heap.size,rfl,m,⟨none,0,none,0,bE.new _ _ _,bI.nil _ _ _,bI.nil _ _ _,λb hb=>by have:=hb;simp;omega,aQ,λq hq=>(by cases hq),λq hq=>(by cases hq)⟩,i.o.alloc i.o.size _⟩
end
def Fo(w:aA)(ow:Nat->Nat)(i:Nat):Nat->Prop:=λb=>b<w.heap.size/\ow b≠i
def nx(w:aA)(ow:Nat->Nat)(i:Nat):Nat->Nat:=λb=>if b<w.heap.size then ow b else i
def dV(X:(Nat->Prop)->aA->Prop):Prop:=∀(F G H:Nat->Prop) (w w':aA),X F w->Kp G w w'->(∀r,r<w.heap.size->¬F r->G r)->Ol H w'->(∀r,r<w.heap.size->¬F r->¬H r)->X H w'
def BB(F:Nat->Prop)(w:aA)(ow:Nat->Nat):Prop:=∀b,F b->b<w.heap.size/\ow b=0
variable{n d:Nat}{A B:Option aJ}{tu:Int}
section
variable{F G H:Nat->Prop}{w w':aA}{ow:Nat->Nat}{i j:Nat}{X:(Nat->Prop)->aA->Prop}
theorem Fo.ol(w:aA)(ow:Nat->Nat)(i:Nat):Ol (Fo w ow i) w:=λ_ h=>h.1
theorem dV.own(M:dV X)(h:X (Fo w ow i) w')(k:Kp (Fo w ow i) w w'):X (Fo w' (nx w ow i) i) w':=
 M _ (λ_=>True) _ w' w' h (Kp.refl _ _) (λ_ _ _=>trivial) (Fo.ol _ _ _) (λr _ a hf=>hf.2 (by
  unfold nx;split
  .rename_i b;exact acD λhc=>a ⟨b,hc⟩
  .rfl))
theorem dV.other(M:dV X)(h:X (Fo w ow j) w)(k:Kp (Fo w ow i) w w')(b:j≠i):X (Fo w' (nx w ow i) j) w':=
 M _ _ _ w w' h k (λr a c=>⟨a,λe=>c ⟨a,λd=>b (by rw[<-d,e])⟩⟩) (Fo.ol _ _ _) (λr a c hf=>hf.2 (by
  unfold nx;rw[abP a];exact acD λhc=>c ⟨a,hc⟩))
theorem BB.kp(h:BB F w ow)(k:Kp (Fo w ow i) w w')(hi:i≠0):Kp F w w':=k.mono λb hb=>⟨(h b hb).1,by rw[(h b hb).2];exact λe=>hi e.symm⟩
theorem BB.next(h:BB F w ow)(k:Kp (Fo w ow i) w w')(i:Nat):BB F w' (nx w ow i):=λb hb=>⟨abO (h b hb).1 k.size,by unfold nx;rw[abP (h b hb).1];exact(h b hb).2⟩
theorem BB.ol(h:BB F w ow):Ol F w:=λb hb=>(h b hb).1
noncomputable def mv (w:aA) (ow:Nat->Nat) (H:Nat->Prop):Nat->Nat:=λb=> @ite Nat (b<w.heap.size/\¬H b) (Classical.propDecidable _) (ow b) 0
theorem dV.part(M:dV X)(hF:BB F w ow)(k:Kp G w w')(c:∀r,r<w.heap.size->¬F r->G r)(hH:∀r,r<w.heap.size->¬F r->¬H r)(hi:i≠0)(h:X (Fo w ow i) w):X (Fo w' (mv w ow H) i) w':=by
 have hq:∀r,r<w.heap.size->¬Fo w ow i r->ow r=i/\¬F r:=λr a b=>by
  have h1:ow r=i:=acD λhc=>b ⟨a,hc⟩
  exact⟨h1,λhf=>hi (by rw[<-h1,(hF r hf).2])⟩
 refine M _ G _ w w' h k (λr a b=>c r a (hq r a b).2) (Fo.ol _ _ _) (λr a b hf=>hf.2 ?_);unfold mv;rw[abP ⟨a,hH r a (hq r a b).2⟩];exact(hq r a b).1
theorem BB.mv(a:Ol H w'):BB H w' (mv w ow H):=λb hb=>⟨a b hb,by unfold Go.Proofs.YtacgiflhgdaeaaaGreat.mv;rw[abQ (λh=>h.2 hb)]⟩
theorem Vz{r:Nat}(a:r<w.heap.size)(b:¬H r):mv w ow H r=ow r:=by unfold mv;rw[abP ⟨a,b⟩]
theorem yX{r:Nat}(a:r<w.heap.size):nx w ow i r=ow r:=abP a
theorem K8{r:Nat}(a:w.heap.size<=r):nx w ow i r=i:=abQ (Nat.not_lt.2 a)
theorem sO.cH(g:Nat)(s:Sv):dV (λF w=>sO F w g s):=λ_ _ _ _ _ h k a fl hH=>h.move k a fl hH
theorem gG.move{c:Nat}{nw:Int}{M:Option Nat}{b:Bs}(h:gG F w g A n c b M B d nw tu)(k:Kp G w w')(e:∀r,r<w.heap.size->¬F r->G r)(fl:Ol H w')(hH:∀r,r<w.heap.size->¬F r->¬H r):gG H w' g A n c b M B d nw tu:=
 ⟨k.aY h.b (e g h.b.lt h.fg),h.oB.kp k (λq hq=>e q (h.oB.lt q hq).2 (h.fB q hq)),⟨h.mp.1,λr a=>(h.mp.2 r a).same (k.block r (e r (h.mp.2 r a).lt (h.fM r a)))⟩,fl,hH g h.b.lt h.fg,λq hq=>hH q (h.oB.lt q hq).2 (h.fB q hq),λr a=>hH r (h.mp.2 r a).lt (h.fM r a)⟩
end
structure Pt where
 X:(Nat->Prop)->aA->Prop
 cH:dV X
def zU(l:List Pt)(F:Nat->Prop)(w:aA)(ow:Nat->Nat):Prop:=BB F w ow/\∀(i:Nat) (p:Pt),l[i]?=some p->p.X (Fo w ow (i+1)) w
def Ob(l:List Pt)(F:Nat->Prop)(w:aA):Prop:=∃ow,zU l F w ow
section
variable{l:List Pt}{F G H:Nat->Prop}{w w':aA}{ow:Nat->Nat}{p p':Pt}{i:Nat}
theorem zU.get(h:zU l F w ow)(i:Nat)(hp:l[i]?=some p):p.X (Fo w ow (i+1)) w:=h.2 i p hp
theorem zU.eY(h:zU l F w ow)(i:Nat)(p':Pt)(a:p'.X (Fo w ow (i+1)) w')(k:Kp (Fo w ow (i+1)) w w'):zU (l.set i p') F w' (nx w ow (i+1))/\Kp F w w':=by
 refine⟨⟨h.1.next k _,λm p hp=>?_⟩,h.1.kp k aQ⟩;rw[acW] at hp;split at hp
 .rename_i e;subst e;split at hp
  .injection hp with hp;subst hp;exact p'.cH.own a k
  .cases hp
 .rename_i e;exact p.cH.other (h.2 m p hp) k (λb=>e aQ)
theorem zU.kp0(h:zU l F w ow)(k:Kp (Fo w ow 0) w w'):zU l F w' (nx w ow 0):=⟨h.1.next k _,λm p hp=>p.cH.other (h.2 m p hp) k aQ⟩
theorem zU.below(h:zU l F w ow)(hb:aD w w w'):zU l F w' (nx w ow 0):=h.kp0 (Kp.cD hb λ_ hb=>hb.1)
theorem zU.add(h:zU l F w ow)(p':Pt)(d:p'.X (λb=>b<w.heap.size) w')(hb:aD w w w'):zU (l++ [p']) F w' (nx w ow (l.length+1))/\Kp F w w':=by
 have k:Kp (Fo w ow (l.length+1)) w w':=Kp.cD hb λ_ hb=>hb.1
 refine⟨⟨h.1.next k _,λm p hp=>?_⟩,h.1.ol.below hb⟩;by_cases hm:m<l.length
 .rw[acA hm] at hp;exact p.cH.other (h.2 m p hp) k aQ
 .rw[abZ aQ] at hp;have a:m - l.length=0:=by
   cases hd:m - l.length with
   |zero=>rfl
   |succ n=>rw[hd] at hp;simp at hp
  rw[a] at hp;simp at hp;subst hp;obtain rfl:m=l.length:=aQ;exact p'.cH _ (λ_=>True) _ w' w' d (Kp.refl _ _) (λ_ _ _=>trivial) (Fo.ol _ _ _) (λr j f hf=>hf.2 (K8 (Nat.not_lt.1 f)))
theorem Ob.none(h:Ol F w)(hF:∀b,F b->b<w.heap.size):Ob [] F w:=⟨λ_=>0,λb hb=>⟨hF b hb,rfl⟩,λi p hp=>by simp at hp⟩
theorem Ob.cH(l:List Pt):dV (Ob l):=λF G H w w' ⟨ow,h⟩ k a fl hH=>⟨mv w ow H,BB.mv fl,λi p hp=>p.cH.part h.1 k a hH aQ (h.2 i p hp)⟩
theorem Ob.fl(h:Ob l F w):Ol F w:=by obtain⟨_,h⟩:=h;exact h.1.ol
theorem Ob.below(h:Ob l F w)(hb:aD w w w'):Ob l F w':=by obtain⟨_,h⟩:=h;exact⟨_,h.below hb⟩
end
structure mR(g:Nat)(t:aN)(cs:Array aC)(F:Nat->Prop)(w:aA):Prop where
 b:bE w g t cs
 ol:Ol F w
 nf:¬F g
theorem mR.cH(g:Nat)(t:aN)(cs:Array aC):dV (mR g t cs):=λ_ _ _ _ _ h k a fl hH=>⟨k.aY h.b (a g h.b.lt h.nf),fl,hH g h.b.lt h.nf⟩
def PB(g:Nat)(t:aN)(cs:Array aC):Pt:=⟨mR g t cs,mR.cH g t cs⟩
structure gP{α:Type}(enc:α->List aC)(sz:Nat)(e:aN)(A:Option aJ)(c:Nat)(xs:List α)(F:Nat->Prop)(w:aA):Prop where
 o:bI enc sz w 0 e A c xs
 ol:Ol F w
 nf:∀q,aY A=some q->¬F q
theorem gP.cH{α:Type}(enc:α->List aC)(sz:Nat)(e:aN)(A:Option aJ)(c:Nat)(xs:List α):dV (gP enc sz e A c xs):=λ_ _ _ _ _ h k a fl hH=>⟨h.o.kp k (λq hq=>a q (h.o.lt q hq).2 (h.nf q hq)),fl,λq hq=>hH q (h.o.lt q hq).2 (h.nf q hq)⟩
def PR{α:Type}(enc:α->List aC)(sz:Nat)(e:aN)(A:Option aJ)(c:Nat)(xs:List α):Pt:=⟨gP enc sz e A c xs,gP.cH enc sz e A c xs⟩
variable{A':Option aJ}{c' q i j:Nat}
section
variable{F:Nat->Prop}{w w':aA}{g:Nat}{t e:aN}{cs:Array aC}
theorem PB.mk(h:bE w g t cs)(hF:Ol F w)(a:¬F g):mR g t cs F w:=⟨h,hF,a⟩
theorem mR.eY(h:mR g t cs F w){cs':Array aC}(hb:bE w' g t cs')(a:w.grownBy w' (some g)):mR g t cs' F w'/\Kp F w w':=by
 have k:=h.ol.self h.nf a;exact⟨⟨hb,h.ol.kp k,h.nf⟩,k⟩
theorem mR.set(h:mR g t cs F w)(j:Nat)(v:aC){cs':Array aC}(he:cs'=cs.setIfInBounds j v):mR g t cs' F (w.setCell (g,j) v)/\Kp F w (w.setCell (g,j) v):=
 h.eY (by rw[he];exact h.b.cB j v) (aZ (bL w g) j v)
variable{α:Type}{enc:α->List aC}{sz c:Nat}{A:Option aJ}{xs:List α}
theorem gP.eY(h:gP enc sz e A c xs F w){ys:List α}(ho:bI enc sz w' 0 e A' c' ys)(a:w.grownBy w' (aY A))(ha:aY A'=aY A\/aY A'=some w.heap.size):gP enc sz e A' c' ys F w'/\Kp F w w':=by
 have k:Kp F w w':=Kp.grown a λb hb=>⟨h.ol b hb,λd=>h.nf b d.symm hb⟩
 refine⟨⟨ho,h.ol.kp k,λq hq hF=>?_⟩,k⟩;rcases ha with ha|ha
 .exact h.nf q (by rw[<-ha];exact hq) hF
 .rw[ha] at hq;injection hq with hq;have:=h.ol q hF;omega
theorem gP.cell(he:∀x,(enc x).length=sz)(h:gP enc sz e q c xs F w)(hi:i<xs.length)(a:j<sz)(x:α)(v:aC)(b:enc x=(enc xs[i]).set j v):gP enc sz e q c (xs.set i x) F (w.setCell (q,i *sz+j) v)/\Kp F w (w.setCell (q,i *sz+j) v):=by
 obtain⟨h1,d⟩:=qM he h.o hi a x v b;exact h.eY h1 d (.inl rfl)
theorem gP.nil(hF:Ol F w):gP enc sz e none 0 ([]:List α) F w:=⟨bI.nil _ _ _,hF,λq hq=>by cases hq⟩
end
end
section
open Go.RowKit
variable{w:aA}{g:Nat}{p:Int}
section
structure jN where
 period:Int
 next:Int
 waits:Bool
 FB:Int
 refused:Int
def shC(s:jN):Array aC:=#[s.period,s.next,s.waits,s.FB,s.refused]
def Sh(w:aA)(g:Nat)(s:jN):Prop:=bE w g 251 (shC s)
theorem Sh.cells{s:jN}(h:Sh w g s):w.cell? (g,0)=some (.int .i64 s.period)/\w.cell? (g,1)=some (.int .i64 s.next)/\w.cell? (g,2)=some (.bool s.waits)/\w.cell? (g,3)=some (.int .i64 s.FB)/\w.cell? (g,4)=some (.int .i64 s.refused):=
 ⟨h.cell 0 _ rfl,h.cell 1 _ rfl,h.cell 2 _ rfl,h.cell 3 _ rfl,h.cell 4 _ rfl⟩
theorem Sh.free{s:jN}(h:Sh w g s):w.frozen? (g,1)=false/\w.frozen? (g,2)=false/\w.frozen? (g,3)=false/\w.frozen? (g,4)=false:=
 ⟨bE.frozen h 1,bE.frozen h 2,bE.frozen h 3,bE.frozen h 4⟩
def sW(s:jN)(now:Int):jN:={s with next:=now+s.period,waits:=false,FB:=s.FB+1}
structure mD(s:jN)(k:Nat):Prop where
 p0:1<=s.period
 p1:s.period<=1048576
 n0:0<=s.next
 n1:s.next<=1048576 *(2+(k:Int))
 c0:0<=s.FB
 c1:s.FB<=k
 r0:0<=s.refused
 r1:s.refused<=k
def PM(v:aC)(s:jN)(g:Nat)(w:aA)(e:Ending)(w':aA):Prop:=e= .returned v/\Sh w' g s/\w.grownBy w' (some g)
theorem GX(s:jN)(now:Int)(g:Nat)(k:Nat)(w:aA)(h:Sh w g s)(ok:mD s k)(hk:k<=100000)(a:0<=now)(h1:now<=1048576):
 aG prog 88 #[.pointer g,now] w (PM (.tuple #[]) (sW s now) g w):=by
 obtain⟨c0,c1,c2,c3,c4⟩:=h.cells;obtain⟨f1,f2,f3,f4⟩:=h.free;obtain⟨p0,p1,n0,n1,a0,b,r0,r1⟩:=ok;have H:=aP h;clear h;go_enter func88,ntmps88
 go_wp2
 go_end0
 exact⟨rfl,((H.o.cB 1 _).cB 2 _).cB 3 _,aZ (aZ (aZ (bL w g) 1 _) 2 _) 3 _⟩
def qD(s:jN)(now:Int):jN×Bool×Int:=
 if now<0\/1048576<now then(s,false,1) else if s.waits then({s with refused:=s.refused+1},false,20) else if now<s.next then({s with waits:=true},false,0) else(sW s now,true,0)
def lX(s:jN)(now:Int):jN×Bool:=if s.waits=false\/now<s.next\/1048576<now then(s,false) else(sW s now,true)
def jU(s:jN)(now:Int):jN×Int:=({s with next:=max now s.next+s.period},max now s.next)
theorem OQ{s:jN}{k:Nat}{now:Int}(h:mD s k)(a:0<=now)(h1:now<=1048576):mD (sW s now) (k+1):=by
 obtain⟨p0,p1,n0,n1,a0,b,r0,r1⟩:=h;exact⟨p0,p1,by simp[sW];omega,by simp[sW];omega,by simp[sW];omega,by simp[sW];omega,by simp[sW];omega,by simp[sW];omega⟩
theorem NA{s:jN}{k:Nat}(h:mD s k):mD s (k+1):=by
 obtain⟨p0,p1,n0,n1,a0,a,r0,r1⟩:=h;exact⟨p0,p1,n0,aQ,a0,aQ,r0,aQ⟩
theorem Q8{s:jN}{k:Nat}{now:Int}(h:mD s k):mD (qD s now).1 (k+1):=by
 unfold qD;split
 .exact NA h
 .split
  .obtain⟨p0,p1,n0,n1,a0,a,r0,r1⟩:=h;exact⟨p0,p1,n0,bX,a0,bX,bX,bX⟩
  .split
   .obtain⟨p0,p1,n0,n1,a0,a,r0,r1⟩:=h;exact⟨p0,p1,n0,bX,a0,bX,r0,bX⟩
   .exact OQ h aQ aQ
theorem QZ{s:jN}{k:Nat}{now:Int}(h:mD s k):mD (lX s now).1 (k+1):=by
 unfold lX;split
 .exact NA h
 .have:=h.n0;exact OQ h aQ aQ
theorem De{s:jN}{k:Nat}{now:Int}(h:mD s k)(a:0<=now)(h1:now<=1048576):mD (jU s now).1 (k+1):=by
 obtain⟨p0,p1,n0,n1,a0,b,r0,r1⟩:=h;exact⟨p0,p1,by simp[jU];omega,by simp[jU];omega,a0,by simp[jU];omega,r0,by simp[jU];omega⟩
theorem ZF(s:jN)(now:Int)(g:Nat)(k:Nat)(w:aA)(h:Sh w g s)(ok:mD s k)(hk:k<=100000):
 aG prog 56 #[.pointer g,now] w (PM (.tuple #[.bool (qD s now).2.1, .int .i64 (qD s now).2.2]) (qD s now).1 g w):=by
 have f:=aP ok;obtain⟨c0,c1,c2,c3,c4⟩:=h.cells;obtain⟨f1,f2,f3,f4⟩:=h.free;obtain⟨p0,p1,n0,n1,a0,i,r0,r1⟩:=ok;have H:=aP h;clear h;by_cases b1:now<0
 .have a:aH (qD s now=(s,false,1)):=by unfold aH qD;rw[abP (.inl b1)]
  go_enter func56,ntmps56
  go_wp2
  go_ret2
  rw[a.o];exact⟨rfl,H.o,bL w g⟩
 .by_cases b2:1048576<now
  .have a:aH (qD s now=(s,false,1)):=by unfold aH qD;rw[abP (.inr b2)]
   go_enter func56,ntmps56
   go_wp2
   go_ret2
   rw[a.o];exact⟨rfl,H.o,bL w g⟩
  .cases b3:s.waits
   .rw[b3] at c2;by_cases d:now<s.next
    .have a:aH (qD s now=({s with waits:=true},false,0)):=by unfold aH qD;rw[abQ aQ,abQ (by simp[b3]),abP d]
     go_enter func56,ntmps56
     go_wp2
     go_ret2
     rw[a.o];exact⟨rfl,H.o.cB 2 _,aZ (bL w g) 2 _⟩
    .have a:aH (qD s now=(sW s now,true,0)):=by unfold aH qD;rw[abQ aQ,abQ (by simp[b3]),abQ d]
     go_enter func56,ntmps56
     go_wp2_with(go_at_call 88;refine(GX s now g k _ H.o f.o hk aQ aQ).mono ?_;rintro e j ⟨rfl,b,c⟩)
     go_ret2
     rw[a.o];exact⟨rfl,b,c⟩
   .rw[b3] at c2;have a:aH (qD s now=({s with refused:=s.refused+1},false,20)):=by unfold aH qD;rw[abQ aQ,abP b3]
    go_enter func56,ntmps56
    go_wp2
    go_ret2
    rw[a.o];exact⟨rfl,H.o.cB 4 _,aZ (bL w g) 4 _⟩
theorem Aw(s:jN)(now:Int)(g:Nat)(k:Nat)(w:aA)(h:Sh w g s)(ok:mD s k)(hk:k<=100000):
 aG prog 61 #[.pointer g,now] w (PM (.bool (lX s now).2) (lX s now).1 g w):=by
 have d:=aP ok;obtain⟨c0,c1,c2,c3,c4⟩:=h.cells;obtain⟨f1,f2,f3,f4⟩:=h.free;obtain⟨p0,p1,n0,n1,a0,i,r0,r1⟩:=ok;have H:=aP h;clear h;cases b3:s.waits
 .rw[b3] at c2;have a:aH (lX s now=(s,false)):=by unfold aH lX;rw[abP (.inl b3)]
  go_enter func61,ntmps61
  go_wp2
  go_ret
  rw[a.o];exact⟨rfl,H.o,bL w g⟩
 .rw[b3] at c2;by_cases f:now<s.next
  .have a:aH (lX s now=(s,false)):=by unfold aH lX;rw[abP (.inr (.inl f))]
   go_enter func61,ntmps61
   go_wp2
   go_ret
   rw[a.o];exact⟨rfl,H.o,bL w g⟩
  .by_cases b2:1048576<now
   .have a:aH (lX s now=(s,false)):=by unfold aH lX;rw[abP (.inr (.inr b2))]
    go_enter func61,ntmps61
    go_wp2
    go_ret
    rw[a.o];exact⟨rfl,H.o,bL w g⟩
   .have a:aH (lX s now=(sW s now,true)):=by unfold aH lX;rw[abQ (by simp[b3];omega)]
    go_enter func61,ntmps61
    go_wp2_with(go_at_call 88;refine(GX s now g k _ H.o d.o hk aQ aQ).mono ?_;rintro e j ⟨rfl,b,c⟩)
    go_ret
    rw[a.o];exact⟨rfl,b,c⟩
theorem VY(s:jN)(now:Int)(g:Nat)(k:Nat)(w:aA)(h:Sh w g s)(ok:mD s k)(hk:k<=100000)(c:0<=now)(h1:now<=1048576):
 aG prog 92 #[.pointer g,now] w (PM (.int .i64 (jU s now).2) (jU s now).1 g w):=by
 obtain⟨c0,c1,c2,c3,c4⟩:=h.cells;obtain⟨f1,f2,f3,f4⟩:=h.free;obtain⟨p0,p1,n0,n1,a0,d,r0,r1⟩:=ok;have H:=aP h;clear h;by_cases b:now<s.next
 .have a:aH (jU s now=({s with next:=s.next+s.period},s.next)):=by unfold aH jU;rw[Int.max_eq_right aQ]
  go_enter func92,ntmps92
  go_wp2
  go_ret
  rw[a.o];exact⟨rfl,H.o.cB 1 _,aZ (bL w g) 1 _⟩
 .have a:aH (jU s now=({s with next:=now+s.period},now)):=by unfold aH jU;rw[Int.max_eq_left aQ]
  go_enter func92,ntmps92
  go_wp2
  go_ret
  rw[a.o];exact⟨rfl,H.o.cB 1 _,aZ (bL w g) 1 _⟩
def kC(p:Int):jN:=⟨p,0,false,0,0⟩
theorem Ho(a:1<=p)(h1:p<=1048576):mD (kC p) 0:=⟨a,h1,by simp[kC],by simp[kC],by simp[kC],by simp[kC],by simp[kC],by simp[kC]⟩
def Tx(p:Int)(w:aA)(e:Ending)(w':aA):Prop:=∃g,e= .returned (.tuple #[.pointer (some ⟨g,0,none⟩),aU])/\w.heap.size<=g/\Sh w' g (kC p)/\aD w w w'
theorem Z7(p:Int)(w:aA)(a:1<=p)(h1:p<=1048576):aG prog 52 #[p] w (Tx p w):=by
 go_enter func52,ntmps52
 go_wp2
 go_ret2
 exact⟨w.heap.size,rfl,abM _,bE.new w _ _,aX _ _⟩
end
end
section
structure Sc where
 lk:Int
 fr:Int
 iL:Int
structure Tk where
 co:Int
 pe:Int
 de:Int
 se:List Sc
 po:Int
structure Jb where
 tk:Int
 nu:Int
 ca:Int
 de:Int
 ra:Int
 dm:Int
 lf:Int
 bg:Bool
 bh:Bool
 rs:Int
 lt:Bool
structure Ev where
 kd:Int
 tk:Int
 jb:Int
 at_:Int
structure Lb where
 ts:List Tk
 od:Int
 rk:List Int
 ce:Nat->Int
 nw:Int
 sh:List jN
 nu:List Int
 wt:List Int
 jb:List Jb
 lg:List Ev
def Xt:Jb:=⟨0,0,0,0,0,0,0,false,false,0,false⟩
def nE:Tk:=⟨0,0,0, [],0⟩
def sh0:jN:=⟨1,0,false,0,0⟩
def CT(t:Tk)(lock vQ:Int):Bool:=t.se.any λs=>decide (s.lk=lock/\s.fr<=vQ/\vQ<s.iL)
def iG(x:Lb)(i:Int):Tk:=x.ts.getD i.toNat nE
def zP(x:Lb)(i:Int):Int:=x.rk.getD i.toNat 0
def jS(x:Lb)(i:Int):jN:=x.sh.getD i.toNat sh0
def dT(x:Lb)(i:Nat):Jb:=x.jb.getD i Xt
def CB(x:Lb)(j:Jb)(lock:Int):Bool:=j.bg&&decide (j.rs=0)&&CT (iG x j.tk) lock j.ra
def L6(x:Lb)(MH:Int)(j:Jb)(lock:Nat):Bool:=!(decide (x.ce lock<=MH)&&CB x j lock)
def DY(x:Lb)(place:Nat)(i:Nat):Bool:=decide (i=place) || (List.range 8).all (L6 x (zP x (dT x place).tk) (dT x i))
def IX(x:Lb)(place:Nat):Bool:=(List.range x.jb.length).all (DY x place)
def pP(x:Lb)(a b:Jb):Bool:=
 if a.bh !=b.bh then b.bh
 else if x.od=1/\zP x a.tk≠zP x b.tk then decide (zP x a.tk<zP x b.tk)
 else if a.de≠b.de then decide (a.de<b.de)
 else if a.tk≠b.tk then decide (a.tk<b.tk)
 else decide (a.nu<b.nu)
def zV(x:Lb)(o:Option Nat)(i:Nat):Bool:=match o with
 |none=>true
 |some f=>pP x (dT x i) (dT x f)
def fW(x:Lb):Nat->Option Nat×Option Nat
 |0=>(none,none)
 |k+1=>if x.nw<(dT x k).ca then fW x k else
  (if zV x (fW x k).1 k then some k else(fW x k).1,if(dT x k).bg&&zV x (fW x k).2 k then some k else(fW x k).2)
def mW(x:Lb):Option Nat:=match(fW x x.jb.length).1 with
 |none=>none
 |some f=>if(dT x f).bg || IX x f then some f else(fW x x.jb.length).2
def iY(x:Lb)(kd:Int)(j:Jb):Lb:={x with lg:=x.lg++ [⟨kd,j.tk,j.nu,x.nw⟩]}
def qI(x:Lb)(task demand:Int):Jb:=⟨task,x.nu.getD task.toNat 0+1,x.nw,x.nw+(iG x task).de,0,demand,(iG x task).co,false,false,0,false⟩
def sP(x:Lb)(task demand:Int):Lb:=iY {x with nu:=x.nu.set task.toNat (x.nu.getD task.toNat 0+1),jb:=x.jb++ [qI x task demand]} 1 (qI x task demand)
def eA(x:Lb)(i:Int)(s:jN):Lb:={x with sh:=x.sh.set i.toNat s}
def cM(x:Lb)(i:Nat)(j:Jb):Lb:={x with jb:=x.jb.set i j}
def FT(x:Lb)(task:Int):jN×Bool×Int:=qD (jS x task) x.nw
def oF(x:Lb)(task demand:Int):Int×Lb:=
 if task<0\/x.ts.length<=task\/demand<1\/1048576<demand then(1,x) else
 if(FT x task).2.2≠0 then((FT x task).2.2,eA x task (FT x task).1) else
 if(FT x task).2.1 then(0,sP (eA x task (FT x task).1) task demand) else
 (0,{eA x task (FT x task).1 with wt:=x.wt.set task.toNat demand})
def xW(x:Lb)(kd:Int)(i:Nat):Lb:={iY x kd (dT x i) with jb:=x.jb.eraseIdx i}
def gN(j:Jb):Jb:={j with bg:=true,ra:=j.ra+1,lf:=if j.bh then j.lf else j.lf - 1}
def qG(x:Lb)(i:Nat):Lb:=
 let j:=gN (dT x i)
 let y:=cM x i j
 if j.ra=j.dm then xW y 2 i else
 if 0<j.lf then y else
 if(iG x j.tk).po=0 then xW y 3 i else
 if(iG x j.tk).po=1 then
  (if j.bh then y else let k:Jb:={j with bh:=true,rs:=j.rs+1};iY (cM y i k) 4 k)
 else
  let p:=jU (jS x j.tk) x.nw
  let k:Jb:={j with ca:=p.2,de:=p.2+(iG x j.tk).de,lf:=(iG x j.tk).co,rs:=j.rs+1,bg:=false,lt:=false}
  iY (cM (eA y j.tk p.1) i k) 5 k
def BC(x:Lb)(i:Nat):Lb:=
 let j:=dT x i
 if j.bh=false/\j.lt=false/\j.de<=x.nw then iY (cM x i {j with lt:=true}) 6 {j with lt:=true} else x
def eT(x:Lb):Nat->Lb
 |0=>x
 |k+1=>BC (eT x k) k
def D1(x:Lb)(i:Nat):Lb:=if(lX (jS x i) x.nw).2 then sP (eA x i (lX (jS x i) x.nw).1) i (x.wt.getD i 0) else x
def eO(x:Lb):Nat->Lb
 |0=>x
 |k+1=>D1 (eO x k) k
def nO(x:Lb)(given:Bool):Option Nat:=if given then mW x else none
def rG(x:Lb)(given:Bool):Lb:=match nO x given with
 |none=>{x with nw:=x.nw+1}
 |some i=>qG {x with nw:=x.nw+1} i
def jJ(x:Lb)(given:Bool):Lb:=eO (eT (rG x given) (rG x given).jb.length) x.ts.length
end
section
open Go.RowKit Go.Lib Go.Shelf
def lN(s:Sc):List aC:= [.int .i64 s.lk, .int .i64 s.fr, .int .i64 s.iL]
theorem CJ:eW lN 3:=⟨λ_=>rfl,λx u hu=>by simp[lN] at hu;rcases hu with rfl|rfl|rfl <;> rfl⟩
structure Tm where
 t:Tk
 A:Option aJ
 c:Nat
def pM(x:Tm):List aC:= [.int .i64 x.t.co, .int .i64 x.t.pe, .int .i64 x.t.de, .slice x.A x.t.se.length x.c, .int .i64 x.t.po]
theorem lL:eW pM 5:=⟨λ_=>rfl,λx u hu=>by simp[pM] at hu;rcases hu with rfl|rfl|rfl|rfl|rfl <;> rfl⟩
def jW(j:Jb):List aC:= [.int .i64 j.tk, .int .i64 j.nu, .int .i64 j.ca, .int .i64 j.de, .int .i64 j.ra, .int .i64 j.dm, .int .i64 j.lf, .bool j.bg, .bool j.bh, .int .i64 j.rs, .bool j.lt]
theorem kK:eW jW 11:=⟨λ_=>rfl,λx u hu=>by simp[jW] at hu;rcases hu with rfl|rfl|rfl|rfl|rfl|rfl|rfl|rfl|rfl|rfl|rfl <;> rfl⟩
def qX(x:Ev):List aC:= [.int .i64 x.kd, .int .i64 x.tk, .int .i64 x.jb, .int .i64 x.at_]
theorem xG:eW qX 4:=⟨λ_=>rfl,λx u hu=>by simp[qX] at hu;rcases hu with rfl|rfl|rfl|rfl <;> rfl⟩
def yB(a:Nat):List aC:= [.pointer a]
theorem E8:eW yB 1:=⟨λ_=>rfl,λx u hu=>by simp[yB] at hu;subst hu;rfl⟩
structure NN(F:Nat->Prop)(w:aA)(A:Option aJ)(c:Nat)(L:List Tm):Prop where
 o:bI pM 5 w 0 125 A c L
 sl:∀x∈L,Sl lN 3 w x.A x.t.se
 fl:Ol F w
 fA:∀q,aY A=some q->¬F q
 fS:∀x∈L,∀q,aY x.A=some q->q<w.heap.size/\¬F q
 cp:∀x∈L,x.t.se.length<=x.c
def OS(A:Option aJ)(c:Nat)(L:List Tm):Pt:=⟨λF w=>NN F w A c L,λ_ _ _ _ _ h k hG fl hH=>⟨h.o.kp k (λq hq=>hG q (h.o.lt q hq).2 (h.fA q hq)),λx hx=>(h.sl x hx).kp k (λq hq=>hG q (h.fS x hx q hq).1 (h.fS x hx q hq).2),fl,λq hq=>hH q (h.o.lt q hq).2 (h.fA q hq),λx hx q hq=>⟨abO (h.fS x hx q hq).1 k.size,hH q (h.fS x hx q hq).1 (h.fS x hx q hq).2⟩,h.cp⟩⟩
structure E9(F:Nat->Prop)(w:aA)(a:List Nat)(l:List jN):Prop where
 len:a.length=l.length
 nd:a.Nodup
 sh:∀(i:Nat) (h:i<a.length) (h':i<l.length),Sh w a[i] l[i]
 fl:Ol F w
 fa:∀q∈a,q<w.heap.size/\¬F q
def OR(a:List Nat)(l:List jN):Pt:=⟨λF w=>E9 F w a l,λ_ _ _ _ _ h k hG fl hH=>⟨h.len,h.nd,λi hi hi'=>k.aY (h.sh i hi hi') (hG _ (h.fa _ (abV hi)).1 (h.fa _ (abV hi)).2),fl,λq hq=>⟨abO (h.fa q hq).1 k.size,hH q (h.fa q hq).1 (h.fa q hq).2⟩⟩⟩
section
variable{F:Nat->Prop}{w w':aA}{a:List Nat}{l:List jN}{i:Nat}
theorem E9.eY(h:E9 F w a l)(hi:i<a.length)(f:i<l.length){s:jN}(hs:Sh w' a[i] s)(d:w.grownBy w' (some a[i])):E9 F w' a (l.set i s)/\Kp F w w':=by
 have hm:=h.fa _ (abV hi);have k:=h.fl.self hm.2 d;refine⟨⟨by rw[ab1];exact h.len,h.nd,λj g b=>?_,h.fl.kp k,λq hq=>⟨abO (h.fa q hq).1 k.size,(h.fa q hq).2⟩⟩,k⟩;rw[acK];rw[ab1] at b;split
 .rename_i e;subst e;exact hs
 .rename_i e;exact bE.grown (h.sh j g b) d (λc=>e (by
   injection c with c;exact((List.getElem_inj h.nd).1 c.symm)))
end
structure La where
 T:Option aJ
 cT:Nat
 L:List Tm
 K:Option aJ
 cK:Nat
 S:Option aJ
 cS:Nat
 a:List Nat
 U:Option aJ
 cU:Nat
 V:Option aJ
 cV:Nat
 J:Option aJ
 cJ:Nat
 G:Option aJ
 cG:Nat
def fU(x:Lb)(y:La):Array aC:=#[(y.T,y.L.length,y.cT),x.od,(y.K,x.rk.length,y.cK), .int .i64 (x.ce 0), .int .i64 (x.ce 1), .int .i64 (x.ce 2), .int .i64 (x.ce 3), .int .i64 (x.ce 4), .int .i64 (x.ce 5), .int .i64 (x.ce 6), .int .i64 (x.ce 7),x.nw,(y.S,y.a.length,y.cS),(y.U,x.nu.length,y.cU),(y.V,x.wt.length,y.cV),(y.J,x.jb.length,y.cJ),(y.G,x.lg.length,y.cG)]
def jC(g:Nat)(x:Lb)(y:La):List Pt:= [PB g 193 (fU x y),OS y.T y.cT y.L,PR eI 1 3 y.K y.cK x.rk,PR yB 1 194 y.S y.cS y.a,OR y.a x.sh,PR eI 1 3 y.U y.cU x.nu,PR eI 1 3 y.V y.cV x.wt,PR jW 11 209 y.J y.cJ x.jb,PR qX 4 165 y.G y.cG x.lg]
variable{l:List Pt}{F G:Nat->Prop}{w w':aA}{sz i m:Nat}{A:Option aJ}
section
theorem Ob.use(h:Ob l F w)(i:Nat)(p:Pt)(hp:l[i]?=some p):∃G,p.X G w/\(∀(a:Pt) (w':aA),a.X G w'->Kp G w w'->Ob (l.set i a) F w'/\Kp F w w'):=by
 obtain⟨c,h⟩:=h;exact⟨_,h.get i hp,λa w' b k=>⟨⟨_,(h.eY i a b k).1⟩,(h.eY i a b k).2⟩⟩
theorem Ob.NV(h:Ob l F w)(hb:aD w w w'):Kp F w w':=h.fl.below hb
theorem Ob.Uk{α:Type}{enc:α->List aC}{e:aN}{c:Nat}{xs:List α}(h:Ob l F w)(i:Nat)(hp:l[i]?=some (PR enc sz e A c xs)):Ob (l.set i (PR enc sz e Option.none 0 ([]:List α))) (λb=>F b\/aY A=some b) w:=by
 obtain⟨a,hF,k⟩:=h;have s:gP enc sz e A c xs (Fo w a (i+1)) w:=k i _ hp;have hq:∀q,aY A=some q->q<w.heap.size/\a q=i+1:=λq hq=>by
  have h1:=(s.o.lt q hq).2;exact⟨h1,acD λhc=>s.nf q hq ⟨h1,hc⟩⟩
 refine⟨λb=>if aY A=some b then 0 else a b,λb hb=>?_,λm p hm=>?_⟩
 .rcases hb with hb|hb
  .refine⟨(hF b hb).1,?_⟩;simp only;split
   .rfl
   .exact(hF b hb).2
  .exact⟨(hq b hb).1,abP hb⟩
 .rw[acW] at hm;split at hm
  .split at hm
   .injection hm with hm;subst hm;exact gP.nil (Fo.ol _ _ _)
   .cases hm
  .rename_i d;refine p.cH _ (λ_=>True) _ w w (k m p hm) (Kp.refl _ _) (λ_ _ _=>trivial) (Fo.ol _ _ _) (λr f t hf=>?_);have h1:a r=m+1:=acD λhc=>t ⟨f,hc⟩
   have j:=hf.2;simp only at j;split at j
   .rename_i u;have:=(hq r u).2;exact d aQ
   .exact j h1
structure Du where
 at_:Int
 hd:Int
 wh:Int
instance:Inhabited Du:=⟨⟨0,0,0⟩⟩
def uM(x:Du):List aC:= [.int .i64 x.at_, .int .i64 x.hd, .int .i64 x.wh]
theorem rK:eW uM 3:=⟨λ_=>rfl,λx u hu=>by simp[uM] at hu;rcases hu with rfl|rfl|rfl <;> rfl⟩
def AG(x:Du):aC:= .agg #[x.at_,x.hd,x.wh]
structure Hr where
 A:Option aJ
 c:Nat
 xs:List Int
structure Wa where
 nw:Int
 hs:Int
 M:Nat
 f:Int->Option Du
 R:List Hr
def Lx(M:Nat)(f:Int->Option Du)(F:Nat->Prop)(w:aA):Prop:=iJ AG w M f/\Ol F w/\¬F M
theorem Lx.cH(M:Nat)(f:Int->Option Du):dV (Lx M f):=λ_ _ _ _ _ ⟨h,_,a⟩ k b fl hH=>⟨h.same (k.block M (b M h.lt a)),fl,hH M h.lt a⟩
def Lu(M:Nat)(f:Int->Option Du):Pt:=⟨Lx M f,Lx.cH M f⟩
def rY(r:Hr):aC:= .slice r.A r.xs.length r.c
def vO(y:Wa):List aC:= [.bool true, .int .i64 y.nw, .int .i64 y.hs, .map (some y.M)]++y.R.map rY
def QF(r:Hr):Pt:=PR eI 1 3 r.A r.c r.xs
def R2(g:Nat)(y:Wa):List Pt:= [PB g 339 (vO y).toArray,Lu y.M y.f]++y.R.map QF
def iC(R:List Hr):Nat:=(R.map λr=>r.xs.length).sum
structure Xw(y:Wa)(n:Nat):Prop where
 nw:0<=y.nw/\y.nw<=1048576
 hs:0<=y.hs/\y.hs<=n
 len:y.R.length=256
 sum:iC y.R<=n
 ok:∀x d,y.f x=some d->(0<=d.wh/\d.wh<4)/\0<=d.at_/\d.at_<=2097152
structure dK(F:Nat->Prop)(w:aA)(g n:Nat)(y:Wa):Prop where
 o:Ob (R2 g y) F w
 i:Xw y n
def CF(F:Nat->Prop)(w:aA)(g n:Nat):Prop:=∃y,dK F w g n y
theorem CF.cH(g n:Nat):dV (λF w=>CF F w g n):=λF G H w w' ⟨y,h⟩ k a fl hH=>⟨y,Ob.cH _ F G H w w' h.o k a fl hH,h.i⟩
theorem DD{R:List Hr}(hi:i<R.length)(r:Hr):iC (R.set i r)+R[i].xs.length=iC R+r.xs.length:=by
 unfold iC;induction R generalizing i with
 |nil=>simp at hi
 |cons x R a=>
  cases i with
  |zero=>simp;omega
  |succ i=>
   simp only[abS,List.map_cons,List.sum_cons,acZ];have:=a (i:=i) (by simpa using hi);omega
theorem yP{R:List Hr}(hi:i<R.length):R[i].xs.length<=iC R:=by
 have:=DD hi ⟨none,0, []⟩;simp at this;omega
section
variable{F:Nat->Prop}{w w':aA}{g n:Nat}{y:Wa}
theorem dK.below(h:dK F w g n y)(hb:aD w w w'):dK F w' g n y/\Kp F w w':=⟨⟨h.o.below hb,h.i⟩,h.o.fl.below hb⟩
theorem dK.fl(h:dK F w g n y):Ol F w:=h.o.fl
theorem dK.bk(h:dK F w g n y):bE w g 339 (vO y).toArray:=by
 obtain⟨a,h1⟩:=h.o;exact(h1.get 0 (p:=PB g 339 (vO y).toArray) rfl).b
theorem dK.mp(h:dK F w g n y):iJ AG w y.M y.f:=by
 obtain⟨a,h1⟩:=h.o;exact(h1.get 1 (p:=Lu y.M y.f) rfl).1
theorem GG(hi:i<y.R.length):(R2 g y)[2+i]?=some (QF y.R[i]):=by
 rw[R2,abZ aT];simp[hi]
theorem dK.row(h:dK F w g n y)(hi:i<y.R.length):bI eI 1 w 0 3 y.R[i].A y.R[i].c y.R[i].xs:=by
 obtain⟨a,h1⟩:=h.o;exact(h1.get (2+i) (GG hi)).o
theorem dK.c0(h:dK F w g n y):w.cell? (g,0)=some (.bool true):=h.bk.cell 0 _ rfl
theorem dK.c1(h:dK F w g n y):w.cell? (g,1)=some (.int .i64 y.nw):=h.bk.cell 1 _ rfl
theorem dK.c2(h:dK F w g n y):w.cell? (g,2)=some (.int .i64 y.hs):=h.bk.cell 2 _ rfl
theorem dK.c3(h:dK F w g n y):w.cell? (g,3)=some (.map (some y.M)):=h.bk.cell 3 _ rfl
theorem dK.cr(h:dK F w g n y)(hi:i<y.R.length):w.cell? (g,4+i)=some (rY y.R[i]):=by
 refine h.bk.cell (4+i) _ ?_;rw[ab5,vO,abZ aT];simp[hi]
theorem dK.fz(h:dK F w g n y)(i:Nat):w.frozen? (g,i)=false:=h.bk.frozen i
theorem dK.PN(h:dK F w g n y){v:Int}(b:0<=v/\v<=1048576):dK F (w.setCell (g,1) v) g n {y with nw:=v}/\Kp F w (w.setCell (g,1) v):=by
 obtain⟨G,a,back⟩:=Ob.use h.o 0 _ rfl;obtain⟨b1,b2⟩:=back (PB g 339 (vO {y with nw:=v}).toArray) _ (a.set 1 (.int .i64 v) rfl).1 (a.set 1 (.int .i64 v) rfl).2;exact⟨⟨b1,⟨b,h.i.hs,h.i.len,h.i.sum,h.i.ok⟩⟩,b2⟩
theorem dK.Wx(h:dK F w g n y){v:Int}(b:n<=m)(c:0<=v/\v<=m):dK F (w.setCell (g,2) v) g m {y with hs:=v}/\Kp F w (w.setCell (g,2) v):=by
 obtain⟨G,a,back⟩:=Ob.use h.o 0 _ rfl;obtain⟨b1,b2⟩:=back (PB g 339 (vO {y with hs:=v}).toArray) _ (a.set 2 (.int .i64 v) rfl).1 (a.set 2 (.int .i64 v) rfl).2;exact⟨⟨b1,⟨h.i.nw,c,h.i.len,abT h.i.sum b,h.i.ok⟩⟩,b2⟩
theorem dK.VR(h:dK F w g n y){f:Int->Option Du}(hm:iJ AG w' y.M f)(c:w.grownBy w' (some y.M))(hf:∀x d,f x=some d->(0<=d.wh/\d.wh<4)/\0<=d.at_/\d.at_<=2097152):dK F w' g n {y with f:=f}/\Kp F w w':=by
 obtain⟨G,e,back⟩:=Ob.use h.o 1 _ rfl;obtain⟨j,a,b⟩:=e;obtain⟨b1,b2⟩:=back (Lu y.M f) w' ⟨hm,a.kp (a.self b c),b⟩ (a.self b c);exact⟨⟨b1,⟨h.i.nw,h.i.hs,h.i.len,h.i.sum,hf⟩⟩,b2⟩
theorem LX(r:Hr):(R2 g y).set (2+i) (QF r)= [PB g 339 (vO y).toArray,Lu y.M y.f]++(y.R.set i r).map QF:=by
 rw[R2,ab7 _ _ aT,adP];simp
theorem dK.setRow(h:dK F w g n y)(hi:i<y.R.length){c:Nat}{xs:List Int}(ho:bI eI 1 w' 0 3 A c xs)(e:w.grownBy w' (aY y.R[i].A))(ha:aY A=aY y.R[i].A\/aY A=some w.heap.size)(hm:n<=m)(hs:iC (y.R.set i ⟨A,c,xs⟩)<=m):
 dK F (w'.setCell (g,4+i) (.slice A xs.length c)) g m {y with R:=y.R.set i ⟨A,c,xs⟩}/\Kp F w (w'.setCell (g,4+i) (.slice A xs.length c)):=by
 obtain⟨G,f,back⟩:=Ob.use h.o (2+i) _ (GG hi);have b:gP eI 1 3 y.R[i].A y.R[i].c y.R[i].xs G w:=f;obtain⟨t1,t2⟩:=b.eY ho e ha;obtain⟨b1,b2⟩:=back (QF ⟨A,c,xs⟩) w' t1 t2;rw[LX] at b1;obtain⟨j,d,a⟩:=Ob.use b1 0 _ rfl;obtain⟨s1,s2⟩:=mR.set (cs':=(vO {y with R:=y.R.set i ⟨A,c,xs⟩}).toArray) d (4+i) (.slice A xs.length c) (by
  rw[abN];congr 1
  unfold vO;rw[ab7 _ _ aT,adP];simp[rY])
 obtain⟨d1,d2⟩:=a (PB g 339 (vO {y with R:=y.R.set i ⟨A,c,xs⟩}).toArray) _ s1 s2;exact⟨⟨d1,⟨h.i.nw,⟨h.i.hs.1,by have:=h.i.hs.2;show y.hs<=_;omega⟩,by rw[ab1];exact h.i.len,hs,h.i.ok⟩⟩,b2.trans d2⟩
theorem dK.take(h:dK F w g n y)(hi:i<y.R.length):dK (λb=>F b\/aY y.R[i].A=some b) (w.setCell (g,4+i) (.slice none 0 0)) g n {y with R:=y.R.set i ⟨none,0, []⟩}/\Kp (λb=>F b\/aY y.R[i].A=some b) w (w.setCell (g,4+i) (.slice none 0 0))/\iC (y.R.set i ⟨none,0, []⟩)+y.R[i].xs.length=iC y.R:=by
 have b1:=Ob.Uk h.o (2+i) (GG hi);have b2:Ob ((R2 g y).set (2+i) (QF ⟨none,0, []⟩)) (λb=>F b\/aY y.R[i].A=some b) w:=b1;rw[LX] at b2;obtain⟨d,c,a⟩:=Ob.use b2 0 _ rfl;obtain⟨s1,s2⟩:=mR.set (cs':=(vO {y with R:=y.R.set i ⟨none,0, []⟩}).toArray) c (4+i) (.slice none 0 0) (by
  rw[abN];congr 1
  unfold vO;rw[ab7 _ _ aT,adP];simp[rY])
 obtain⟨d1,d2⟩:=a (PB g 339 (vO {y with R:=y.R.set i ⟨none,0, []⟩}).toArray) _ s1 s2;have:=DD hi ⟨none,0, []⟩;exact⟨⟨d1,⟨h.i.nw,h.i.hs,by rw[ab1];exact h.i.len,by have:=h.i.sum;simp at *;omega,h.i.ok⟩⟩,d2,by simpa using this⟩
theorem dK.less(h:dK F w g n y)(a:∀b,G b->F b):dK G w g n y:=by
 exact⟨Ob.cH _ F (λ_=>True) G w w h.o (Kp.refl _ _) (λ_ _ _=>trivial) (λb hb=>h.o.fl b (a b hb)) (λr _ c d=>c (a r d)),h.i⟩
end
end
variable{q:Nat}
section
structure ZN(x:Lb)(n:Nat)(j:Jb):Prop where
 t0:0<=j.tk
 t1:j.tk<x.ts.length
 r0:0<=j.ra
 r1:j.ra<=x.nw
 l0: -x.nw<=j.lf
 l1:j.lf<=1048576
 c0:0<=j.ca
 c1:j.ca<=1048576 *(2+(n:Int))
 d0:0<=j.de
 d1:j.de<=1048576 *(3+(n:Int))
 s0:0<=j.rs
 s1:j.rs<=n
structure Xi(t:Tk):Prop where
 c0:1<=t.co
 c1:t.co<=1048576
 p0:1<=t.pe
 p1:t.pe<=1048576
 d0:1<=t.de
 d1:t.de<=1048576
 sl:t.se.length<=8
 o0:0<=t.po
 o1:t.po<=2
structure IF(x:Lb)(n m:Nat):Prop where
 lr:x.rk.length=x.ts.length
 ls:x.sh.length=x.ts.length
 lu:x.nu.length=x.ts.length
 lw:x.wt.length=x.ts.length
 tl:x.ts.length<=8
 tk:∀t∈x.ts,Xi t
 n0:0<=x.nw
 n1:x.nw<=1048576
 sh:∀s∈x.sh,mD s n
 nu:∀v∈x.nu,0<=v/\v<=n
 jl:x.jb.length<=n
 jo:∀j∈x.jb,ZN x n j
 gl:x.lg.length<=m
structure bU(F:Nat->Prop)(w:aA)(g:Nat)(x:Lb)(y:La):Prop where
 ts:y.L.map Tm.t=x.ts
 o:Ob (jC g x y) F w
structure wK(w:aA)(q o:Nat)(j:Jb):Prop where
 c0:w.cell? (q,o)=some (.int .i64 j.tk)
 c1:w.cell? (q,o+1)=some (.int .i64 j.nu)
 c2:w.cell? (q,o+2)=some (.int .i64 j.ca)
 c3:w.cell? (q,o+3)=some (.int .i64 j.de)
 c4:w.cell? (q,o+4)=some (.int .i64 j.ra)
 c5:w.cell? (q,o+5)=some (.int .i64 j.dm)
 c6:w.cell? (q,o+6)=some (.int .i64 j.lf)
 c7:w.cell? (q,o+7)=some (.bool j.bg)
 c8:w.cell? (q,o+8)=some (.bool j.bh)
 c9:w.cell? (q,o+9)=some (.int .i64 j.rs)
 yC:w.cell? (q,o+10)=some (.bool j.lt)
theorem wK.keep{o:Nat}{j:Jb}(h:wK w q o j)(hb:aD w w w'):wK w' q o j:=
 ⟨bK hb h.c0,bK hb h.c1,bK hb h.c2,bK hb h.c3,bK hb h.c4,bK hb h.c5,bK hb h.c6,bK hb h.c7,bK hb h.c8,bK hb h.c9,bK hb h.yC⟩
theorem wM{α:Type}{enc:α->List aC}{base:Nat}{e:aN}{c:Nat}{xs:List α}(h:bI enc sz w base e A c xs)(a:0<xs.length):∃q,A=some ⟨q,0,none⟩:=by
 rcases h.shape with⟨_,b,_⟩|h
 .rw[b] at a;simp at a
 .exact h
section
variable{F:Nat->Prop}{w w':aA}{g:Nat}{x:Lb}{y:La}{n:Nat}
theorem bU.fl(h:bU F w g x y):Ol F w:=h.o.fl
theorem bU.below(h:bU F w g x y)(hb:aD w w w'):bU F w' g x y:=⟨h.ts,h.o.below hb⟩
theorem bU.bk(h:bU F w g x y):bE w g 193 (fU x y):=by
 obtain⟨a,h1⟩:=h.o;exact(h1.get 0 (p:=PB g 193 (fU x y)) rfl).b
theorem bU.len(h:bU F w g x y):y.L.length=x.ts.length:=by rw[<-h.ts,acS]
theorem bU.task(h:bU F w g x y)(d:n<x.ts.length):∃q A c,y.T=some ⟨q,0,none⟩/\w.cell? ⟨q,n *5,none⟩=some (.int .i64 (iG x n).co)/\w.cell? ⟨q,n *5+1,none⟩=some (.int .i64 (iG x n).pe)/\w.cell? ⟨q,n *5+2,none⟩=some (.int .i64 (iG x n).de)/\w.cell? ⟨q,n *5+3,none⟩=some (.slice A (iG x n).se.length c)/\w.cell? ⟨q,n *5+4,none⟩=some (.int .i64 (iG x n).po)/\Sl lN 3 w A (iG x n).se:=by
 obtain⟨f,h1⟩:=h.o;have b:NN (Fo w f 2) w y.T y.cT y.L:=h1.get 1 (p:=OS y.T y.cT y.L) rfl;have a:n<y.L.length:=by rw[h.len];exact d
 obtain⟨q,hq⟩:=wM b.o aQ;have ho:=b.o;rw[hq] at ho;have e:iG x (n:Int)=y.L[n].t:=by
  unfold iG;rw[abW,abY,<-h.ts,adZ,abL a];rfl
 rw[e];refine⟨q,y.L[n].A,y.L[n].c,hq,?_,?_,?_,?_,?_,b.sl _ (abV a)⟩
 .simpa using bN lL ho a (j:=0) rfl
 .exact bN lL ho a (j:=1) rfl
 .exact bN lL ho a (j:=2) rfl
 .exact bN lL ho a (j:=3) rfl
 .exact bN lL ho a (j:=4) rfl
theorem LU{base:Nat}{e:aN}{c:Nat}{xs:List Int}(h:bI eI 1 w base e A c xs)(a:n<xs.length):∃q,A=some ⟨q,0,none⟩/\w.cell? ⟨q,n,none⟩=some (.int .i64 (xs.getD n 0)):=by
 obtain⟨q,hq⟩:=wM h aQ;subst hq;refine⟨q,rfl,?_⟩;have:=bN gJ h a (j:=0) (v:= .int .i64 xs[n]) rfl;rw[abY,abL a];simpa using this
theorem bU.MH(h:bU F w g x y)(a:n<x.rk.length):∃q,y.K=some ⟨q,0,none⟩/\w.cell? ⟨q,n,none⟩=some (.int .i64 (zP x n)):=by
 obtain⟨b,h1⟩:=h.o;have c:gP eI 1 3 y.K y.cK x.rk (Fo w b 3) w:=h1.get 2 (p:=PR eI 1 3 y.K y.cK x.rk) rfl;exact LU c.o a
theorem bU.num(h:bU F w g x y)(a:n<x.nu.length):∃q,y.U=some ⟨q,0,none⟩/\w.cell? ⟨q,n,none⟩=some (.int .i64 (x.nu.getD n 0)):=by
 obtain⟨b,h1⟩:=h.o;have c:gP eI 1 3 y.U y.cU x.nu (Fo w b 6) w:=h1.get 5 (p:=PR eI 1 3 y.U y.cU x.nu) rfl;exact LU c.o a
theorem bU.wait(h:bU F w g x y)(a:n<x.wt.length):∃q,y.V=some ⟨q,0,none⟩/\w.cell? ⟨q,n,none⟩=some (.int .i64 (x.wt.getD n 0)):=by
 obtain⟨b,h1⟩:=h.o;have c:gP eI 1 3 y.V y.cV x.wt (Fo w b 7) w:=h1.get 6 (p:=PR eI 1 3 y.V y.cV x.wt) rfl;exact LU c.o a
theorem Rt{base:Nat}{e:aN}{c:Nat}{xs:List Jb}(h:bI jW 11 w base e q c xs)(a:n<xs.length):wK w q (n *11) (xs.getD n Xt):=by
 rw[abY,abL a];have b:=bN kK h a (j:=0) rfl;rw[acC] at b;exact⟨b,bN kK h a (j:=1) rfl,bN kK h a (j:=2) rfl,bN kK h a (j:=3) rfl,bN kK h a (j:=4) rfl,bN kK h a (j:=5) rfl,bN kK h a (j:=6) rfl,bN kK h a (j:=7) rfl,bN kK h a (j:=8) rfl,bN kK h a (j:=9) rfl,bN kK h a (j:=10) rfl⟩
theorem bU.l6(h:bU F w g x y)(b:n<x.jb.length):∃q,y.J=some ⟨q,0,none⟩/\wK w q (n *11) (dT x n):=by
 obtain⟨c,h1⟩:=h.o;have a:gP jW 11 209 y.J y.cJ x.jb (Fo w c 8) w:=h1.get 7 (p:=PR jW 11 209 y.J y.cJ x.jb) rfl;obtain⟨q,hq⟩:=wM a.o aQ;have ho:=a.o;rw[hq] at ho;exact⟨q,hq,Rt ho b⟩
theorem IF.l6(h:IF x n m)(hi:i<x.jb.length):ZN x n (dT x i):=by
 unfold dT;rw[abY,abL hi];exact h.jo _ (abV hi)
end
theorem Sl.LO{xs:List Sc}(h:Sl lN 3 w A xs)(hi:i<xs.length):
 ∃b off,A=some ⟨b,off,none⟩/\w.cell? ⟨b,off+i *3,none⟩=some (.int .i64 xs[i].lk)/\w.cell? ⟨b,off+i *3+1,none⟩=some (.int .i64 xs[i].fr)/\w.cell? ⟨b,off+i *3+2,none⟩=some (.int .i64 xs[i].iL):=by
 obtain⟨b,off,a,hc⟩:=h.at_ hi;exact⟨b,off,a,by simpa using hc 0 _ (show(lN xs[i])[0]?=some (.int .i64 xs[i].lk) from rfl),by simpa[acU] using hc 1 _ (show(lN xs[i])[1]?=some (.int .i64 xs[i].fr) from rfl),by simpa[acU] using hc 2 _ (show(lN xs[i])[2]?=some (.int .i64 xs[i].iL) from rfl)⟩
def EN(lock vQ:Int)(s:Sc):Bool:=decide (s.lk=lock/\s.fr<=vQ/\vQ<s.iL)
theorem VT(t:Tk)(A:Option aJ)(c:Nat)(hs:Sl lN 3 w A t.se)(hl:t.se.length<=8)(lock vQ:Int):aG prog 182 #[.agg #[t.co,t.pe,t.de,(A,t.se.length,c),t.po],lock,vQ] w λr w'=>r= .returned (.bool (CT t lock vQ))/\aD w w w':=by
 have e:=aX w (aI #[t.co,t.pe,t.de,(A,t.se.length,c),t.po] 125);have l:=bE.new w 125 #[t.co,t.pe,t.de,(A,t.se.length,c),t.po];have u:=l.cell 3 _ rfl;have f:=aP e;have v:aH (Sl lN 3 w A t.se):=hs;clear l hs e;go_enter func182,ntmps182
 go_upto_region 1 with(fail)
 generalize w.alloc (aI #[t.co,t.pe,t.de,(A,t.se.length,c),t.po] 125)=w1 at *;go_wp2_with fail
 go_loopw [12] (λv12 wr=>∃k:Nat,k<=t.se.length/\v12= .int .i64 k/\aH ((t.se.take k).any (EN lock vQ)=false)/\aH (aD w w wr)) (λv12 _=>t.se.length - (aL v12).toNat)
 case atStart=>exact⟨0,abX _,rfl,rfl,f.o⟩
 case round=>
  obtain⟨k,hk,rfl,i,a⟩:=hrel;clear u;by_cases d:k<t.se.length
  .obtain⟨b,off,rfl,c0,c1,c2⟩:=(v.o.keep a.o).LO d;have j:aH ((t.se.take (k+1)).any (EN lock vQ)=EN lock vQ t.se[k]):=by
    unfold aH;rw[<-acL d,af4,i.o];simp
   have z:aH (EN lock vQ t.se[k]=true->CT t lock vQ=true):=λh=>aeK.2 ⟨_,abV d,h⟩
   have D:(0:Int)<=k:=aQ;have B:(k:Int)<(t.se.length:Int):=aQ;generalize t.se[k]=s at *;by_cases h1:s.lk=lock
   .by_cases m:s.fr<=vQ
    .by_cases p:vQ<s.iL
     .go_wp2_with fail
      go_ret
      rw[z.o (by simp[EN,h1,m,p])];exact⟨rfl,a.o.alloc a.o.size _⟩
     .go_wp2_with fail
      refine⟨⟨k+1,aQ,rfl,by rw[j.o];simp[EN,p,aH],a.o.alloc a.o.size _⟩,by simp only[aL];omega⟩
    .go_wp2_with fail
     refine⟨⟨k+1,aQ,rfl,by rw[j.o];simp[EN,m,aH],a.o.alloc a.o.size _⟩,by simp only[aL];omega⟩
   .go_wp2_with fail
    refine⟨⟨k+1,aQ,rfl,by rw[j.o];simp[EN,h1,aH],a.o.alloc a.o.size _⟩,by simp only[aL];omega⟩
  .have q:t.se.take k=t.se:=ab8 aQ;have C:aH (CT t lock vQ=false):=by
    have:=i.o;rw[q] at this;exact this
   have B:¬(k:Int)<(t.se.length:Int):=aQ;clear i q;go_wp2_with fail
   go_ret
   rw[C.o];exact⟨rfl,a.o⟩
end
variable{g n q2 o2:Nat}{x:Lb}{y:La}
section
theorem bU.c(h:bU F w g x y)(i:Nat)(v:aC)(a:(fU x y)[i]?=some v):w.cell? (g,i)=some v:=h.bk.cell i v a
theorem WN(h:bU F w g x y)(J:IF x n m){o:Nat}{j:Jb}(E:wK w q o j)(I:ZN x n j)(lock:Int):aG prog 127 #[.pointer g, .pointer (some ⟨q,o,none⟩),lock] w λr w'=>r= .returned (.bool (CB x j lock))/\aD w w w':=by
 obtain⟨i,hi⟩:=abR I.t0;have C:i<x.ts.length:=by have:=I.t1;omega
 obtain⟨b,A,c,K,t0,t1,t2,t3,t4,hs⟩:=h.task C;have G:=h.c 0 (.slice y.T y.L.length y.cT) rfl;have c0:=E.c0;have c4:=E.c4;have c7:=E.c7;have c9:=E.c9;rw[hi] at c0;rw[K,h.len] at G;have hl:(iG x i).se.length<=8:=by
  unfold iG;rw[abW,abY,abL C];exact(J.tk _ (abV C)).sl
 have D:aH (CB x j lock=(j.bg&&decide (j.rs=0)&&CT (iG x i) lock j.ra)):=by
  unfold aH CB;rw[hi]
 have i0:(0:Int)<=i:=aQ;have i1:(i:Int)<(x.ts.length:Int):=aQ;have M:aH (∀n:cC w,aG prog 182 #[.agg #[.int .i64 (iG x i).co, .int .i64 (iG x i).pe, .int .i64 (iG x i).de, .slice A (iG x i).se.length c, .int .i64 (iG x i).po],lock,j.ra] n.w λr w'=>r= .returned (.bool (CT (iG x i) lock j.ra))/\aD n.w.heap.size n.w w'):=λn=>VT _ A c (hs.keep n.ok) hl lock j.ra
 clear h J E I hs K hi;generalize iG x i=t at *;cases hb:j.bg
 .rw[hb] at c7 D;go_enter func127,ntmps127
  go_upto_region 1 with(fail)
  (have a:=cC.cell G;have d:=cC.cell c0;have e:=cC.cell c4;have f:=cC.cell c7;have k:=cC.cell c9;have l:=cC.cell t0;have p:=cC.cell t1;have s:=cC.cell t2;have u:=cC.cell t3;have v:=cC.cell t4;refine dG aV aV ?_;(repeat (go_big_quiet_step (fail)));refine wpQuiet_nil ?_;clear a d e f k l p s u v;intro w5 z;have B:=cC.below z;clear z)
  go_wp2_with fail
  go_ret
  rw[D.o];exact⟨rfl,B⟩
 .rw[hb] at c7 D;by_cases H:j.rs=0
  .rw[H] at c9;rw[acB H] at D;go_enter func127,ntmps127
   go_upto_region 1 with(fail)
   (have a:=cC.cell G;have d:=cC.cell c0;have e:=cC.cell c4;have f:=cC.cell c7;have k:=cC.cell c9;have l:=cC.cell t0;have p:=cC.cell t1;have s:=cC.cell t2;have u:=cC.cell t3;have v:=cC.cell t4;refine dG aV aV ?_;(repeat (go_big_quiet_step ((go_at_call 182;with_reducible exact gR (M.o _)))));refine wpQuiet_nil ?_;clear a d e f k l p s u v;intro w5 z;have B:=cC.below z;clear z)
   go_wp2_with fail
   go_ret
   rw[D.o];exact⟨rfl,B⟩
  .rw[ab4 H] at D;have N:(j.rs==0)=false:=by simpa using H
   go_enter func127,ntmps127
   go_upto_region 1 with(fail)
   (have a:=cC.cell G;have d:=cC.cell c0;have e:=cC.cell c4;have f:=cC.cell c7;have k:=cC.cell c9;have l:=cC.cell t0;have p:=cC.cell t1;have s:=cC.cell t2;have u:=cC.cell t3;have v:=cC.cell t4;refine dG aV aV ?_;(repeat (go_big_quiet_step (fail)));refine wpQuiet_nil ?_;clear a d e f k l p s u v;intro w5 z;have B:=cC.below z;clear z)
   go_wp2_with fail
   go_ret
   rw[D.o];exact⟨rfl,B⟩
theorem fD(w:aA)(n:Nat):aD w w (w.drewN n):=fN (Below.refl _ _) n
theorem yE(h:bU F w g x y)(v:IF x n m){o:Nat}{a b:Jb}(ha:wK w q o a)(z:ZN x n a)(hb:wK w q2 o2 b)(A:ZN x n b):aG prog 89 #[.pointer g, .pointer (some ⟨q,o,none⟩), .pointer (some ⟨q2,o2,none⟩)] w λr w'=>r= .returned (.bool (pP x a b))/\aD w w w':=by
 obtain⟨i,hi⟩:=abR z.t0;obtain⟨k,hk⟩:=abR A.t0;have B:i<x.rk.length:=by have:=z.t1;rw[v.lr];omega
 have C:k<x.rk.length:=by have:=A.t1;rw[v.lr];omega
 obtain⟨b1,hK,r1⟩:=h.MH B;obtain⟨b2,f,I⟩:=h.MH C;rw[hK] at f;injection f with f;injection f with f;subst f;have J:=h.c 1 (.int .i64 x.od) rfl;have G:=h.c 2 (.slice y.K x.rk.length y.cK) rfl;rw[hK] at G;have a0:=ha.c0;have L:=ha.c1;have a3:=ha.c3;have s:=ha.c8;have z0:=hb.c0;have M:=hb.c1;have z3:=hb.c3;have H:=hb.c8;rw[hi] at a0;rw[hk] at z0;have d:aH (pP x a b=if a.bh !=b.bh then b.bh else if x.od=1/\zP x i≠zP x k then decide (zP x i<zP x k) else if a.de≠b.de then decide (a.de<b.de) else if(i:Int)≠(k:Int) then decide ((i:Int)<(k:Int)) else decide (a.nu<b.nu)):=by
  unfold aH pP;rw[hi,hk]
 have i0:(0:Int)<=i:=aQ;have i1:(i:Int)<(x.rk.length:Int):=aQ;have N:(0:Int)<=k:=aQ;have O:(k:Int)<(x.rk.length:Int):=aQ;clear h v ha z hb A hK hi hk;generalize zP x i=t at *;generalize zP x k=rk at *;by_cases h1:a.bh=b.bh
 .have n1:(a.bh !=b.bh)=false:=by rw[h1];simp
  rw[n1] at d;simp only[acH,acG] at d;rw[h1] at s n1;by_cases j:x.od=1/\t≠rk
  .rw[abP j] at d;obtain⟨j,D⟩:=j;go_enter func89,ntmps89
   go_upto_region 1 with(fail)
   go_quiet (fail)
   go_upto_region 3 with(fail)
   go_quiet (fail)
   go_upto_region 4 with(fail)
   go_quiet (fail)
   go_wp2_with fail
   go_ret
   rw[d.o];exact⟨aT,fD _ _⟩
  .rw[abQ j] at d;have u:aH (¬(x.od=1/\t≠rk)):=j;clear j;by_cases D:x.od=1
   .have P:t=rk:=by
     by_cases e:t=rk
     .exact e
     .exact absurd ⟨D,e⟩ u.o
    by_cases l:a.de=b.de
    .rw[abQ (by simpa using l)] at d;by_cases p:(i:Int)=(k:Int)
     .rw[abQ (by simpa using p)] at d;go_enter func89,ntmps89
      go_upto_region 1 with(fail)
      go_quiet (fail)
      go_upto_region 3 with(fail)
      go_quiet (fail)
      go_upto_region 5 with(fail)
      go_quiet (fail)
      go_upto_region 7 with(fail)
      go_quiet (fail)
      go_upto_region 9 with(fail)
      go_quiet (fail)
      go_wp2_with fail
      go_ret
      rw[d.o];exact⟨aT,fD _ _⟩
     .rw[abP p] at d;go_enter func89,ntmps89
      go_upto_region 1 with(fail)
      go_quiet (fail)
      go_upto_region 3 with(fail)
      go_quiet (fail)
      go_upto_region 5 with(fail)
      go_quiet (fail)
      go_upto_region 7 with(fail)
      go_quiet (fail)
      go_upto_region 8 with(fail)
      go_quiet (fail)
      go_wp2_with fail
      go_ret
      rw[d.o];exact⟨aT,fD _ _⟩
    .rw[abP l] at d;go_enter func89,ntmps89
     go_upto_region 1 with(fail)
     go_quiet (fail)
     go_upto_region 3 with(fail)
     go_quiet (fail)
     go_upto_region 5 with(fail)
     go_quiet (fail)
     go_upto_region 6 with(fail)
     go_quiet (fail)
     go_wp2_with fail
     go_ret
     rw[d.o];exact⟨aT,fD _ _⟩
   .skip
    by_cases l:a.de=b.de
    .rw[abQ (by simpa using l)] at d;by_cases p:(i:Int)=(k:Int)
     .rw[abQ (by simpa using p)] at d;go_enter func89,ntmps89
      go_upto_region 1 with(fail)
      go_quiet (fail)
      go_upto_region 3 with(fail)
      go_quiet (fail)
      go_upto_region 5 with(fail)
      go_quiet (fail)
      go_upto_region 7 with(fail)
      go_quiet (fail)
      go_upto_region 9 with(fail)
      go_quiet (fail)
      go_wp2_with fail
      go_ret
      rw[d.o];exact⟨aT,fD _ _⟩
     .rw[abP p] at d;go_enter func89,ntmps89
      go_upto_region 1 with(fail)
      go_quiet (fail)
      go_upto_region 3 with(fail)
      go_quiet (fail)
      go_upto_region 5 with(fail)
      go_quiet (fail)
      go_upto_region 7 with(fail)
      go_quiet (fail)
      go_upto_region 8 with(fail)
      go_quiet (fail)
      go_wp2_with fail
      go_ret
      rw[d.o];exact⟨aT,fD _ _⟩
    .rw[abP l] at d;go_enter func89,ntmps89
     go_upto_region 1 with(fail)
     go_quiet (fail)
     go_upto_region 3 with(fail)
     go_quiet (fail)
     go_upto_region 5 with(fail)
     go_quiet (fail)
     go_upto_region 6 with(fail)
     go_quiet (fail)
     go_wp2_with fail
     go_ret
     rw[d.o];exact⟨aT,fD _ _⟩
 .have n1:(a.bh !=b.bh)=true:=by simpa using h1
  rw[n1] at d;simp only[ac3] at d;have u:a.bh=!b.bh:=by
   cases Q:a.bh <;> cases E:b.bh <;> simp_all
  rw[u] at s;clear h1 n1 u;cases E:b.bh
  all_goals
   rw[E] at s H d;simp only[Bool.not_false,Bool.not_true] at s;go_enter func89,ntmps89
   go_upto_region 1 with(fail)
   go_quiet (fail)
   go_wp2_with fail
   go_ret
   rw[d.o];exact⟨rfl,fD _ _⟩
end
section
theorem JP(n:Nat)(p:Nat->Bool):(List.range (n+1)).all p=((List.range n).all p&&p n):=by
 rw[ad9,List.all_append];simp
theorem Ef(x:Lb)(W:aA):∀(l:Nat),l<8->(Instr.index 62 (.agg #[.int .i64 (x.ce 0), .int .i64 (x.ce 1), .int .i64 (x.ce 2), .int .i64 (x.ce 3), .int .i64 (x.ce 4), .int .i64 (x.ce 5), .int .i64 (x.ce 6), .int .i64 (x.ce 7)]) (.int .i64 l)).run prog W= .ok (.int .i64 (x.ce l)) W:=λl hl=>by
 match l,hl with
 |0,_=>
  show(Instr.index 62 (.agg #[.int .i64 (x.ce 0), .int .i64 (x.ce 1), .int .i64 (x.ce 2), .int .i64 (x.ce 3), .int .i64 (x.ce 4), .int .i64 (x.ce 5), .int .i64 (x.ce 6), .int .i64 (x.ce 7)]) (.int .i64 ((0:Nat):Int))).run prog W= .ok (.int .i64 (x.ce 0)) W;kernel_rfl
 |1,_=>
  show(Instr.index 62 (.agg #[.int .i64 (x.ce 0), .int .i64 (x.ce 1), .int .i64 (x.ce 2), .int .i64 (x.ce 3), .int .i64 (x.ce 4), .int .i64 (x.ce 5), .int .i64 (x.ce 6), .int .i64 (x.ce 7)]) (.int .i64 ((1:Nat):Int))).run prog W= .ok (.int .i64 (x.ce 1)) W;kernel_rfl
 |2,_=>
  show(Instr.index 62 (.agg #[.int .i64 (x.ce 0), .int .i64 (x.ce 1), .int .i64 (x.ce 2), .int .i64 (x.ce 3), .int .i64 (x.ce 4), .int .i64 (x.ce 5), .int .i64 (x.ce 6), .int .i64 (x.ce 7)]) (.int .i64 ((2:Nat):Int))).run prog W= .ok (.int .i64 (x.ce 2)) W;kernel_rfl
 |3,_=>
  show(Instr.index 62 (.agg #[.int .i64 (x.ce 0), .int .i64 (x.ce 1), .int .i64 (x.ce 2), .int .i64 (x.ce 3), .int .i64 (x.ce 4), .int .i64 (x.ce 5), .int .i64 (x.ce 6), .int .i64 (x.ce 7)]) (.int .i64 ((3:Nat):Int))).run prog W= .ok (.int .i64 (x.ce 3)) W;kernel_rfl
 |4,_=>
  show(Instr.index 62 (.agg #[.int .i64 (x.ce 0), .int .i64 (x.ce 1), .int .i64 (x.ce 2), .int .i64 (x.ce 3), .int .i64 (x.ce 4), .int .i64 (x.ce 5), .int .i64 (x.ce 6), .int .i64 (x.ce 7)]) (.int .i64 ((4:Nat):Int))).run prog W= .ok (.int .i64 (x.ce 4)) W;kernel_rfl
 |5,_=>
  show(Instr.index 62 (.agg #[.int .i64 (x.ce 0), .int .i64 (x.ce 1), .int .i64 (x.ce 2), .int .i64 (x.ce 3), .int .i64 (x.ce 4), .int .i64 (x.ce 5), .int .i64 (x.ce 6), .int .i64 (x.ce 7)]) (.int .i64 ((5:Nat):Int))).run prog W= .ok (.int .i64 (x.ce 5)) W;kernel_rfl
 |6,_=>
  show(Instr.index 62 (.agg #[.int .i64 (x.ce 0), .int .i64 (x.ce 1), .int .i64 (x.ce 2), .int .i64 (x.ce 3), .int .i64 (x.ce 4), .int .i64 (x.ce 5), .int .i64 (x.ce 6), .int .i64 (x.ce 7)]) (.int .i64 ((6:Nat):Int))).run prog W= .ok (.int .i64 (x.ce 6)) W;kernel_rfl
 |7,_=>
  show(Instr.index 62 (.agg #[.int .i64 (x.ce 0), .int .i64 (x.ce 1), .int .i64 (x.ce 2), .int .i64 (x.ce 3), .int .i64 (x.ce 4), .int .i64 (x.ce 5), .int .i64 (x.ce 6), .int .i64 (x.ce 7)]) (.int .i64 ((7:Nat):Int))).run prog W= .ok (.int .i64 (x.ce 7)) W;kernel_rfl
theorem Gf(h:bU F w g x y)(D:IF x n m)(hn:n<=1000000){p:Nat}(hp:p<x.jb.length):aG prog 90 #[.pointer g,p] w λr w'=>r= .returned (.bool (IX x p))/\aD w w w':=by
 have R:=D.l6 hp;obtain⟨i,hi⟩:=abR R.t0;have S:i<x.rk.length:=by have:=R.t1;rw[D.lr];omega
 obtain⟨b1,hK,r1⟩:=h.MH S;obtain⟨q,hq,hc⟩:=h.l6 hp;have e2:=h.c 2 (.slice y.K x.rk.length y.cK) rfl;have t:=h.c 15 (.slice y.J x.jb.length y.cJ) rfl;rw[hK] at e2;rw[hq] at t;have c0:=hc.c0;rw[hi] at c0;have hr:aH (zP x (dT x p).tk=zP x i):=by unfold aH;rw[hi]
 have i0:(0:Int)<=i:=aQ;have i1:(i:Int)<(x.rk.length:Int):=aQ;have p0:(0:Int)<=p:=aQ;have p1:(p:Int)<(x.jb.length:Int):=aQ;have Q:=aP h;have HI:=aP D;have HQ:=aP hq;have hjl:=D.jl;clear R hi hc hK hq h D;generalize zP x i=r at *;go_enter func90,ntmps90
 go_upto_region 1 with(fail)
 go_quiet (fail)
 go_wp2_with fail
 have T:aH (aD w w (w.drewN nq)):=fD _ _;generalize w.drewN nq=w1 at *;go_loopw [29] (λu wr=>∃k:Nat,k<=x.jb.length/\u= .int .i64 k/\aH ((List.range k).all (DY x p)=true)/\aH (aD w w wr)) (λu _=>x.jb.length - (aL u).toNat)
 case atStart=>exact⟨0,abX _,rfl,rfl,T.o⟩
 case round=>
  obtain⟨k,hk,rfl,U,s⟩:=hrel;by_cases v:k<x.jb.length
  .have j1:(k:Int)<(x.jb.length:Int):=aQ;have j0:(0:Int)<=k:=aQ;by_cases E:k=p
   .subst E;have V:aH ((List.range (k+1)).all (DY x k)=true):=by unfold aH;rw[JP,U.o];simp[DY]
    go_wp2_with fail
    refine⟨⟨k+1,aQ,rfl,V.o,s.o⟩,by simp only[aL];omega⟩
   .have hkp':¬(k:Int)=(p:Int):=aQ;obtain⟨q',d,G⟩:=(Q.o.below s.o).l6 v;have H:=aP G;have X:=aP (HI.o.l6 v);rw[HQ.o] at d;injection d with d;injection d with d;subst d;have HM:aH (DY x p k=(List.range 8).all (L6 x r (dT x k))):=by unfold aH DY;rw[hr.o];simp[E]
    have a:=Q.o.below s.o;have E0:wr.cell? (g,3)=some (.int .i64 (x.ce 0)):=a.c 3 _ rfl;have E1:wr.cell? (g,4)=some (.int .i64 (x.ce 1)):=a.c 4 _ rfl;have E2:wr.cell? (g,5)=some (.int .i64 (x.ce 2)):=a.c 5 _ rfl;have E3:wr.cell? (g,6)=some (.int .i64 (x.ce 3)):=a.c 6 _ rfl;have E4:wr.cell? (g,7)=some (.int .i64 (x.ce 4)):=a.c 7 _ rfl;have E5:wr.cell? (g,8)=some (.int .i64 (x.ce 5)):=a.c 8 _ rfl;have E6:wr.cell? (g,9)=some (.int .i64 (x.ce 6)):=a.c 9 _ rfl;have E7:wr.cell? (g,10)=some (.int .i64 (x.ce 7)):=a.c 10 _ rfl;have HG:=aP a;clear a e2 t c0;go_upto_region 6 with(fail)
    go_wp2_with fail
    obtain⟨B,I⟩:∃z,z=wr:=⟨_,rfl⟩
    rw[<-I] at H s HG E0 E1 E2 E3 E4 E5 E6 E7⊢;clear I G wr;go_loopw [39] (λv39 ws=>∃l:Nat,l<=8/\v39= .int .i64 l/\aH ((List.range l).all (L6 x r (dT x k))=true)/\aH (aD B B ws)) (λv39 _=>8 - (aL v39).toNat)
    case atStart=>exact⟨0,abX _,rfl,rfl,Below.refl _ _⟩
    case round=>
     clear E0 E1 E2 E3 E4 E5 E6 E7;obtain⟨l,hl,rfl,L,b⟩:=hrel;by_cases M:l<8
     .have l1:(l:Int)<8:=aQ;have N:=λW=>Ef x W l M
      have f:aH (aD w w wr/\aD B B wr):=⟨s.o.trans (b.o.mono s.o.size),b.o⟩
      have O:aH ((List.range (l+1)).all (L6 x r (dT x k))=L6 x r (dT x k) l):=by unfold aH;rw[JP,L.o];simp
      have HD:aH (L6 x r (dT x k) l=!(decide (x.ce l<=r)&&CB x (dT x k) l)):=rfl;by_cases P:x.ce l<=r
      .have C:=aP (WN (Q.o.below f.o.1) HI.o (H.o.keep b.o) X.o l);have t:wr.cell? (g,15)=some (.slice q x.jb.length y.cJ):=by
        have:=(Q.o.below f.o.1).c 15 (.slice y.J x.jb.length y.cJ) rfl;rw[HQ.o] at this;exact this
       rw[acB P] at HD;generalize x.ce l=cl at *;cases hh:CB x (dT x k) l
       .rw[hh] at C HD;go_wp2_with fail
        refine aR C ?_;rintro e Y ⟨rfl,j⟩;have A:aH (aD B B Y):=b.o.trans (j.mono b.o.size);clear j C N;go_wp2_with fail
        refine⟨⟨l+1,aQ,rfl,by rw[O.o,HD.o];rfl,A.o⟩,by simp only[aL];omega⟩
       .rw[hh] at C HD;have Z:aH (IX x p=false):=by
         have h1:DY x p k=false:=by
          rw[HM.o,List.all_eq_false];exact⟨l,ac4.2 M,by rw[HD.o];simp⟩
         unfold aH IX;rw[List.all_eq_false];exact⟨k,ac4.2 v,by rw[h1];simp⟩
        go_wp2_with fail
        refine aR C ?_;rintro e Y ⟨rfl,j⟩;have A:aH (aD w w Y):=f.o.1.trans (j.mono f.o.1.size);clear j C N;go_wp2_with fail
        go_ret
        rw[Z.o];exact⟨rfl,A.o⟩
      .rw[ab4 P] at HD;generalize x.ce l=cl at *;go_wp2_with fail
       refine⟨⟨l+1,aQ,rfl,by rw[O.o,HD.o];rfl,b.o⟩,by simp only[aL];omega⟩
     .have l1:¬(l:Int)<8:=aQ;have a1:l=8:=aQ;have V:aH ((List.range (k+1)).all (DY x p)=true):=by
       unfold aH;rw[JP,U.o,HM.o,<-a1,L.o];rfl
      have f:aH (aD w w wr):=s.o.trans (b.o.mono s.o.size);go_wp2_with fail
      refine⟨⟨k+1,aQ,rfl,V.o,f.o⟩,by simp only[aL];omega⟩
  .have j1:¬(k:Int)<(x.jb.length:Int):=aQ;have a6:k=x.jb.length:=aQ;have Z:aH (IX x p=true):=by have:=U.o;rw[a6] at this;exact this
   go_wp2_with fail
   go_ret
   rw[Z.o];exact⟨rfl,s.o⟩
end
section
def uA:Option Nat->Int
 |none=> -1
 |some f=>f
theorem JN(x:Lb):∀k,(∀f,(fW x k).1=some f->f<k)/\(∀f,(fW x k).2=some f->f<k)
 |0=>⟨λf h=>by simp[fW] at h,λf h=>by simp[fW] at h⟩
 |k+1=>by
  have a:=JN x k;unfold fW;split
  .exact⟨λf h=>afT (a.1 f h),λf h=>afT (a.2 f h)⟩
  .refine⟨λf h=>?_,λf h=>?_⟩
   .simp only at h;split at h
    .injection h with h;omega
    .exact afT (a.1 f h)
   .simp only at h;split at h
    .injection h with h;omega
    .exact afT (a.2 f h)
theorem NJ(h:bU F w g x y)(hI:IF x n m)(hn:n<=1000000):aG prog 58 #[.pointer g] w λr w'=>r= .returned (.int .i64 (uA (mW x)))/\aD w w w':=by
 have B:=h.c 15 (.slice y.J x.jb.length y.cJ) rfl;have u:=aP h;have K:=aP hI;have hjl:=hI.jl;clear h hI;go_enter func58,ntmps58
 go_wp2_with fail
 go_loopw [14,3,4] (λO v3 v4 wr=>∃k:Nat,k<=x.jb.length/\O= .int .i64 k/\(∃o1 o2:Option Nat,v3= .int .i64 (uA o1)/\v4= .int .i64 (uA o2)/\aH ((fW x k).1=o1/\(fW x k).2=o2))/\aH (aD w w wr)) (λO v3 v4 _=>x.jb.length - (aL O).toNat)
 case atStart=>exact⟨0,abX _,rfl,⟨none,none,rfl,rfl,rfl,rfl⟩,Below.refl _ _⟩
 case round=>
  obtain⟨k,hk,rfl,⟨o1,o2,rfl,rfl,L⟩,D⟩:=hrel;clear B;by_cases E:k<x.jb.length
  .have j1:(k:Int)<(x.jb.length:Int):=aQ;have j0:(0:Int)<=k:=aQ;obtain⟨q,hq,hc⟩:=(u.o.below D.o).l6 E;have N:=aP hc;have HQ:=aP hq;have Y:=aP (K.o.l6 E);have B:=(u.o.below D.o).c 15 (.slice y.J x.jb.length y.cJ) rfl;have e11:=(u.o.below D.o).c 11 (.int .i64 x.nw) rfl;rw[hq] at B;have c2:=hc.c2;have c7:=hc.c7;have Z:=aP (JN x k);clear hc hq;by_cases R:x.nw<(dT x k).ca
   .have l:aH ((fW x (k+1)).1=o1/\(fW x (k+1)).2=o2):=by
     have:fW x (k+1)=fW x k:=by rw[fW,abP R]
     unfold aH;rw[this];exact L.o
    generalize (dT x k).ca=ca at *;go_upto_region 8 with(fail)
    go_quiet (fail)
    go_wp2_with fail
    refine⟨⟨k+1,aQ,rfl,⟨o1,o2,rfl,rfl,l.o⟩,fN D.o _⟩,by simp only[aL];omega⟩
   .have l:aH ((fW x (k+1)).1=(if zV x o1 k then some k else o1)/\(fW x (k+1)).2=(if(dT x k).bg&&zV x o2 k then some k else o2)):=by
     have:fW x (k+1)=(if zV x (fW x k).1 k then some k else(fW x k).1,if(dT x k).bg&&zV x (fW x k).2 k then some k else(fW x k).2):=by rw[fW,abQ R]
     unfold aH;rw[this,L.o.1,L.o.2];exact⟨rfl,rfl⟩
    generalize (dT x k).ca=ca at *;go_upto_region 8 with(fail)
    go_quiet (fail)
    have j:aH (aD w w (wr.drewN nq)/\aD wr wr (wr.drewN nq)):=⟨fN D.o _,fD _ _⟩
    have P:(wr.drewN nq).cell? (g,15)=some (.slice q x.jb.length y.cJ):=B;clear D B e11 c2 c7;generalize hwz:wr.drewN nq=wz at *;cases o1 with
    |none=>
     have HF:aH (zV x none k=true):=rfl;rw[HF.o] at l;rw[show uA none= -1 from rfl];go_upto_region 11 with(fail)
     have d:aH (aD w w wz):=j.o.1;have s:aH (aD wr wr wz):=j.o.2;obtain⟨M,S⟩:∃z,z=wz:=⟨_,rfl⟩
     rw[<-S] at d s⊢;clear S P;have p:aH (wK M q (k *11) (dT x k)):=N.o.keep s.o;have d15:=(u.o.below d.o).c 15 (.slice y.J x.jb.length y.cJ) rfl;rw[HQ.o] at d15;have d7:=p.o.c7;cases G:(dT x k).bg
     .rw[G] at d7 l;go_wp2_with fail
      refine⟨⟨k+1,aQ,rfl,⟨some k,o2,rfl,rfl,l.o⟩,d.o⟩,by simp only[aL];omega⟩
     .rw[G] at d7 l;cases o2 with
      |none=>
       rw[show uA none= -1 from rfl] at *;go_wp2_with fail
       refine⟨⟨k+1,aQ,rfl,⟨some k,some k,rfl,rfl,l.o⟩,d.o⟩,by simp only[aL];omega⟩
      |some b=>
       have hb:=Nat.lt_trans (Z.o.2 b L.o.2) E;have b0:(0:Int)<=b:=aQ;have b1:(b:Int)<(x.jb.length:Int):=aQ;obtain⟨q',a,v⟩:=(u.o.below d.o).l6 hb;rw[HQ.o] at a;injection a with a;injection a with a;subst a;have t:=aP (yE (u.o.below d.o) K.o p.o Y.o v (K.o.l6 hb));have C:aH (zV x (some b) k=pP x (dT x k) (dT x b)):=rfl;rw[C.o] at l;clear v hb;have H:aH (uA (some b)=(b:Int)):=rfl;rw[H.o];cases I:pP x (dT x k) (dT x b)
       all_goals
        rw[I] at t l;go_wp2_with fail
        refine aR t ?_;rintro e T ⟨rfl,i⟩;have A:aH (aD w w T):=d.o.trans (i.mono d.o.size);clear i t s p d7 d15;go_wp2_with fail
        first
         |exact⟨⟨k+1,aQ,rfl,⟨some k,some b,rfl,rfl,l.o⟩,A.o⟩,by simp only[aL];omega⟩
         |exact⟨⟨k+1,aQ,rfl,⟨some k,some k,rfl,rfl,l.o⟩,A.o⟩,by simp only[aL];omega⟩
    |some f=>
     have hf:=Nat.lt_trans (Z.o.1 f L.o.1) E;have f0:(0:Int)<=f:=aQ;have f1:(f:Int)<(x.jb.length:Int):=aQ;obtain⟨q',a,U⟩:=(u.o.below j.o.1).l6 hf;rw[HQ.o] at a;injection a with a;injection a with a;subst a;have t:=aP (yE (u.o.below j.o.1) K.o (N.o.keep j.o.2) Y.o U (K.o.l6 hf));have C:aH (zV x (some f) k=pP x (dT x k) (dT x f)):=rfl;rw[C.o] at l;have HQf:aH (uA (some f)=(f:Int)):=rfl;rw[HQf.o];clear U hf;cases V:pP x (dT x k) (dT x f)
     .rw[V] at t l;go_wp2_with fail
      refine aR t ?_;rintro e M ⟨rfl,i⟩;have d:aH (aD w w M):=j.o.1.trans (i.mono j.o.1.size);have s:aH (aD wr wr M):=j.o.2.trans (i.mono j.o.2.size);clear i t j P;go_upto_region 11 with(fail)
      have p:aH (wK M q (k *11) (dT x k)):=N.o.keep s.o;have d15:=(u.o.below d.o).c 15 (.slice y.J x.jb.length y.cJ) rfl;rw[HQ.o] at d15;have d7:=p.o.c7;cases G:(dT x k).bg
      .rw[G] at d7 l;go_wp2_with fail
       refine⟨⟨k+1,aQ,rfl,⟨some f,o2,rfl,rfl,l.o⟩,d.o⟩,by simp only[aL];omega⟩
      .rw[G] at d7 l;cases o2 with
       |none=>
        rw[show uA none= -1 from rfl] at *;go_wp2_with fail
        refine⟨⟨k+1,aQ,rfl,⟨some f,some k,rfl,rfl,l.o⟩,d.o⟩,by simp only[aL];omega⟩
       |some b=>
        have hb:=Nat.lt_trans (Z.o.2 b L.o.2) E;have b0:(0:Int)<=b:=aQ;have b1:(b:Int)<(x.jb.length:Int):=aQ;obtain⟨q',a,v⟩:=(u.o.below d.o).l6 hb;rw[HQ.o] at a;injection a with a;injection a with a;subst a;have t:=aP (yE (u.o.below d.o) K.o p.o Y.o v (K.o.l6 hb));have C:aH (zV x (some b) k=pP x (dT x k) (dT x b)):=rfl;rw[C.o] at l;clear v hb;have H:aH (uA (some b)=(b:Int)):=rfl;rw[H.o];cases I:pP x (dT x k) (dT x b)
        all_goals
         rw[I] at t l;go_wp2_with fail
         refine aR t ?_;rintro e T ⟨rfl,i⟩;have A:aH (aD w w T):=d.o.trans (i.mono d.o.size);clear i t s p d7 d15;go_wp2_with fail
         first
          |exact⟨⟨k+1,aQ,rfl,⟨some f,some b,rfl,rfl,l.o⟩,A.o⟩,by simp only[aL];omega⟩
          |exact⟨⟨k+1,aQ,rfl,⟨some f,some k,rfl,rfl,l.o⟩,A.o⟩,by simp only[aL];omega⟩
     .rw[V] at t l;go_wp2_with fail
      refine aR t ?_;rintro e M ⟨rfl,i⟩;have d:aH (aD w w M):=j.o.1.trans (i.mono j.o.1.size);have s:aH (aD wr wr M):=j.o.2.trans (i.mono j.o.2.size);clear i t j P;go_upto_region 11 with(fail)
      have p:aH (wK M q (k *11) (dT x k)):=N.o.keep s.o;have d15:=(u.o.below d.o).c 15 (.slice y.J x.jb.length y.cJ) rfl;rw[HQ.o] at d15;have d7:=p.o.c7;cases G:(dT x k).bg
      .rw[G] at d7 l;go_wp2_with fail
       refine⟨⟨k+1,aQ,rfl,⟨some k,o2,rfl,rfl,l.o⟩,d.o⟩,by simp only[aL];omega⟩
      .rw[G] at d7 l;cases o2 with
       |none=>
        rw[show uA none= -1 from rfl] at *;go_wp2_with fail
        refine⟨⟨k+1,aQ,rfl,⟨some k,some k,rfl,rfl,l.o⟩,d.o⟩,by simp only[aL];omega⟩
       |some b=>
        have hb:=Nat.lt_trans (Z.o.2 b L.o.2) E;have b0:(0:Int)<=b:=aQ;have b1:(b:Int)<(x.jb.length:Int):=aQ;obtain⟨q',a,v⟩:=(u.o.below d.o).l6 hb;rw[HQ.o] at a;injection a with a;injection a with a;subst a;have t:=aP (yE (u.o.below d.o) K.o p.o Y.o v (K.o.l6 hb));have C:aH (zV x (some b) k=pP x (dT x k) (dT x b)):=rfl;rw[C.o] at l;clear v hb;have H:aH (uA (some b)=(b:Int)):=rfl;rw[H.o];cases I:pP x (dT x k) (dT x b)
        all_goals
         rw[I] at t l;go_wp2_with fail
         refine aR t ?_;rintro e T ⟨rfl,i⟩;have A:aH (aD w w T):=d.o.trans (i.mono d.o.size);clear i t s p d7 d15;go_wp2_with fail
         first
          |exact⟨⟨k+1,aQ,rfl,⟨some k,some b,rfl,rfl,l.o⟩,A.o⟩,by simp only[aL];omega⟩
          |exact⟨⟨k+1,aQ,rfl,⟨some k,some k,rfl,rfl,l.o⟩,A.o⟩,by simp only[aL];omega⟩
  .have j1:¬(k:Int)<(x.jb.length:Int):=aQ;have W:k=x.jb.length:=aQ;have HN:aH ((fW x x.jb.length).1=o1/\(fW x x.jb.length).2=o2):=by rw[<-W];exact L.o
   clear L;cases o1 with
   |none=>
    have Q:aH (mW x=none):=by unfold aH mW;rw[HN.o.1]
    rw[show uA none= -1 from rfl];go_wp2_with fail
    go_ret
    rw[Q.o];exact⟨rfl,D.o⟩
   |some f=>
    have hf:=(JN x x.jb.length).1 f HN.o.1;obtain⟨q,hq,hc⟩:=(u.o.below D.o).l6 hf;have B:=(u.o.below D.o).c 15 (.slice y.J x.jb.length y.cJ) rfl;rw[hq] at B;have c7:=hc.c7;have Q:aH (mW x=if(dT x f).bg || IX x f then some f else o2):=by unfold aH mW;rw[HN.o.1,HN.o.2]
    have N:=aP (Gf (u.o.below D.o) K.o hn hf);have f0:(0:Int)<=f:=aQ;have f1:(f:Int)<(x.jb.length:Int):=aQ;rw[show uA (some f)=(f:Int) from rfl];clear hc hq W;cases G:(dT x f).bg
    .rw[G] at c7 Q;cases hm:IX x f
     all_goals
      rw[hm] at N Q;go_wp2_with fail
      refine aR N ?_;rintro e w4 ⟨rfl,X⟩;have HB4:aH (aD w w w4):=D.o.trans (X.mono D.o.size);clear X N;go_wp2_with fail
      go_ret
      rw[Q.o];exact⟨rfl,HB4.o⟩
    .rw[G] at c7 Q;go_wp2_with fail
     go_ret
     rw[Q.o];exact⟨rfl,D.o⟩
theorem XO(h:bU F w g x y)(c:IF x n m)(d:n<=1000000):aG prog 44 #[.pointer g] w λr w'=>r= .returned (.bool (mW x).isSome)/\aD w w w':=by
 have b:=aP (NJ h c d);have i:aH (∀o:Option Nat,decide (0<=uA o)=o.isSome):=λo=>by
  cases o with
  |none=>rfl
  |some f=>simp[uA]
 clear h;generalize mW x=o at *;go_enter func44,ntmps44
 go_wp2_with fail
 refine aR b ?_;rintro e k ⟨rfl,a⟩;have j:=aP a;clear a b;go_wp2_with fail
 go_ret
 exact⟨by rw[i.o];rfl,j.o⟩
end
end
variable{n K K' i b m:Nat}{x:Lb}{sb nb:Nat->Nat}
section
section
structure Ap(t:Tk):Prop where
 co:1<=t.co/\t.co<=1048576
 pe:1<=t.pe/\t.pe<=1048576
 de:1<=t.de/\t.de<=1048576
 po:0<=t.po/\t.po<=2
 se:t.se.length<=8
structure AF(n K:Nat)(nw:Int)(j:Jb):Prop where
 tk:0<=j.tk/\j.tk<n
 nu:0<=j.nu/\j.nu<=K
 ca:0<=j.ca/\j.ca<=1048576 *((K:Int)+2)
 de:0<=j.de/\j.de<=1048576 *((K:Int)+3)
 ra:0<=j.ra/\j.ra<=nw
 lf:0<=j.lf/\j.lf<=1048576
 bh:j.bh=false->1<=j.lf
 rs:0<=j.rs/\j.rs<=K
structure eL(x:Lb)(sb nb:Nat->Nat)(K m e:Nat):Prop where
 n:x.ts.length<=8
 lr:x.rk.length=x.ts.length
 ls:x.sh.length=x.ts.length
 ln:x.nu.length=x.ts.length
 lw:x.wt.length=x.ts.length
 nw:0<=x.nw/\x.nw<=1048576
 tk:∀t∈x.ts,Ap t
 sk:∀(i:Nat) (s:jN),x.sh[i]?=some s->mD s (sb i)
 nk:∀(i:Nat) (v:Int),x.nu[i]?=some v->0<=v/\v<=nb i
 jk:∀j∈x.jb,AF x.ts.length K x.nw j
 jl:x.jb.length<=m
 lg:x.lg.length<=e
def lA(x:Lb)(k:Nat):Prop:=eL x (λ_=>k) (λ_=>k) k (8 *k) (1000000 *k)
theorem AF.mono{nw nw':Int}{j:Jb}(h:AF n K nw j)(hK:K<=K')(hw:nw<=nw'):AF n K' nw' j:=
 ⟨h.tk,by have:=h.nu;omega,by have:=h.ca;omega,by have:=h.de;omega,by have:=h.ra;omega,h.lf,h.bh,by have:=h.rs;omega⟩
theorem mD.mono{s:jN}{k k':Nat}(h:mD s k)(hk:k<=k'):mD s k':=
 ⟨h.p0,h.p1,h.n0,by have:=h.n1;omega,h.c0,by have:=h.c1;omega,h.r0,by have:=h.r1;omega⟩
section
variable{x:Lb}{sb sb' nb nb':Nat->Nat}{K K' m m' e e':Nat}
theorem eL.mono(h:eL x sb nb K m e)(h1:∀i,sb i<=sb' i)(a:∀i,nb i<=nb' i)(b:K<=K')(f:m<=m')(g:e<=e'):eL x sb' nb' K' m' e':=
 ⟨h.n,h.lr,h.ls,h.ln,h.lw,h.nw,h.tk,λi s hs=>(h.sk i s hs).mono (h1 i),λi v c=>by have:=h.nk i v c;have:=a i;omega,λj d=>(h.jk j d).mono b (adL _),by have:=h.jl;omega,by have:=h.lg;omega⟩
theorem eL.task(h:eL x sb nb K m e)(hi:i<x.ts.length):iG x i=x.ts[i]/\Ap (iG x i):=by
 have a:iG x i=x.ts[i]:=by unfold iG;rw[abW,abY,abL hi];rfl
 exact⟨a,by rw[a];exact h.tk _ (abV hi)⟩
theorem eL.qQ(h:eL x sb nb K m e)(hi:i<x.ts.length):∃hs:i<x.sh.length,jS x i=x.sh[i]/\mD (jS x i) (sb i):=by
 have hs:i<x.sh.length:=by rw[h.ls];exact hi
 have a:jS x i=x.sh[i]:=by unfold jS;rw[abW,abY,abL hs];rfl
 exact⟨hs,a,by rw[a];exact h.sk i _ (abL hs)⟩
theorem eL.num(h:eL x sb nb K m e)(hi:i<x.ts.length):∃hs:i<x.nu.length,x.nu.getD i 0=x.nu[i]/\0<=x.nu.getD i 0/\x.nu.getD i 0<=nb i:=by
 have hs:i<x.nu.length:=by rw[h.ln];exact hi
 have a:x.nu.getD i 0=x.nu[i]:=by rw[abY,abL hs];rfl
 exact⟨hs,a,by rw[a];exact h.nk i _ (abL hs)⟩
theorem eL.l6(h:eL x sb nb K m e)(hi:i<x.jb.length):dT x i=x.jb[i]/\AF x.ts.length K x.nw (dT x i):=by
 have a:dT x i=x.jb[i]:=by unfold dT;rw[abY,abL hi];rfl
 exact⟨a,by rw[a];exact h.jk _ (abV hi)⟩
theorem eL.note(h:eL x sb nb K m e)(kd:Int)(j:Jb):eL (iY x kd j) sb nb K m (e+1):=
 ⟨h.n,h.lr,h.ls,h.ln,h.lw,h.nw,h.tk,h.sk,h.nk,h.jk,h.jl,by have:=h.lg;simp[iY];omega⟩
theorem eL.EZ(h:eL x sb nb K m e)(i:Nat){j:Jb}(b:AF x.ts.length K x.nw j):eL (cM x i j) sb nb K m e:=by
 refine⟨h.n,h.lr,h.ls,h.ln,h.lw,h.nw,h.tk,h.sk,h.nk,λy a=>?_,by simpa[cM] using h.jl,h.lg⟩;rcases acT a with a|rfl
 .exact h.jk y a
 .exact b
theorem eL.C6(h:eL x sb nb K m e)(i:Nat){s:jN}(hs:mD s b):eL (eA x i s) (λj=>if j=i then b else sb j) nb K m e:=by
 refine⟨h.n,h.lr,by simpa[eA] using h.ls,h.ln,h.lw,h.nw,h.tk,λj s' a=>?_,h.nk,h.jk,h.jl,h.lg⟩;simp only[eA,abW] at a;rw[acW] at a;split at a
 .rename_i c;subst c;split at a
  .injection a with a;subst a;simpa using hs
  .cases a
 .rename_i c;simp only[abQ (λd=>c (Eq.symm d))];exact h.sk j s' a
theorem eL.Yh(h:eL x sb nb K m e)(i:Nat)(d:Int):eL {x with wt:=x.wt.set i d} sb nb K m e:=
 ⟨h.n,h.lr,h.ls,h.ln,by simpa using h.lw,h.nw,h.tk,h.sk,h.nk,h.jk,h.jl,h.lg⟩
theorem eL.comes(h:eL x sb nb K m e)(hi:i<x.ts.length)(d:Int)(hK:nb i+1<=K):eL (sP x i d) sb (λj=>if j=i then nb i+1 else nb j) K (m+1) (e+1):=by
 obtain⟨hs,o,n0,n1⟩:=h.num hi;obtain⟨_,f⟩:=h.task hi;have g:AF x.ts.length K x.nw (qI x i d):=by
  have:=h.nw;have:=f.de;have:=f.co;refine⟨by simp[qI];omega,by simp only[qI,abW];omega,by simp only[qI];omega,by simp only[qI];omega,by simp only[qI];omega,by simp only[qI];omega,λ_=>by simp only[qI];omega,by simp[qI]⟩
 refine eL.note (x:={x with nu:=x.nu.set (i:Int).toNat (x.nu.getD (i:Int).toNat 0+1),jb:=x.jb++ [qI x i d]}) ⟨h.n,h.lr,h.ls,by simpa using h.ln,h.lw,h.nw,h.tk,h.sk,λk v a=>?_,λy b=>?_,by have:=h.jl;simp;omega,h.lg⟩ 1 _
 .simp only[abW] at a;rw[acW] at a;split at a
  .rename_i c;subst c;injection a with a;subst a;simp only[ac3];omega
  .rename_i c;simp only[abQ (λl=>c (Eq.symm l))];exact h.nk k v a
 .simp at b;rcases b with b|rfl
  .exact h.jk y b
  .exact g
theorem lA.ask{k:Nat}(h:lA x k)(task d:Int):lA (oF x task d).2 (k+1):=by
 have hu:lA x (k+1):=eL.mono h (λ_=>ac8 _) (λ_=>ac8 _) (ac8 _) aQ aQ;unfold oF;split
 .exact hu
 .rename_i hc;obtain⟨i,rfl⟩:=abR (show 0<=task by omega);have hi:i<x.ts.length:=aQ;obtain⟨hs,b,a⟩:=eL.qQ h hi;have h1:eL (eA x i (FT x i).1) (λj=>if j=i then k+1 else k) (λ_=>k) (k+1) (8 *k) (1000000 *k):=
   eL.C6 (eL.mono h (λ_=>abM _) (λ_=>abM _) (ac8 _) (abM _) (abM _)) i (Q8 a)
  have hm:∀j,(if j=i then k+1 else k)<=k+1:=λj=>by split <;> omega
  split
  .exact h1.mono hm (λ_=>ac8 _) (abM _) aQ aQ
  .split
   .exact(h1.comes hi d (abM _)).mono hm hm (abM _) aQ aQ
   .exact(h1.Yh i d).mono hm (λ_=>ac8 _) (abM _) aQ aQ
theorem AF.vQ{nw:Int}{j:Jb}(h:AF n K nw j):AF n K (nw+1) {gN j with bh:=true}/\(1<=(gN j).lf->AF n K (nw+1) (gN j)):=by
 have h1:=h.ra;have c:=h.lf;have a:=h.bh;have hl:0<=(gN j).lf/\(gN j).lf<=1048576:=by
  unfold gN;simp only;cases hb:j.bh
  .have:=a hb;simp;omega
  .simp;omega
 exact⟨⟨h.tk,h.nu,h.ca,h.de,by simp only[gN];omega,hl,λe=>by simp at e,h.rs⟩,λb=>⟨h.tk,h.nu,h.ca,h.de,by simp only[gN];omega,hl,λ_=>b,h.rs⟩⟩
def uY(x:Lb):Lb:={x with nw:=x.nw+1}
theorem eL.up(h:eL x sb nb K m e)(b:x.nw<1048576):eL (uY x) sb nb K m e:=
 ⟨h.n,h.lr,h.ls,h.ln,h.lw,by have:=h.nw;show 0<=x.nw+1/\x.nw+1<=_;omega,h.tk,h.sk,h.nk,λj a=>(h.jk j a).mono (abM _) (by show _<=x.nw+1;omega),h.jl,h.lg⟩
end
theorem SS(x:Lb)(i:Nat)(j a:Jb)(t:Int)(s:jN):cM (eA (cM x i j) t s) i a=cM (eA x t s) i a:=by simp[cM,eA]
theorem lA.run{x:Lb}{k:Nat}(h:lA x k)(v:x.nw<1048576){i:Nat}(hi:i<x.jb.length):eL (qG (uY x) i) (λ_=>k+1) (λ_=>k) (k+1) (8 *k) (1000000 *k+1):=by
 have hu:=eL.up h v;have hk:eL (uY x) (λ_=>k) (λ_=>k) (k+1) (8 *k) (1000000 *k):=hu.mono (λ_=>abM _) (λ_=>abM _) (ac8 _) (abM _) (abM _);obtain⟨J,a⟩:=eL.l6 h hi;obtain⟨b,q⟩:=AF.vQ a;have z:dT (uY x) i=dT x i:=rfl;have fin:∀y:Lb,eL y (λ_=>k) (λ_=>k) (k+1) (8 *k) (1000000 *k+1)->eL y (λ_=>k+1) (λ_=>k) (k+1) (8 *k) (1000000 *k+1):=λy A=>A.mono (λ_=>ac8 _) (λ_=>abM _) (abM _) (abM _) (abM _)
 have gone:∀kd,eL (xW (cM (uY x) i (gN (dT x i))) kd i) (λ_=>k+1) (λ_=>k) (k+1) (8 *k) (1000000 *k+1):=λkd=>by
  refine fin _ ⟨hk.n,hk.lr,hk.ls,hk.ln,hk.lw,hk.nw,hk.tk,hk.sk,hk.nk,λj B=>?_,?_,?_⟩
  .have g:j∈(x.jb.set i (gN (dT x i))).eraseIdx i:=B;rw[List.eraseIdx_set_eq] at g;exact hk.jk j (aeD g)
  .have:=hk.jl;have:=aeL (x.jb.set i (gN (dT x i))) i;show((x.jb.set i (gN (dT x i))).eraseIdx i).length<=_;rw[ab1] at this;have:x.jb.length<=8 *k:=hk.jl;omega
  .have:x.lg.length<=1000000 *k:=hk.lg;simp[xW,iY,cM,uY];omega
 unfold qG;simp only[z];generalize C:dT x i=j at *;obtain⟨t,D⟩:=abR a.tk.1;have c:t<x.ts.length:=by have:=a.tk.2;omega
 have r:(gN j).tk=t:=D;split
 .exact gone 2
 .split
  .rename_i hl;refine fin _ ((hk.EZ i ((q aQ).mono (ac8 _) (adL _))).mono (λ_=>abM _) (λ_=>abM _) (abM _) (abM _) (ac8 _))
  .rename_i hl;split
   .exact gone 3
   .split
    .split
     .rename_i hb;have:({gN j with bh:=true}:Jb)=gN j:=by
       cases hq:gN j;rw[hq] at hb;simp at hb;subst hb;rfl
      rw[this] at b;exact fin _ ((hk.EZ i (b.mono (ac8 _) (adL _))).mono (λ_=>abM _) (λ_=>abM _) (abM _) (abM _) (ac8 _))
     .have hq:AF x.ts.length (k+1) (x.nw+1) {gN j with bh:=true,rs:=(gN j).rs+1}:=by
       have d:=b.mono (K':=k+1) (ac8 _) (adL _);exact⟨d.tk,d.nu,d.ca,d.de,d.ra,d.lf,d.bh,by have:0<=j.rs/\j.rs<=k:=a.rs;show 0<=j.rs+1/\j.rs+1<=((k+1:Nat):Int);omega⟩
      have s:=hk.EZ i hq;have E:cM (cM (uY x) i (gN j)) i {gN j with bh:=true,rs:=(gN j).rs+1}=cM (uY x) i {gN j with bh:=true,rs:=(gN j).rs+1}:=by simp[cM]
      rw[E];exact fin _ (s.note 4 _)
    .obtain⟨hs,L,f⟩:=eL.qQ hk (i:=t) c;have l:Ap (iG (uY x) t):=(eL.task hk c).2;have o:=hk.nw;have hp:=De f o.1 o.2;have F:=f.n1;have G:=f.n0;have s:=hk.C6 t hp;rw[r];rw[SS];refine eL.mono (eL.note (eL.EZ s i ?_) 5 _) (λj=>by split <;> omega) (λ_=>abM _) (abM _) (abM _) (abM _);have:=l.co;have:=l.de;have H:0<=j.rs/\j.rs<=k:=a.rs;have I:0<=j.ra/\j.ra<=x.nw:=a.ra;have u:0<=j.nu/\j.nu<=k:=a.nu;have hmx:0<=(jU (jS (uY x) t) (uY x).nw).2/\(jU (jS (uY x) t) (uY x).nw).2<=1048576 *((k:Int)+2):=by
      show 0<=max (uY x).nw (jS (uY x) t).next/\max (uY x).nw (jS (uY x) t).next<=_;omega
     generalize (jU (jS (uY x) t) (uY x).nw).2=p at *;exact⟨⟨by simp only;omega,by simp only;exact Int.ofNat_lt.2 c⟩,⟨u.1,by show j.nu<=((k+1:Nat):Int);omega⟩,⟨by simp only;omega,by simp only;omega⟩,⟨by simp only;omega,by simp only;omega⟩,⟨by show 0<=j.ra+1;omega,by show j.ra+1<=x.nw+1;omega⟩,⟨by simp only;omega,by simp only;omega⟩,λ_=>by simp only;omega,⟨by show 0<=j.rs+1;omega,by show j.rs+1<=((k+1:Nat):Int);omega⟩⟩
theorem QP(x:Lb)(i:Nat):(BC x i).jb.length=x.jb.length/\(BC x i).ts=x.ts:=by
 unfold BC;simp only;split
 .exact⟨by simp[iY,cM],rfl⟩
 .exact⟨rfl,rfl⟩
theorem tY(x:Lb):∀i,(eT x i).jb.length=x.jb.length/\(eT x i).ts=x.ts
 |0=>⟨rfl,rfl⟩
 |i+1=>⟨(QP _ i).1.trans (tY x i).1,(QP _ i).2.trans (tY x i).2⟩
theorem eL.PE{e:Nat}(h:eL x sb nb K m e):∀i,i<=x.jb.length->eL (eT x i) sb nb K m (e+i)
 |0,_=>h
 |i+1,hi=>by
  have h1:=eL.PE h i aQ;show eL (BC (eT x i) i) sb nb K m (e+(i+1));unfold BC;simp only;split
  .have hl:=(tY x i).1;have a:=(h1.l6 (i:=i) aQ).2;exact(h1.EZ i (j:={dT (eT x i) i with lt:=true}) ⟨a.tk,a.nu,a.ca,a.de,a.ra,a.lf,a.bh,a.rs⟩).note 6 _
  .exact h1.mono (λ_=>abM _) (λ_=>abM _) (abM _) (abM _) aQ
theorem Bf(x:Lb)(i:Nat):(D1 x i).ts=x.ts/\(D1 x i).nw=x.nw:=by
 unfold D1;split
 .exact⟨rfl,rfl⟩
 .exact⟨rfl,rfl⟩
theorem FY(x:Lb):∀i,(eO x i).ts=x.ts/\(eO x i).nw=x.nw
 |0=>⟨rfl,rfl⟩
 |i+1=>⟨(Bf _ i).1.trans (FY x i).1,(Bf _ i).2.trans (FY x i).2⟩
theorem eL.Hw{a:Nat}{e:Nat}(hK:b+1<=K)(h:eL x (λ_=>a) (λ_=>b) K m e):∀i,i<=x.ts.length->eL (eO x i) (λj=>if j<i then a+1 else a) (λj=>if j<i then b+1 else b) K (m+i) (e+i)
 |0,_=>h.mono (λj=>by simp) (λj=>by simp) (abM _) (abM _) (abM _)
 |i+1,hi=>by
  have h1:=eL.Hw hK h i aQ;have c:=(FY x i).1;show eL (D1 (eO x i) i) _ _ _ _ _;unfold D1;split
  .obtain⟨hs,g,d⟩:=h1.qQ (i:=i) (by rw[c];omega);rw[abQ (adH i)] at d;have f:=(h1.C6 i (QZ (now:=(eO x i).nw) d)).comes (i:=i) (by show i<(eO x i).ts.length;rw[c];omega) ((eO x i).wt.getD i 0) (by rw[abQ (adH i)];exact hK);refine f.mono (λj=>?_) (λj=>?_) (abM _) aQ aQ
   .split
    .split <;> omega
    .split <;> split <;> omega
   .split
    .split <;> split <;> omega
    .split <;> split <;> omega
  .refine h1.mono (λj=>?_) (λj=>?_) (abM _) aQ aQ
   .split <;> split <;> omega
   .split <;> split <;> omega
theorem T8(x:Lb):∀k,(∀f,(fW x k).1=some f->f<k)/\∀f,(fW x k).2=some f->f<k
 |0=>⟨λf h=>by simp[fW] at h,λf h=>by simp[fW] at h⟩
 |k+1=>by
  obtain⟨h1,a⟩:=T8 x k;unfold fW;split
  .exact⟨λf h=>by have:=h1 f h;omega,λf h=>by have:=a f h;omega⟩
  .refine⟨λf h=>?_,λf h=>?_⟩
   .simp only at h;split at h
    .injection h with h;omega
    .have:=h1 f h;omega
   .simp only at h;split at h
    .injection h with h;omega
    .have:=a f h;omega
theorem RO{f:Nat}(h:mW x=some f):f<x.jb.length:=by
 obtain⟨h1,a⟩:=T8 x x.jb.length;unfold mW at h;split at h
 .cases h
 .rename_i q hq;split at h
  .injection h with h;subst h;exact h1 q hq
  .exact a f h
theorem lA.gL{k:Nat}(h:lA x k)(a:x.nw<1048576)(given:Bool):eL (rG x given) (λ_=>k+1) (λ_=>k) (k+1) (8 *k) (1000000 *k+1)/\(rG x given).ts.length=x.ts.length:=by
 unfold rG;split
 .exact⟨(eL.up h a).mono (λ_=>ac8 _) (λ_=>abM _) (ac8 _) (abM _) aQ,rfl⟩
 .rename_i i hp;have hi:i<x.jb.length:=by
   unfold nO at hp;split at hp
   .exact RO hp
   .cases hp
  refine⟨lA.run h a hi,?_⟩;unfold qG;simp only;repeat' split
  all_goals rfl
theorem lA.tick{k:Nat}(h:lA x k)(b:x.nw<1048576)(hk:k<=100000)(given:Bool):lA (jJ x given) (k+2):=by
 obtain⟨h1,c⟩:=lA.gL h b given;have d:=h1.PE _ (abM _);have a:(eT (rG x given) (rG x given).jb.length).ts=(rG x given).ts:=(tY _ _).2;have f:=eL.Hw (abM _) d x.ts.length (by rw[a,c];exact abM _);have i:=h1.jl;have g:=h.n;exact eL.mono f (λj=>by split <;> omega) (λj=>by split <;> omega) aQ aQ aQ
end
end
section
open Go.RowKit Go.Lib Go.Shelf
variable{l l':List Pt}{x':Lb}{y':La}
section
theorem lA.RY{k:Nat}(h:lA x k):IF x (8 *k) (1000000 *k):=
 ⟨h.lr,h.ls,h.ln,h.lw,h.n,λt a=>⟨(h.tk t a).co.1,(h.tk t a).co.2,(h.tk t a).pe.1,(h.tk t a).pe.2,(h.tk t a).de.1,(h.tk t a).de.2,(h.tk t a).se,(h.tk t a).po.1,(h.tk t a).po.2⟩,h.nw.1,h.nw.2,
  λs hs=>by
   obtain⟨i,hi,rfl⟩:=acF hs;exact(h.sk i _ (abL hi)).mono aQ,
  λv d=>by
   obtain⟨i,hi,rfl⟩:=acF d;have:=h.nk i _ (abL hi);omega,
  h.jl,λj e=>by
   have h1:=h.jk j e;have b:=h1.tk;have a2:=h1.ra;have a3:=h1.lf;have a4:=h1.ca;have a5:=h1.de;have f:=h1.rs;have l:=h.nw;exact⟨b.1,b.2,a2.1,a2.2,aQ,a3.2,a4.1,aQ,a5.1,aQ,f.1,aQ⟩,h.lg⟩
section
variable{F:Nat->Prop}{w w':aA}{g:Nat}{x:Lb}{y:La}{i q c:Nat}{A:Option aJ}
theorem Ob.sF(h:Ob l F w)(i:Nat)(p d:Pt)(hp:l[i]?=some p)(hl:l.set i d=l')(e:∀G,p.X G w->d.X G w'/\Kp G w w'):Ob l' F w'/\Kp F w w':=by
 obtain⟨f,h1⟩:=h;obtain⟨a,b⟩:=e _ (h1.get i hp);obtain⟨o,k⟩:=h1.eY i d a b;rw[hl] at o;exact⟨⟨_,o⟩,k⟩
theorem bU.cell(h:bU F w g x y)(i:Nat)(v:aC)(e:fU x' y'=(fU x y).setIfInBounds i v)(d:y'.L.map Tm.t=x'.ts)(hl:((jC g x y).set 0 (PB g 193 (fU x' y')))=jC g x' y'):bU F (w.setCell (g,i) v) g x' y'/\Kp F w (w.setCell (g,i) v):=by
 obtain⟨a,b⟩:=h.o.sF 0 (PB g 193 (fU x y)) (PB g 193 (fU x' y')) rfl hl (λG f=>f.set i v e);exact⟨⟨d,a⟩,b⟩
theorem bU.now(h:bU F w g x y)(v:Int):bU F (w.setCell (g,11) v) g {x with nw:=v} y/\Kp F w (w.setCell (g,11) v):=h.cell 11 _ rfl h.ts rfl
theorem bU.PJ(h:bU F w g x y){v:Ev}(e:n=x.lg.length)(ho:bI qX 4 w' 0 165 A c (x.lg++ [v]))(f:w.grownBy w' (aY y.G))(ha:aY A=aY y.G\/aY A=some w.heap.size):
 bU F (w'.setCell (g,16) (.slice A (n+1) c)) g {x with lg:=x.lg++ [v]} {y with G:=A,cG:=c}/\Kp F w (w'.setCell (g,16) (.slice A (n+1) c)):=by
 obtain⟨a,b⟩:=h.o.sF 8 (PR qX 4 165 y.G y.cG x.lg) (PR qX 4 165 A c (x.lg++ [v])) rfl rfl (λG d=>gP.eY d ho f ha);obtain⟨a2,b2⟩:=a.sF (w':=w'.setCell ⟨g,16,none⟩ (.slice A (n+1) c)) (l':=jC g {x with lg:=x.lg++ [v]} {y with G:=A,cG:=c}) 0 (PB g 193 (fU x y)) (PB g 193 (fU {x with lg:=x.lg++ [v]} {y with G:=A,cG:=c})) rfl rfl (λG d=>d.set 16 _ (by simp[fU,e]));exact⟨⟨h.ts,a2⟩,b.trans b2⟩
theorem bU.FB(h:bU F w g x y){v:Jb}(e:n=x.jb.length)(ho:bI jW 11 w' 0 209 A c (x.jb++ [v]))(f:w.grownBy w' (aY y.J))(ha:aY A=aY y.J\/aY A=some w.heap.size):
 bU F (w'.setCell (g,15) (.slice A (n+1) c)) g {x with jb:=x.jb++ [v]} {y with J:=A,cJ:=c}/\Kp F w (w'.setCell (g,15) (.slice A (n+1) c)):=by
 obtain⟨a,b⟩:=h.o.sF 7 (PR jW 11 209 y.J y.cJ x.jb) (PR jW 11 209 A c (x.jb++ [v])) rfl rfl (λG d=>gP.eY d ho f ha);obtain⟨a2,b2⟩:=a.sF (w':=w'.setCell ⟨g,15,none⟩ (.slice A (n+1) c)) (l':=jC g {x with jb:=x.jb++ [v]} {y with J:=A,cJ:=c}) 0 (PB g 193 (fU x y)) (PB g 193 (fU {x with jb:=x.jb++ [v]} {y with J:=A,cJ:=c})) rfl rfl (λG d=>d.set 15 _ (by simp[fU,e]));exact⟨⟨h.ts,a2⟩,b.trans b2⟩
theorem bU.left(h:bU F w g x y)(hi:i<x.jb.length)(ho:bI jW 11 w' 0 209 y.J c (x.jb.eraseIdx i))(e:w.grownBy w' (aY y.J))(f:n=(x.jb.eraseIdx i).length):
 bU F (w'.setCell (g,15) (.slice y.J n c)) g {x with jb:=x.jb.eraseIdx i} {y with cJ:=c}/\Kp F w (w'.setCell (g,15) (.slice y.J n c)):=by
 obtain⟨a,b⟩:=h.o.sF 7 (PR jW 11 209 y.J y.cJ x.jb) (PR jW 11 209 y.J c (x.jb.eraseIdx i)) rfl rfl (λG d=>gP.eY d ho e (.inl rfl));obtain⟨a2,b2⟩:=a.sF (w':=w'.setCell ⟨g,15,none⟩ (.slice y.J n c)) (l':=jC g {x with jb:=x.jb.eraseIdx i} {y with cJ:=c}) 0 (PB g 193 (fU x y)) (PB g 193 (fU {x with jb:=x.jb.eraseIdx i} {y with cJ:=c})) rfl rfl (λG d=>d.set 15 _ (by simp[fU,f]));exact⟨⟨h.ts,a2⟩,b.trans b2⟩
theorem bU.Ri(h:bU F w g x y)(hq:y.U=some ⟨q,0,none⟩)(hi:i<x.nu.length)(v:Int):bU F (w.setCell (q,i) v) g {x with nu:=x.nu.set i v} y/\Kp F w (w.setCell (q,i) v):=by
 obtain⟨a,b⟩:=h.o.sF (w':=w.setCell ⟨q,i,none⟩ v) (l':=jC g {x with nu:=x.nu.set i v} y) 5 (PR eI 1 3 y.U y.cU x.nu) (PR eI 1 3 y.U y.cU (x.nu.set i v)) rfl (by simp[jC,fU]) (λG e=>by
  have d:gP eI 1 3 y.U y.cU x.nu G w:=e;show gP eI 1 3 y.U y.cU (x.nu.set i v) G _/\_;rw[hq] at d⊢;simpa using gP.cell (j:=0) gJ.len d hi aQ v (.int .i64 v) rfl)
 exact⟨⟨h.ts,a⟩,b⟩
theorem bU.Ot(h:bU F w g x y)(hq:y.V=some ⟨q,0,none⟩)(hi:i<x.wt.length)(v:Int):bU F (w.setCell (q,i) v) g {x with wt:=x.wt.set i v} y/\Kp F w (w.setCell (q,i) v):=by
 obtain⟨a,b⟩:=h.o.sF (w':=w.setCell ⟨q,i,none⟩ v) (l':=jC g {x with wt:=x.wt.set i v} y) 6 (PR eI 1 3 y.V y.cV x.wt) (PR eI 1 3 y.V y.cV (x.wt.set i v)) rfl (by simp[jC,fU]) (λG e=>by
  have d:gP eI 1 3 y.V y.cV x.wt G w:=e;show gP eI 1 3 y.V y.cV (x.wt.set i v) G _/\_;rw[hq] at d⊢;simpa using gP.cell (j:=0) gJ.len d hi aQ v (.int .i64 v) rfl)
 exact⟨⟨h.ts,a⟩,b⟩
theorem bU.EZ(h:bU F w g x y)(hq:y.J=some ⟨q,0,none⟩)(hi:i<x.jb.length){f:Nat}(hf:f<11)(j:Jb)(v:aC)(k:jW j=(jW (dT x i)).set f v):bU F (w.setCell (q,i *11+f) v) g (cM x i j) y/\Kp F w (w.setCell (q,i *11+f) v):=by
 have e:jW j=(jW x.jb[i]).set f v:=by
  rw[k];unfold dT;rw[abY,abL hi];rfl
 obtain⟨a,b⟩:=h.o.sF (w':=w.setCell ⟨q,i *11+f,none⟩ v) (l':=jC g (cM x i j) y) 7 (PR jW 11 209 y.J y.cJ x.jb) (PR jW 11 209 y.J y.cJ (x.jb.set i j)) rfl (by simp[jC,fU,cM]) (λG l=>by
  have d:gP jW 11 209 y.J y.cJ x.jb G w:=l;show gP jW 11 209 y.J y.cJ (x.jb.set i j) G _/\_;rw[hq] at d⊢;exact gP.cell kK.len d hi hf j v e)
 exact⟨⟨h.ts,a⟩,b⟩
theorem bU.WU(h:bU F w g x y)(hl:x.sh.length=x.ts.length)(hi:i<x.ts.length):∃q a,y.S=some ⟨q,0,none⟩/\w.cell? ⟨q,i,none⟩=some (.pointer (some ⟨a,0,none⟩))/\Sh w a (jS x i)/\y.a.length=x.ts.length/\
 ∀(w':aA) (s:jN),Sh w' a s->w.grownBy w' (some a)->bU F w' g (eA x i s) y/\Kp F w w':=by
 obtain⟨b,h1⟩:=h.o;have hs:E9 (Fo w b 5) w y.a x.sh:=h1.get 4 (p:=OR y.a x.sh) rfl;have d:gP yB 1 194 y.S y.cS y.a (Fo w b 4) w:=h1.get 3 (p:=PR yB 1 194 y.S y.cS y.a) rfl;have ha:i<y.a.length:=by rw[hs.len,hl];exact hi
 have hb:i<x.sh.length:=by rw[hl];exact hi
 obtain⟨q,hq⟩:=wM d.o aQ;have ho:=d.o;rw[hq] at ho;have e:jS x i=x.sh[i]:=by unfold jS;rw[abW,abY,abL hb];rfl
 refine⟨q,y.a[i],hq,by simpa using bN E8 ho ha (j:=0) rfl,by rw[e];exact hs.sh i ha hb,by rw[hs.len,hl],λw' s f k=>?_⟩;obtain⟨l,b1⟩:=h.o.sF (w':=w') (l':=jC g (eA x i s) y) 4 (OR y.a x.sh) (OR y.a (x.sh.set i s)) rfl (by simp[jC,fU,eA]) (λG m=>E9.eY m ha hb f k);exact⟨⟨h.ts,l⟩,b1⟩
end
end
end
end Go.Proofs.YtacgiflhgdaeaaaGreat
