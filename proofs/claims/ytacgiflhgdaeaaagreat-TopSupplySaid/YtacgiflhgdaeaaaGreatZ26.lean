/- Texts laid as one. -/
import Derived.Test.YtacgiflhgdaeaaaGreatZ19
import Derived.Test.YtacgiflhgdaeaaaGreatZ25
set_option linter.unusedVariables false
set_option linter.unusedSimpArgs false
set_option maxRecDepth 100000
set_option maxHeartbeats 20000000
namespace Go.Proofs.YtacgiflhgdaeaaaGreat
open Go.Proofs.Tryz
open Go renaming World->aA,Calls->aG
open Go.RowKit renaming Below->aD,Hid->aH,intOf->aL
open Go.Obj renaming cells->aI
section
open Go.RowKit Go.Lib Go.Shelf dH Fr Up Nt
variable{F:Nat->Prop}{w:aA}{g:Nat}
section
theorem SQ{a:Ka}{k:Kv}(h:bJ F w g a k)(hw:KW k)(hn:k.n<=1000000):aG prog 76 #[.pointer g] w λr w'=>∃k',jV k k'/\gD F g k' (.tuple #[]) w r w':=by
 have hnw:=hw.sd.nw;have ps:=h.ps;have pw:=h.pw;unfold pA at ps pw;obtain⟨G,hs,_⟩:=h.sd;have P:=wK hs;have HA:=Hq h hn k.s.nw;have HW:=aP hw;have HR:aH (∀(l1 l:List Int) (T:List Nt) (J:Kv),T.Perm (iV 0 (k.b.filter λx=>decide (x.bO<=k.s.nw)))->kD T {eZ k l1 with b:=k.b.filter λx=>decide (k.s.nw<x.bO),v:=T.foldl pD k.v} J->jV k (eZ J l)):=λl1 l T J h1 t=>⟨l1,l,T,J,h1,t,rfl⟩
 generalize k.s.nw=nw at *;have P:=aP P;have HA:=aP HA;have hwr:IntKind.u64.wrap nw=nw:=by rw[IntKind.wrap_u64];omega
 clear h hs hw;go_enter func76,ntmps76
 go_wp2_with fail
 refine aR P ?_;rintro r w1 ⟨rfl,rfl⟩;go_wp2_with fail
 refine aR HA ?_;rintro r w2 ⟨A,c,n,D,E,rfl,hn5,HD⟩;clear P HA ps pw;go_wp2_with fail
 go_loopw [29] (λv29 wr=>∃i:Nat,v29= .int .i64 i/\i<=n/\aH (∃l1,KM (cB F A) wr g (eZ k l1)/\Kp (cB F A) w2 wr)) (λv29 _=>n - (aL v29).toNat)
 case atStart=>exact⟨0,rfl,aaQ _, [],⟨a,HD.o.2.2.2.1⟩,Kp.refl _ _⟩
 case round=>
  obtain⟨i,rfl,hi,HX⟩:=hrel;obtain⟨l1,⟨a1,h1⟩,hK⟩:=HX.o;by_cases K:i<n
  .have f:i<D.length:=by rw[<-HD.o.1];exact K
   have M:=HD.o.2.2.1.kp hK (λq hq=> .inr hq);obtain⟨q,rfl⟩:∃q,A=some ⟨q,0,none⟩:=by
    rcases M.shape with⟨_,t,_⟩|t
    .rw[t] at f;simp at f
    .exact t
   have e0:=bG rZ M f (j:=0) (v:= .int .i64 D[i].at_) rfl;have e1:=bG rZ M f (j:=1) (v:= .int .i64 D[i].hd) rfl;have e2:=bG rZ M f (j:=2) (v:= .int .i64 D[i].wh) rfl;rw[aa3] at e0;have hwh:=HD.o.2.1 D[i] (aaM f);have i0:(0:Int)<=i:=aQ;have i1:(i:Int)<(n:Int):=aQ;generalize D[i]=d at *;obtain⟨U,dh,dw⟩:=d;simp only at e0 e1 e2 hwh;obtain⟨u,rfl⟩:=aaO hwh.1;have u8:(u:Int)<8:=aQ;have Q:=bC.new wr 274 #[U,dh,u];have H3:=aP (And.intro ((bJ.bX g a1 (eZ k l1)).box h1 h1.fl (aI #[U,dh,u] 274)) (hK.trans (h1.below (aX wr (aI #[U,dh,u] 274))).2));clear h1 hK M HX hwh;go_upto_region 6 with(fail)
   generalize wr.alloc (aI #[U,dh,u] 274)=w3 at *;generalize wr.heap.size=q3 at *;have x0:=Q.cell 0 U rfl;have x2:=Q.cell 2 u rfl;obtain⟨v0,z0⟩:=H3.o.1.vM (i:=u) aQ;have f0:=H3.o.1.fz (11+u);have hne:q3≠g:=λe=>by
    obtain⟨ow,V⟩:=H3.o.1.o;have X:=(V.get 0 (p:=PB g 64 (kL a1).toArray) rfl).nf;have:=V.1 q3 (.inr rfl);rw[e] at this;exact X ⟨this.1,by rw[this.2];decide⟩
   clear e0 e1 e2;go_region_held3 (λW=>W.cell? (q3,2)=some (.int .i64 u)) (first|with_reducible assumption|exact(gN hne).trans x2|exact x2|fail) (fail)
   have C:aH (∃a4,bJ (Fb (cB F (some ⟨q,0,none⟩)) q3) (w3.setCell (g,11+u) (.int .i64 0)).drew g a4 (eZ k l1)/\Kp (cB F (some ⟨q,0,none⟩)) w2 (w3.setCell (g,11+u) (.int .i64 0)).drew/\bC (w3.setCell (g,11+u) (.int .i64 0)).drew q3 274 #[U,dh,u]):=by
    obtain⟨⟨a4,V⟩,k4⟩:=H3.o.1.store (11+u) aQ 0;have hd:=V.below (Below.refl _ _).drew;exact⟨a4,hd.1,(H3.o.2.trans (k4.mono λb y=> .inl y)).drew,k4.aZ Q (.inr rfl)⟩
   generalize (w3.setCell (g,11+u) (.int .i64 0)).drew=w4 at *;obtain⟨a4,V⟩:=C.o;have C:=aP V;have xb4:=V.2.2;clear V Q H3 z0 f0 x0 x2 hne;have x0:=xb4.cell 0 U rfl;have x2:=xb4.cell 2 u rfl;have Y:=aP (wY C.o.1 (HW.o.tJ l1).p8 u 1 0 (IntKind.u64.wrap U) aQ);clear xb4;go_wp2_with fail
   refine aR Y ?_;rintro r Z ⟨v5,rfl,X,k5⟩;have HE:aH (∃l1,KM (cB F (some ⟨q,0,none⟩)) Z g (eZ k l1)/\Kp (cB F (some ⟨q,0,none⟩)) w2 Z):=⟨l1++ [(u:Int)],⟨a4,by rw[I0];exact X.less (λb y=> .inl y)⟩,C.o.2.1.trans (k5.mono λb y=> .inl y)⟩
   clear X k5 Y C x0 x2;go_wp2_with fail
   go_roundw
   case rel=>exact⟨i+1,by go_num,aQ,HE.o⟩
   case measure=>simp[aL];omega
  .obtain rfl:i=n:=aQ;have i1:¬(i:Int)<(i:Int):=aQ;have H5:aH (bJ F wr g a1 (eZ k l1)/\Kp F w wr):=⟨h1.less (λb y=> .inl y),HD.o.2.2.2.2.trans (hK.mono λb y=> .inl y)⟩
   clear h1 hK HX hi K;have pb:=H5.o.1.pb;unfold pA at pb;have HO:=aP (Eg H5.o.1 (HW.o.tJ l1) nw);clear HD;go_wp2_with fail
   refine aR HO ?_;rintro r w6 ⟨O,d,m,T,rfl,hm5,Y⟩;clear HO pb;have z:aH (m=T.length/\T.Perm (iV 0 (k.b.filter λx=>decide (x.bO<=nw)))/\bB iX 3 w6 wr.heap.size 96 O d T/\bJ (cB F O) w6 g a1 {eZ k l1 with b:=k.b.filter λx=>decide (nw<x.bO),v:=T.foldl pD k.v}/\Kp F wr w6):=by
    have:=Y.o;rw[(AJ l1 k).2.2.2.1,(AJ l1 k).2.2.2.2.1] at this;exact this
   clear Y;have R:aH (KW {eZ k l1 with b:=k.b.filter λx=>decide (nw<x.bO),v:=T.foldl pD k.v}):=by
    have:=(HW.o.tJ l1).over (λx=>decide (nw<x.bO)) (T.foldl pD k.v);rw[(AJ l1 k).2.2.2.1] at this;exact this
   obtain⟨kO,hkO⟩:∃kO,kO={eZ k l1 with b:=k.b.filter λx=>decide (nw<x.bO),v:=T.foldl pD k.v}:=⟨_,rfl⟩
   have HR2:aH (∀(l:List Int) (J:Kv),kD T kO J->jV k (eZ J l)):=λl J ho=>HR.o l1 l T J z.o.2.1 (by rw[<-hkO];exact ho)
   rw[<-hkO] at z R;clear hkO HR;go_wp2_with fail
   go_loopw [55] (λv55 wz=>∃i:Nat,v55= .int .i64 i/\i<=m/\aH (∃B,kD (T.take i) kO B/\KM (cB F O) wz g B/\Kp (cB F O) w6 wz)) (λv55 _=>m - (aL v55).toNat)
   case atStart=>exact⟨0,rfl,aaQ _,kO, .nil _,⟨a1,z.o.2.2.2.1⟩,Kp.refl _ _⟩
   case round=>
    obtain⟨j,rfl,hj,HX⟩:=hrel;obtain⟨B,I,⟨a2,t⟩,hK⟩:=HX.o;by_cases K:j<m
    .have f:j<T.length:=by rw[<-z.o.1];exact K
     have M:=z.o.2.2.1.kp hK (λq hq=> .inr hq);obtain⟨q,rfl⟩:∃q,O=some ⟨q,0,none⟩:=by
      rcases M.shape with⟨_,t,_⟩|t
      .rw[t] at f;simp at f
      .exact t
     have e0:=bG iZ M f (j:=0) (v:= .int .i64 T[j].eO) rfl;have e1:=bG iZ M f (j:=1) (v:= .int .i64 T[j].fV) rfl;have e2:=bG iZ M f (j:=2) (v:= .int .i64 T[j].bO) rfl;rw[aa3] at e0;have htk:aH (T.take (j+1)=T.take j++ [T[j]]):=by unfold aH;rw[abN,aaG f];rfl
     have j0:(0:Int)<=j:=aQ;have j1:(j:Int)<(m:Int):=aQ;have H:aH (KW B):=I.kw R.o;have N:=aP I;generalize T[j]=x at *;obtain⟨S,xf,xt,xg⟩:=x;simp only at e0 e1 e2;have Q:=bC.new wr 96 #[S,xf,xt];have H7:=aP (And.intro ((bJ.bX g a2 B).box t t.fl (aI #[S,xf,xt] 96)) (hK.trans (t.below (aX wr (aI #[S,xf,xt] 96))).2));clear t hK M HX I;go_upto_region 12 with(fail)
     generalize wr.alloc (aI #[S,xf,xt] 96)=w7 at *;generalize wr.heap.size=q7 at *;have x0:=Q.cell 0 S rfl;have x1:=Q.cell 1 xf rfl;have HXB:=aP Q;have HTK:=aP (Bq H7.o.1 H.o S xf);clear e0 e1 e2 Q;go_wp2_with fail
     refine aR HTK ?_;rintro r w8 ⟨J,ht,rfl,⟨a8,h8⟩,k8⟩;have xb8:=k8.aZ HXB.o (.inr rfl);have H8:=bH h8 (H7.o.2.trans (k8.mono λb y=> .inl y));have HKW2:aH (KW J):=ht.kw H.o;have HOV2:aH (kD (T.take (j+1)) kO (fI J S)):=by unfold aH;rw[htk.o];exact N.o.snoc ht
     clear h8 k8 ht HTK H7 HXB x0 x1 N htk;have x0:=xb8.cell 0 S rfl;have x1:=xb8.cell 1 xf rfl;have HTL:=aP (wY H8.o.1 HKW2.o.p8 S 6 xf 0 aQ);clear xb8;go_wp2_with fail
     refine aR HTL ?_;rintro r w9 ⟨v9,rfl,h9,k9⟩;have HE:aH (∃B,kD (T.take (j+1)) kO B/\KM (cB F (some ⟨q,0,none⟩)) w9 g B/\Kp (cB F (some ⟨q,0,none⟩)) w6 w9):=⟨_,HOV2.o,⟨a8,h9.less (λb y=> .inl y)⟩,H8.o.2.trans (k9.mono λb y=> .inl y)⟩
     clear h9 k9 HTL H8 x0 x1;go_wp2_with fail
     go_roundw
     case rel=>exact⟨j+1,by go_num,aQ,HE.o⟩
     case measure=>simp[aL];omega
    .obtain rfl:j=m:=aQ;have j1:¬(j:Int)<(j:Int):=aQ;have N:aH (kD T kO B):=by
      have:=I;rw[aa7 (by rw[<-z.o.1];exact aaH _)] at this;exact this
     have HQ:aH (∃l L,bJ F wr g {a2 with ln:=L} (eZ B l)/\Kp F w wr):=⟨[],a2.ln,t.less (λb y=> .inl y),(H5.o.2.trans z.o.2.2.2.2).trans (hK.mono λb y=> .inl y)⟩
     have H:aH (KW B):=I.kw R.o;have HR3:aH (∀l,jV k (eZ B l)):=λl=>HR2.o l B N.o
     clear t hK I HX z hj K N HR2 R H5;go_wp2_with fail
     go_loopw [] (λwz=>aH (∃l L,bJ F wz g {a2 with ln:=L} (eZ B l)/\Kp F w wz)) (λwz=>zG a2.iq wz)
     case atStart=>exact HQ.o
     case round=>
      clear HQ;obtain⟨l,L,t,hK⟩:=hrel.o;have pi:=t.pi;unfold pA at pi;simp only at pi;have HN:=Gi t;simp only at HN;have HN:=aP HN;have HU:=aP t.zG;have HK:=aP hK;clear t hK;go_wp2_with fail
      refine aR HN ?_;rintro r w4 ⟨i,b,L4,rfl,C⟩;clear HN pi;cases b with
      |false=>
       have HE:aH (∃k',jV k k'/\gD F g k' (.tuple #[]) w (.returned (.tuple #[])) w4):=⟨_,HR3.o l,rfl,⟨_,C.o.1⟩,HK.o.trans C.o.2.1⟩
       clear C;go_wp2_with fail
       refine bodyPost_ret (v:= .tuple #[]) (by simp[results,results76,go_sem]) rfl ?_;exact HE.o
      |true=>
       have HB:=aP (CM C.o.1 i);have Y:=aP (λe=>wY C.o.1 (H.o.tJ l).p8 e 2 i nw aQ);generalize EP {a2 with ln:=L4} i=be at *;go_wp2_with fail
       refine aR HB ?_;rintro r Z ⟨rfl,rfl⟩;go_wp2_with fail
       refine aS (Y.o _) ?_;rintro r Z ⟨v5,rfl,X,k5⟩;have HE:aH (∃l L,bJ F Z g {a2 with ln:=L} (eZ B l)/\Kp F w Z):=⟨l++ [be],L4,by rw[I0];exact X,(HK.o.trans C.o.2.1).trans k5⟩
       have HM:aH (zG a2.iq Z<zG a2.iq wr):=by
        unfold aH;rw[show zG a2.iq Z=BY L4 from X.zG,show zG a2.iq wr=BY L from HU.o];exact C.o.2.2 (by trivial)
       clear X k5 HB Y C;go_wp2_with fail
       go_roundw
       case rel=>exact HE.o
       case measure=>exact HM.o
end
end
section
open Go.RowKit Go.Lib
theorem Ng:(prog.info? 267).map (λi=>(i.zero,i.size,i.bytes))=some (some (.agg #[false,false,false,aU]),4,16):=aV
def KK:Ln:=⟨false,false,false,0⟩
theorem Ft(w:aA):aG prog 138 #[.int .i64 2] w λe w'=>∃(g q:Nat) (L:List Ln),e= .returned (.tuple #[.pointer g,aU])/\L.length=2/\Ir (λb=>b<w.heap.size) w' g q L/\aD w w w':=by
 obtain⟨x,m,n,p,r⟩:=info_parts Ng;go_enter func138,ntmps138
 go_upto_region 4 with(at_make;refine wpList_make_full _ rfl _ _ 332 rfl w.heap.size 267 x _ 4 underlying332 m n p _ _ _ _ 2 rfl rfl aQ aQ (by rw[r];omega) dT (aaH _) ?_;intro c a k)
 have ho:bB KO 4 c w.heap.size 267 (some ⟨w.heap.size,0,none⟩) 2 [KK,KK]:=by
  have e:(madeCells (Value.agg #[false,false,false,aU]).cells (2 *4)).toList= [KK,KK].flatMap KO:=aV;rw[e] at a;exact a
 have f:aD w w c:=⟨k.os,k.tape,k.output,k.size,λi hi=>k.block i hi aT⟩
 have hq:w.heap.size<c.heap.size:=(ho.lt _ rfl).2;have h:=aX c (aI #[.slice w.heap.size 2 2] 334);have t:=bC.new c 334 #[.slice w.heap.size 2 2];have s:=f.trans (h.mono f.size);have d:Ir (λb=>b<w.heap.size) (c.alloc (aI #[.slice w.heap.size 2 2] 334)) c w.heap.size [KK,KK]:=⟨t,(ho.keep h).from_ (aaQ _),aT,λb f=>aaJ f s.size,aQ,acA _,aQ⟩
 generalize c.alloc (aI #[.slice w.heap.size 2 2] 334)=w5 at *;generalize c.heap.size=g at *;generalize l:w.heap.size=q at *;obtain⟨u,y⟩:=d.set (i:=0) (j:=1) aT aQ {KK with ma:=true} (.bool true) rfl;obtain⟨v,z⟩:=u.set (i:=1) (j:=1) aT aQ {KK with ma:=true} (.bool true) rfl;have A:aH (∃L:List Ln,L.length=2/\Ir (λb=>b<q) ((w5.setCell (q,1) (.bool true)).setCell (q,5) (.bool true)) g q L/\aD q w ((w5.setCell (q,1) (.bool true)).setCell (q,5) (.bool true))):=⟨_,rfl,v,(s.setCell (aaH _) _).setCell (aaH _) _⟩
 have c0:=d.b.cell 0 _ rfl;obtain⟨_,B,_,_⟩:=d.at_ (i:=0) aT;obtain⟨_,b1,_,_⟩:=d.at_ (i:=1) aT;obtain⟨_,f1,_,_⟩:=d.fz (i:=0) aT;obtain⟨_,f5,_,_⟩:=d.fz (i:=1) aT;simp only[adY,ad0,abQ,adB,ac4,KK] at B b1 f1 f5;have ne:=d.ne;clear u y v z d f h s ho t k a;go_wp2_with fail
 refine wp_loop_rounds 3 ?_;rw[rounds_succ];go_wp2_with fail
 rw[rounds_succ];go_wp2_with fail
 rw[rounds_succ];go_wp2_with fail
 go_ret2
 obtain⟨L,C,hi,f⟩:=A.o;exact⟨g,q,L,rfl,C,by rw[l];exact hi,by rw[l];exact f⟩
end
section
open Go.RowKit Go.Lib Go.Shelf dH Fr Up Nt
variable{F:Nat->Prop}{w w' w5:aA}{l':List Pt}{C:Cf}{g gf gi iq gw:Nat}{L3:List Ln}
section
theorem Ob.add{l:List Pt}{p:Pt}(h:Ob l F w)(a:p.X (λb=>b<w.heap.size) w')(c:aD w w w'):Ob (l++ [p]) F w':=by
 obtain⟨d,h⟩:=h;exact⟨_,(h.add p a c).1⟩
theorem Ob.reorder{l:List Pt}(σ τ:Nat->Nat)(h:Ob l F w)(hs:∀i p,l'[i]?=some p->l[σ i]?=some p/\τ (σ i)=i):Ob l' F w:=by
 obtain⟨a,hF,e⟩:=h;refine⟨λb=>match a b with|0=>0|k+1=>τ k+1,λb c=>⟨(hF b c).1,by simp only;rw[(hF b c).2]⟩,λi p hp=>?_⟩;obtain⟨h1,f⟩:=hs i p hp;refine p.bX _ (λ_=>True) _ w w (e (σ i) p h1) (Kp.refl _ _) (λ_ _ _=>trivial) (Fo.ol _ _ _) (λr g j m=>?_);have n:a r=σ i+1:=aa4 λhc=>j ⟨g,hc⟩
 have d:=m.2;simp only[n,f] at d;exact d rfl
def NW:Cf:=⟨List.replicate 128 J9,0⟩
def DX:List Vc:=List.replicate 8 ⟨List.replicate 16 0,0⟩
def rJ:Nat->Cf
 |0=>NW
 |i+1=>if i=0 then(dM (rJ i) 0 (i:Nat) 3 (i:Nat) 15 0).2 else(dM (dM (rJ i) 0 (i:Nat) 3 (i:Nat) 15 0).2 (i:Nat) 0 3 0 2 0).2
def AM:Nat->Cf
 |0=>rJ 4
 |i+1=>(dM (AM i) 0 (8+(i:Nat)) 2 (i:Nat) 15 0).2
def qW:Nat->Sd
 |0=>wR 4
 |i+1=>gS (qW i) (i:Nat) true
def pY(p:Nat×Nat):Kv:=⟨AM 2,xN 6, [], [],DX,qW 4,0,p⟩
theorem BJ(h:0<=C.n)(e s kd ob rt pf:Int):0<=(dM C e s kd ob rt pf).2.n/\(dM C e s kd ob rt pf).2.n<=C.n+1:=by
 unfold dM;split
 .exact⟨h,by show C.n<=C.n+1;omega⟩
 .split
  .exact⟨h,by show C.n<=C.n+1;omega⟩
  .split
   .exact⟨h,by show C.n<=C.n+1;omega⟩
   .exact⟨by show 0<=C.n+1;omega,by show C.n+1<=C.n+1;omega⟩
theorem QY:∀i,0<=(rJ i).n/\(rJ i).n<=2 *i
 |0=>⟨ab0 _,ab0 _⟩
 |i+1=>by
  have h:=QY i;have h1:=BJ h.1 0 (i:Nat) 3 (i:Nat) 15 0;have a:=BJ h1.1 (i:Nat) 0 3 0 2 0;unfold rJ;split <;> omega
theorem Bp:∀i,0<=(AM i).n/\(AM i).n<=8+i
 |0=>by
  have h:=QY 4;exact⟨h.1,by show(rJ 4).n<=_;omega⟩
 |i+1=>by
  have h:=Bp i;have h1:=BJ h.1 0 (8+(i:Nat)) 2 (i:Nat) 15 0;unfold AM;omega
theorem T7:∀i,gE (qW i)/\(qW i).P.length=4/\(qW i).nw=0
 |0=>⟨gE.new aQ aQ,rfl,rfl⟩
 |i+1=>by
  obtain⟨h1,a,b⟩:=T7 i;unfold qW gS;split
  .exact⟨h1.zT _ _,by show(List.modify _ _ _).length=4;rw[ab9];exact a,b⟩
  .exact⟨h1,a,b⟩
theorem F0{a:Ka}{k:Kv}(h:bJ F w g a k)(f:0<=k.c.n/\k.c.n<=1000000000000)(e s kd ob rt:Int):aG prog 141 #[.pointer a.gc,e,s, .agg #[kd,ob,rt]] w λr w'=>∃v:Int,r= .returned (.int .i64 v)/\bJ F w' g a {k with c:=(dM k.c e s kd ob rt 0).2}/\Kp F w w':=by
 obtain⟨G,i,back⟩:=h.cp;refine(P3 i f e s kd ob rt).mono ?_;rintro r w' ⟨rfl,b,d⟩;exact⟨_,rfl,(back _ _ b d).1,(back _ _ b d).2⟩
theorem Hs(w:aA):iJ (λb=>b<w.heap.size) (w.alloc (aI #[bA,aU,aU] 314)) w.heap.size []:=
 ⟨none,0,0,0,⟨bC.new w _ _,bB.nil _ _ _⟩,λb a=>aaJ a (aX w _).size,acA _,λq hq=>by cases hq⟩
theorem Dn(w:aA):eJ (λb=>b<w.heap.size) (w.alloc (aI (sQ NW).toArray 318)) w NW:=
 ⟨bC.new w _ _,acZ,λb a=>aaJ a (aX w _).size,acA _⟩
theorem VR(w:aA):vN (λb=>b<w.heap.size) (w.alloc (aI (AH none 0 0 DX).toArray 179)) w.heap.size [] DX:=
 ⟨none,0,⟨bC.new w _ _,bB.nil _ _ _,acZ,λv a=>by rw[abI a];exact⟨acZ,cD⟩⟩,λb c=>aaJ c (aX w _).size,acA _,λq hq=>by cases hq⟩
def TP:List uR:=List.replicate 8 ⟨none,0, [],0⟩
theorem Bw(w:aA):u7 (λb=>b<w.heap.size) (w.alloc (aI (TP.flatMap vU).toArray 324)) w.heap.size:=by
 have a:∀(i:Nat) (hi:i<TP.length),TP[i]=⟨none,0, [],0⟩:=λi hi=>afG ..
 refine⟨TP.map vA,⟨TP,⟨acZ,bC.new w _ _,λi hi=>?_,λi j hi f _=>?_⟩,rfl,λb c=>⟨aaJ c (aX w _).size,λe=>by omega,λr a=>?_⟩⟩,rfl,λr a=>?_⟩
 .rw[a i hi];exact bB.nil _ _ _
 .rw[a i hi];exact .inl rfl
 .rw[abI a];exact λe=>by cases e
 .obtain⟨x,d,rfl⟩:=ac1.1 a;rw[abI d];exact aaQ _
theorem Ca:zeroCells318=(sQ NW).toArray:=aV
theorem WN:zeroCells179=(AH none 0 0 DX).toArray:=aV
theorem Ea{gs:Nat}(h:Ob ([UZ gf (xN 6)]++ [Cv gi iq L3]++ [Z8 gs (wR 4)]++ [QR gw 0]) F w5)(q:L3.length=2):
 bJ F (((((w5.alloc (aI #[bA,aU,aU] 314)).alloc (aI zeroCells318 318)).alloc (aI #[bA,aU,bA,aU,bA,aU,bA,aU,bA,aU,bA,aU,bA,aU,bA,aU] 324)).alloc (aI zeroCells179 179)).alloc (aI #[.pointer gf, .pointer w5.heap.size, .pointer (some ⟨w5.heap.size+1,0,none⟩), .pointer gi, .pointer (some ⟨w5.heap.size+1+1,0,none⟩), .pointer (some ⟨w5.heap.size+1+1+1,0,none⟩), .pointer gs, .int .i64 6, .int .i64 2, .int .i64 4, .pointer gw,aU,aU,aU,aU,aU,aU,aU,aU,aU,aU,aU,aU,aU,aU,aU,aU] 64)) (w5.heap.size+1+1+1+1) ⟨gf,w5.heap.size,w5.heap.size+1,gi,w5.heap.size+1+1,w5.heap.size+1+1+1,gs,gw,List.replicate 8 0,List.replicate 8 0,iq,L3⟩ ⟨NW,xN 6, [], [],DX,wR 4,0,(w5.heap.size,gf)⟩:=by
 rw[Ca,WN];have r:=h.add (p:=Lp w5.heap.size []) (Hs w5) (aX w5 _);have j:(w5.alloc (aI #[bA,aU,aU] 314)).heap.size=w5.heap.size+1:=aT;generalize w5.alloc (aI #[bA,aU,aU] 314)=a at *;have k:=r.add (p:=TY a NW) (Dn a) (aX a _);have l:(a.alloc (aI (sQ NW).toArray 318)).heap.size=w5.heap.size+1+1:=by rw[<-j];simp
 rw[j] at k;generalize a.alloc (aI (sQ NW).toArray 318)=c at *;have g:=k.add (p:=Ld c) (Bw c) (aX c _);rw[l] at g;have s:(aI (TP.flatMap vU).toArray 324)=(aI #[bA,aU,bA,aU,bA,aU,bA,aU,bA,aU,bA,aU,bA,aU,bA,aU] 324):=rfl;rw[s] at g;have m:(c.alloc (aI #[bA,aU,bA,aU,bA,aU,bA,aU,bA,aU,bA,aU,bA,aU,bA,aU] 324)).heap.size=w5.heap.size+1+1+1:=by rw[<-l];simp
 generalize c.alloc (aI #[bA,aU,bA,aU,bA,aU,bA,aU,bA,aU,bA,aU,bA,aU,bA,aU] 324)=d at *;have o:=g.add (p:=TF d.heap.size [] DX) (VR d) (aX d _);rw[m] at o;have z9:(d.alloc (aI (AH none 0 0 DX).toArray 179)).heap.size=w5.heap.size+1+1+1+1:=by rw[<-m];simp
 generalize d.alloc (aI (AH none 0 0 DX).toArray 179)=f at *;have e:=o.add (p:=PB f.heap.size 64 (kL ⟨gf,w5.heap.size,w5.heap.size+1,gi,w5.heap.size+1+1,w5.heap.size+1+1+1,gs,gw,List.replicate 8 0,List.replicate 8 0,iq,L3⟩).toArray) ⟨bC.new f _ _,λb t=>aaJ t (aX f _).size,acA _⟩ (aX f _);rw[z9] at e;refine⟨Ob.reorder (λi=>match i with|0=>8|1=>0|2=>4|3=>5|4=>1|5=>6|6=>7|7=>2|_=>3) (λi=>match i with|8=>0|0=>1|4=>2|5=>3|1=>4|6=>5|7=>6|2=>7|_=>8) e (λi p hp=>?_),rfl,rfl,q,rfl⟩;match i,hp with
 |0,hp=>exact⟨hp,rfl⟩
 |1,hp=>exact⟨hp,rfl⟩
 |2,hp=>exact⟨hp,rfl⟩
 |3,hp=>exact⟨hp,rfl⟩
 |4,hp=>exact⟨hp,rfl⟩
 |5,hp=>exact⟨hp,rfl⟩
 |6,hp=>exact⟨hp,rfl⟩
 |7,hp=>exact⟨hp,rfl⟩
 |8,hp=>exact⟨hp,rfl⟩
 |n+9,hp=>simp[Mb] at hp
def ZZ(p:Nat×Nat)(i:Nat):Kv:=⟨rJ i,xN 6, [], [],DX,qW i,0,p⟩
def T6(p:Nat×Nat)(i:Nat):Kv:=⟨AM i,xN 6, [], [],DX,qW 4,0,p⟩
theorem TX(h:0<=C.n/\C.n<=1000000)(i:Nat){p:Nat×Nat}:KW ⟨C,xN 6, [], [],DX,qW i,0,p⟩:=
 ⟨aaQ _,aaQ _,⟨h.1,by show C.n<=1000000000;omega⟩,(T7 i).1,λx a=>(by cases a),aaQ _⟩
theorem Ix(p:Nat×Nat)(i:Nat):ZZ p (i+1)=⟨if i=0 then(dM (rJ i) 0 (i:Nat) 3 (i:Nat) 15 0).2 else(dM (dM (rJ i) 0 (i:Nat) 3 (i:Nat) 15 0).2 (i:Nat) 0 3 0 2 0).2,xN 6, [], [],DX,gS (qW i) (i:Nat) true,0,p⟩:=rfl
theorem Fe(w:aA):aG prog 98 #[.agg #[.int .i64 6, .int .i64 2, .int .i64 4]] w λe w'=>∃g p0,e= .returned (.tuple #[.pointer (some ⟨g,0,none⟩),aU])/\KM (λb=>b<w.heap.size) w' g (pY p0)/\aD w w w':=by
 have V:=aX w (aI #[.int .i64 6, .int .i64 2, .int .i64 4] 60);have xb:=bC.new w 60 #[.int .i64 6, .int .i64 2, .int .i64 4];have I:aH (Ob [] (λb=>b<(w.alloc (aI #[.int .i64 6, .int .i64 2, .int .i64 4] 60)).heap.size) (w.alloc (aI #[.int .i64 6, .int .i64 2, .int .i64 4] 60))):=Ob.none (λb f=>f) (λb f=>f);have J:aH (w.heap.size<(w.alloc (aI #[.int .i64 6, .int .i64 2, .int .i64 4] 60)).heap.size):=by unfold aH;simp
 have K:=aP V;clear V;go_enter func98,ntmps98
 go_upto_region 1 with(fail)
 generalize w.alloc (aI #[.int .i64 6, .int .i64 2, .int .i64 4] 60)=L at *;generalize hq:w.heap.size=q at *;obtain⟨n1,W⟩:∃n,n=L.heap.size:=⟨_,rfl⟩
 rw[<-W] at I J;clear W;have x0:=xb.cell 0 (.int .i64 6) rfl;have X:aH (aG prog 137 #[.int .i64 6] L (Mm 6 L)):=Ot 6 L aQ aQ;have Y:=aP xb;clear xb;go_wp2_with fail
 refine aR X ?_;rintro e w2 ⟨rfl,Z,h⟩;have a6:aH (Ob [UZ L (xN 6)] (λb=>b<n1) w2):=I.o.add (p:=UZ L (xN 6)) ⟨Z,λb f=>aaJ f h.size,acA _⟩ h;have M:=aP (Y.o.keep h);have N:aH (aD q w w2):=K.o.trans (h.mono (by have:=K.o.size;omega));clear Z h I X x0 Y K;generalize L.heap.size=gf at *;have O:=M.o.cell 1 (.int .i64 2) rfl;have a7:=aP (Ft w2);go_wp2_with fail
 refine aR a7 ?_;rintro e w3 ⟨gi,iq,L3,rfl,a8,aa,y⟩;have ab:=aP (a6.o.add (p:=Cv gi iq L3) aa y);have P:=aP (M.o.keep y);have Q:aH (aD q w w3):=N.o.trans (y.mono (by have:=N.o.size;omega));have HL3:=aP a8;clear aa y a8 a6 a7 O M N;have x2:=P.o.cell 2 (.int .i64 4) rfl;have HSd:=aP (QQ w3);go_wp2_with fail
 refine aR HSd ?_;rintro e w4 ⟨gs,rfl,hs4,z⟩;have HO4:=aP (ab.o.add (p:=Z8 gs (wR 4)) hs4 z);have HX4:=aP (P.o.keep z);have R:aH (aD q w w4):=Q.o.trans (z.mono (by have:=Q.o.size;omega));clear hs4 z ab HSd x2 P Q;have HWh:=aP (Jy w4);go_wp2_with fail
 refine aR HWh ?_;rintro e a ⟨gw,rfl,_,hw5,A⟩;have HO5:=aP (HO4.o.add (p:=QR gw 0) hw5 A);have k:=aP (HX4.o.keep A);have B:aH (aD q w a):=R.o.trans (A.mono (by have:=R.o.size;omega));clear hw5 A HO4 HWh HX4 R;have x0:=k.o.cell 0 (.int .i64 6) rfl;have O:=k.o.cell 1 (.int .i64 2) rfl;have x2:=k.o.cell 2 (.int .i64 4) rfl;have c:=(((aX a (aI #[bA,aU,aU] 314)).alloc (aX _ _).size (aI zeroCells318 318)).alloc ((aX _ _).alloc (aX _ _).size _).size (aI #[bA,aU,bA,aU,bA,aU,bA,aU,bA,aU,bA,aU,bA,aU,bA,aU] 324)).alloc (((aX _ _).alloc (aX _ _).size _).alloc ((aX _ _).alloc (aX _ _).size _).size _).size (aI zeroCells179 179);have y0:=bD c x0;have y1:=bD c O;have y2:=bD c x2;have HK:=aP (Ea HO5.o HL3.o);have HX9:=k.o.keep c;have l:=aX ((((a.alloc (aI #[bA,aU,aU] 314)).alloc (aI zeroCells318 318)).alloc (aI #[bA,aU,bA,aU,bA,aU,bA,aU,bA,aU,bA,aU,bA,aU,bA,aU] 324)).alloc (aI zeroCells179 179)) (aI #[.pointer gf, .pointer a.heap.size, .pointer (some ⟨a.heap.size+1,0,none⟩), .pointer gi, .pointer (some ⟨a.heap.size+1+1,0,none⟩), .pointer (some ⟨a.heap.size+1+1+1,0,none⟩), .pointer gs, .int .i64 6, .int .i64 2, .int .i64 4, .pointer gw,aU,aU,aU,aU,aU,aU,aU,aU,aU,aU,aU,aU,aU,aU,aU,aU] 64);have d:=aP (HX9.keep l);have HB10:aH (aD q w (((((a.alloc (aI #[bA,aU,aU] 314)).alloc (aI zeroCells318 318)).alloc (aI #[bA,aU,bA,aU,bA,aU,bA,aU,bA,aU,bA,aU,bA,aU,bA,aU] 324)).alloc (aI zeroCells179 179)).alloc (aI #[.pointer gf, .pointer a.heap.size, .pointer (some ⟨a.heap.size+1,0,none⟩), .pointer gi, .pointer (some ⟨a.heap.size+1+1,0,none⟩), .pointer (some ⟨a.heap.size+1+1+1,0,none⟩), .pointer gs, .int .i64 6, .int .i64 2, .int .i64 4, .pointer gw,aU,aU,aU,aU,aU,aU,aU,aU,aU,aU,aU,aU,aU,aU,aU,aU] 64))):=B.o.trans (((c.mono (by have:=B.o.size;omega))).trans (l.mono (by have:=B.o.size;have:=c.size;omega)));clear HX9 l c;go_upto_region 14 with(fail)
 generalize (((((a.alloc (aI #[bA,aU,aU] 314)).alloc (aI zeroCells318 318)).alloc (aI #[bA,aU,bA,aU,bA,aU,bA,aU,bA,aU,bA,aU,bA,aU,bA,aU] 324)).alloc (aI zeroCells179 179)).alloc (aI #[.pointer gf, .pointer a.heap.size, .pointer (some ⟨a.heap.size+1,0,none⟩), .pointer gi, .pointer (some ⟨a.heap.size+1+1,0,none⟩), .pointer (some ⟨a.heap.size+1+1+1,0,none⟩), .pointer gs, .int .i64 6, .int .i64 2, .int .i64 4, .pointer gw,aU,aU,aU,aU,aU,aU,aU,aU,aU,aU,aU,aU,aU,aU,aU,aU] 64))=w10 at *;have O:=d.o.cell 1 (.int .i64 2) rfl;have x2:=d.o.cell 2 (.int .i64 4) rfl;clear y0 y1 y2 HO5 k B;have S:aH (KM (λb=>b<n1) w10 (a.heap.size+1+1+1+1) (ZZ (a.heap.size,gf) 0)/\Kp (λb=>b<n1) w10 w10):=⟨⟨_,HK.o⟩,Kp.refl _ _⟩
 clear HK;generalize (a.heap.size,gf)=p0 at S;generalize a.heap.size+1+1+1+1=g at *;have HX:=d;clear d;go_wp2_with fail
 go_loopw [64] (λv64 wr=>∃i:Nat,v64= .int .i64 i/\i<=4/\aH (KM (λb=>b<n1) wr g (ZZ p0 i)/\Kp (λb=>b<n1) w10 wr)) (λv64 _=>4 - (aL v64).toNat)
 case atStart=>exact⟨0,rfl,aaQ _,S.o⟩
 case round=>
  clear S O x2;obtain⟨i,rfl,hi,F⟩:=hrel;obtain⟨⟨a1,h1⟩,hK⟩:=F.o;clear F;by_cases hi4:i<4
  .have i4:(i:Int)<4:=aQ;have hen:=QY i;have D:aH (0<=(dM (rJ i) 0 (i:Nat) 3 (i:Nat) 15 0).2.n/\(dM (rJ i) 0 (i:Nat) 3 (i:Nat) 15 0).2.n<=100):=by
    have:=BJ hen.1 0 (i:Nat) 3 (i:Nat) 15 0;unfold aH;omega
   have m:=aP (F0 h1 (by show 0<=(rJ i).n/\(rJ i).n<=_;omega) 0 (i:Nat) 3 (i:Nat) 15);have pc:=h1.pc;unfold pA at pc;have r:=aP hK;clear h1 hK hen;go_wp2_with fail
   refine aR m ?_;rintro e T ⟨v1,rfl,x,k2⟩;have G:=bH x (r.o.trans k2);clear x k2 m r pc;have pc:=G.o.1.pc;have ps:=G.o.1.ps;unfold pA at pc ps;by_cases E:i=0
   .subst E;have s:=aP (C5 G.o.1 (TX ⟨D.o.1,by have:=D.o.2;omega⟩ 0) (0:Int) true);go_wp2_with fail
    refine aR s ?_;rintro e U ⟨rfl,t,k3⟩;have H:aH (KM (λb=>b<n1) U g (ZZ p0 1)/\Kp (λb=>b<n1) w10 U):=⟨⟨a1,t⟩,G.o.2.trans k3⟩
    clear t k3 s G;go_wp2_with fail
    go_roundw
    case rel=>exact⟨1,by go_num,aQ,H.o⟩
    case measure=>simp[aL]
   .have hib:((i:Int) !=0)=true:=by simp[E]
    have HR2:=aP (F0 G.o.1 (by have:=D.o;show 0<=(dM (rJ i) 0 (i:Nat) 3 (i:Nat) 15 0).2.n/\(dM (rJ i) 0 (i:Nat) 3 (i:Nat) 15 0).2.n<=_;omega) (i:Nat) 0 3 0 2);have HI0:=aP E;clear E;go_wp2_with fail
    refine aR HR2 ?_;rintro e U ⟨v2,rfl,t,k3⟩;have H3:=bH t (G.o.2.trans k3);clear t k3 HR2 G pc ps;have ps:=H3.o.1.ps;unfold pA at ps;have s:=aP (C5 H3.o.1 (TX (C:=(dM (dM (rJ i) 0 (i:Nat) 3 (i:Nat) 15 0).2 (i:Nat) 0 3 0 2 0).2) (by have h5:=D.o;have:=BJ h5.1 (i:Nat) 0 3 0 2 0;omega) i) (i:Nat) true);go_wp2_with fail
    refine aR s ?_;rintro e w13 ⟨rfl,h4,k4⟩;have H:aH (KM (λb=>b<n1) w13 g (ZZ p0 (i+1))/\Kp (λb=>b<n1) w10 w13):=by
     unfold aH;rw[Ix,aaL HI0.o];exact⟨⟨a1,h4⟩,H3.o.2.trans k4⟩
    clear h4 k4 s H3;go_wp2_with fail
    go_roundw
    case rel=>exact⟨i+1,by go_num,aQ,H.o⟩
    case measure=>simp[aL];omega
  .obtain rfl:i=4:=aQ;have HQ2:aH (KM (λb=>b<n1) wr g (T6 p0 0)/\Kp (λb=>b<n1) w10 wr):=⟨⟨a1,h1⟩,hK⟩
   clear h1 hK hi hi4;go_wp2_with fail
   go_loopw [91] (λv91 wz=>∃i:Nat,v91= .int .i64 i/\i<=8/\aH (KM (λb=>b<n1) wz g (T6 p0 0)/\Kp (λb=>b<n1) w10 wz)) (λv91 _=>8 - (aL v91).toNat)
   case atStart=>exact⟨0,rfl,aaQ _,HQ2.o⟩
   case round=>
    clear HQ2;obtain⟨i,rfl,hi,F⟩:=hrel;obtain⟨⟨a2,x⟩,hK⟩:=F.o;clear F;by_cases hi8:i<8
    .have i8:(i:Int)<8:=aQ;obtain⟨v,hc⟩:=x.bound (i:=i) hi8;have fz:=x.fz (19+i);have HS:aH (KM (λb=>b<n1) (wr.setCell ⟨g,19+i,none⟩ (.int .i64 (-1))) g (T6 p0 0)/\Kp (λb=>b<n1) w10 (wr.setCell ⟨g,19+i,none⟩ (.int .i64 (-1)))):=⟨(x.store (19+i) aQ (-1)).1,hK.trans (x.store (19+i) aQ (-1)).2⟩
     clear x hK;go_wp2_with fail
     go_roundw
     case rel=>exact⟨i+1,by go_num,aQ,HS.o⟩
     case measure=>simp[aL];omega
    .obtain rfl:i=8:=aQ;have O:wr.cell? (q,1)=some (.int .i64 2):=hK.cell (HX.o.cell 1 (.int .i64 2) rfl) J.o;have HQ3:aH (KM (λb=>b<n1) wr g (T6 p0 0)/\Kp (λb=>b<n1) w10 wr):=⟨⟨a2,x⟩,hK⟩
     clear x hK hi hi8;go_wp2_with fail
     go_loopw [102] (λu wz=>∃i:Nat,u= .int .i64 i/\i<=2/\aH (KM (λb=>b<n1) wz g (T6 p0 i)/\Kp (λb=>b<n1) w10 wz)) (λu _=>2 - (aL u).toNat)
     case atStart=>exact⟨0,rfl,aaQ _,HQ3.o⟩
     case round=>
      clear HQ3 O;obtain⟨i,rfl,hi,F⟩:=hrel;obtain⟨⟨a3,t⟩,hK⟩:=F.o;clear F;by_cases hi2:i<2
      .have i2:(i:Int)<2:=aQ;have hln:=Bp i;have m:=aP (F0 t (by show 0<=(AM i).n/\(AM i).n<=_;omega) 0 (8+(i:Nat)) 2 (i:Nat) 15);have pc:=t.pc;unfold pA at pc;have r:=aP hK;clear t hK hln;go_wp2_with fail
       refine aR m ?_;rintro e T ⟨v1,rfl,h4,k4⟩;have H:aH (KM (λb=>b<n1) T g (T6 p0 (i+1))/\Kp (λb=>b<n1) w10 T):=⟨⟨a3,h4⟩,r.o.trans k4⟩
       clear h4 k4 m r;go_wp2_with fail
       go_roundw
       case rel=>exact⟨_, .int .i64 ((i:Int)+1),_,_,_,_,_,_,_,_,_,_,_,_,⟨i+1,by go_num,aQ,H.o⟩,rfl⟩
       case measure=>simp[aL];omega
      .obtain rfl:i=2:=aQ;have H:aH (KM (λb=>b<w.heap.size) wr g (pY p0)/\aD w w wr):=by
        have f:=HB10.o;have hq1:=J.o;rw[hq];exact⟨⟨a3,t.less (λb f=>by omega)⟩,⟨hK.os.trans f.os,hK.tape.trans f.tape,hK.output.trans f.output,aaR f.size hK.size,λj hj=>(hK.block j aQ).trans (f.block j hj)⟩⟩
       clear t hK;go_wp2_with fail
       go_ret2
       exact⟨g,p0,rfl,H.o.1,H.o.2⟩
end
variable{i m:Nat}{G:Nat->Prop}{a:Ka}
section
def BA(g:Nat)(c:Int)(bs:List Bool):List Value:= [pA g, .int .i64 c]++bs.map Value.bool
def Cw(g:Nat)(a:Ka)(k:Kv):Pt:=⟨λF w=>bJ F w g a k,bJ.bX g a k⟩
def Pw(m g:Nat)(c:Int)(bs:List Bool)(a:Ka)(k:Kv):List Pt:= [PB m 142 (BA g c bs).toArray,Cw g a k]
structure iD(F:Nat->Prop)(w:aA)(m g:Nat)(c:Int)(bs:List Bool)(a:Ka)(k:Kv):Prop where
 o:Ob (Pw m g c bs a k) F w
 b8:bs.length=8
def gC(F:Nat->Prop)(w:aA)(m g:Nat)(c:Int)(k:Kv):Prop:=∃bs a,iD F w m g c bs a k
theorem iD.bX(m g:Nat)(c:Int)(bs:List Bool)(a:Ka)(k:Kv):dV (λF w=>iD F w m g c bs a k):=λF G H w w' h x b fl hH=>⟨Ob.bX _ F G H w w' h.o x b fl hH,h.b8⟩
theorem gC.bX(m g:Nat)(c:Int)(k:Kv):dV (λF w=>gC F w m g c k):=λF G H w w' ⟨bs,a,h⟩ x b fl hH=>⟨bs,a,iD.bX m g c bs a k F G H w w' h x b fl hH⟩
section
variable{F:Nat->Prop}{w w':aA}{m g:Nat}{c:Int}{bs:List Bool}{a:Ka}{k:Kv}
theorem iD.fl(h:iD F w m g c bs a k):Ol F w:=h.o.fl
theorem iD.below(h:iD F w m g c bs a k)(b:aD w w w'):iD F w' m g c bs a k/\Kp F w w':=⟨⟨h.o.below b,h.b8⟩,h.o.NH b⟩
theorem iD.bk(h:iD F w m g c bs a k):bC w m 142 (BA g c bs).toArray:=by
 obtain⟨d,h1⟩:=h.o;exact(h1.get 0 (p:=PB m 142 (BA g c bs).toArray) rfl).b
theorem iD.c0(h:iD F w m g c bs a k):w.cell? (m,0)=some (.pointer g):=h.bk.cell 0 _ rfl
theorem iD.c1(h:iD F w m g c bs a k):w.cell? (m,1)=some (.int .i64 c):=h.bk.cell 1 _ rfl
theorem iD.cb(h:iD F w m g c bs a k)(hi:i<8):∃b:Bool,w.cell? (m,2+i)=some (.bool b):=by
 have d:=h.b8;refine⟨bs[i]'(by omega),h.bk.cell (2+i) _ ?_⟩;rw[aaY,BA,aaS aT];simp[show 2+i - 2=i by omega,d,hi]
theorem iD.fz(h:iD F w m g c bs a k)(i:Nat):w.frozen? (m,i)=false:=h.bk.frozen i
theorem iD.set(h:iD F w m g c bs a k)(hi:i<8)(b:Bool):iD F (w.setCell (m,2+i) (.bool b)) m g c (bs.set i b) a k/\Kp F w (w.setCell (m,2+i) (.bool b)):=by
 obtain⟨G,d,back⟩:=h.o.use 0 _ rfl;obtain⟨s1,s2⟩:=mI.set (cs':=(BA g c (bs.set i b)).toArray) d (2+i) (.bool b) (by
  rw[aaI];congr 1
  unfold BA;rw[aa6 _ _ aT,ab1];simp)
 obtain⟨b1,b2⟩:=back (PB m 142 (BA g c (bs.set i b)).toArray) _ s1 s2;exact⟨⟨b1,by simp[h.b8]⟩,b2⟩
theorem iD.kn(h:iD F w m g c bs a k):∃G,bJ G w g a k/\(∀(a':Ka) (k':Kv) (w':aA),bJ G w' g a' k'->Kp G w w'->iD F w' m g c bs a' k'/\Kp F w w'):=by
 obtain⟨G,e,back⟩:=h.o.use 1 _ rfl;exact⟨G,e,λa' k' w' b d=>⟨⟨(back (Cw g a' k') w' b d).1,h.b8⟩,(back (Cw g a' k') w' b d).2⟩⟩
theorem iD.ks(h:iD F w m g c bs a k):w.cell? (g,6)=some (.pointer a.gs)/\w.cell? (g,4)=some (.pointer a.gr)/\w.cell? (g,3)=some (.pointer a.gi)/\w.cell? (g,7)=some (.int .i64 6)/\w.cell? (g,8)=some (.int .i64 2)/\w.cell? (g,9)=some (.int .i64 4):=by
 obtain⟨G,b,_⟩:=h.kn;exact⟨b.ps,b.pr,b.pi,b.LX⟩
theorem iD.less(h:iD F w m g c bs a k)(d:∀b,G b->F b):iD G w m g c bs a k:=⟨Ob.bX _ F (λ_=>True) G w w h.o (Kp.refl _ _) (λ_ _ _=>trivial) (λb e=>h.fl b (d b e)) (λr _ f i=>f (d r i)),h.b8⟩
end
theorem TC{k:Kv}(h:bJ F w g a k)(hw:KW k)(i:Int):aG prog 115 #[.pointer a.gs,i] w λe w'=>(∃pt:Option Nat,e= .returned (.pointer (Ae pt))/\aH (aG prog 116 #[.pointer (Ae pt)] w λe w'=>∃(d:Int) (b:Bool),e= .returned (.tuple #[d,b])/\w=w'))/\w=w':=by
 obtain⟨G,hs,_⟩:=h.sd;refine(WU hs hw.p8 i).mono ?_;rintro e w' ⟨⟨pt,rfl,h1,j⟩,rfl⟩;refine⟨⟨pt,rfl,?_⟩,rfl⟩;cases f:rO k.s i with
 |none=>
  rw[h1 f];refine(NJ w).mono ?_;rintro e w' ⟨rfl,rfl⟩;exact⟨0,false,rfl,rfl⟩
 |some v=>
  obtain⟨q,rfl,hq⟩:=j v f;have l:v.ch.length<=4000000:=by
   unfold rO at f;split at f
   .cases hp:k.s.P[i.toNat]? with
    |none=>rw[hp] at f;cases f
    |some p=>
     rw[hp] at f;have:=(hw.sd.sv p (aa1 hp) v f).len;omega
   .cases f
  refine(M8 hq l).mono ?_;rintro e w' ⟨rfl,rfl⟩;cases v.ch with
  |nil=>exact⟨0,false,rfl,rfl⟩
  |cons x xs=>exact⟨x.de,true,rfl,rfl⟩
theorem Et{k:Kv}(h:bJ F w g a k)(i:Int)(hi:0<=i/\i<8)(kd x b:Int)(hk:1<=kd/\kd<=8):aG prog 117 #[.pointer a.gr,i, .agg #[kd,x, .int .u64 b]] w λe w'=>∃r:Int,e= .returned (.int .i64 r)/\bJ F w' g a k/\Kp F w w':=by
 obtain⟨G,j,back⟩:=h.rw;refine(NT j i hi kd x b hk).mono ?_;rintro e w' ⟨r,rfl,d,f⟩;exact⟨r,rfl,(back _ d f).1,(back _ d f).2⟩
theorem DQ(W:aA):(Instr.field 60 (.agg #[.int .i64 6, .int .i64 2, .int .i64 4]) 2).run prog W= .ok (.int .i64 4) W:=aV
theorem OQ{k:Kv}(h:bJ F w g a k):aG prog 87 #[.pointer g] w λe w'=>e= .returned (.agg #[.int .i64 6, .int .i64 2, .int .i64 4])/\aD w w w':=by
 obtain⟨c7,c8,c9⟩:=h.LX;have b:=aX w (aI #[aU,aU,aU] 60);have d7:=bD b c7;have d8:=bD b c8;have d9:=bD b c9;clear h b;go_enter func87,ntmps87
 go_wp2_with fail
 exact bodyPost_ret (v:= .agg #[.int .i64 6, .int .i64 2, .int .i64 4]) (by simp[results,results87,go_sem]) rfl ⟨rfl,aX _ _⟩
theorem Fc{c:Int}{k:Kv}(h:gC F w m g c k)(hw:KW k)(e:Int)(b:Bool):aG prog 78 #[.pointer m, .agg #[e,b]] w λr w'=>r= .returned (.tuple #[])/\gC F w' m g c k/\Kp F w w':=by
 obtain⟨bs,a,h⟩:=h;have D:=aX w (aI #[e,b] 69);have Q:=bC.new w 69 #[e,b];have H1:=aP (And.intro ((iD.bX m g c bs a k).box h h.fl (aI #[e,b] 69)) (h.below D).2);have Z:=aP hw;clear h D hw;go_enter func78,ntmps78
 go_upto_region 1 with(fail)
 generalize w.alloc (aI #[e,b] 69)=w1 at *;generalize w.heap.size=q1 at *;have c0:=H1.o.1.c0;obtain⟨ps,_,_,c7,c8,c9⟩:=H1.o.1.ks;have R:=aP Q;clear Q;obtain⟨G,hk,_⟩:=H1.o.1.kn;obtain⟨G2,hs,_⟩:=hk.sd;have S:=aP (wK hs);have E:=aP (OQ hk);clear hk hs;go_wp2_with fail
 refine aR S ?_;rintro r B ⟨rfl,rfl⟩;go_wp2_with fail
 refine aR E ?_;rintro r B ⟨rfl,x⟩;have a1:=DQ B;generalize IntKind.u64.wrap k.s.nw=nw at *;have HQ:aH (∃bs a,iD (Fb F q1) B m g c bs a k/\Kp (Fb F q1) w1 B):=⟨bs,a,(H1.o.1.below x).1,(H1.o.1.below x).2⟩
 clear S E c0 ps c7 c8 c9 x;go_wp2_with fail
 go_loopw [24] (λv24 wr=>∃i:Nat,v24= .int .i64 i/\i<=4/\aH (∃bs a,iD (Fb F q1) wr m g c bs a k/\Kp (Fb F q1) w1 wr)) (λv24 _=>4 - (aL v24).toNat)
 case atStart=>exact⟨0,rfl,aaQ _,HQ.o⟩
 case round=>
  clear HQ;obtain⟨i,rfl,hi,T⟩:=hrel;obtain⟨H,a2,n,hK⟩:=T.o;clear T;by_cases a6:i<4
  .have i4:(i:Int)<4:=aQ;have i0:¬(i:Int)<0:=aQ;have i8:(i:Int)<8:=aQ;have c0:=n.c0;obtain⟨U,cb⟩:=n.cb (i:=i) aQ;have fb:=n.fz (2+i);obtain⟨ps,_⟩:=n.ks;have V:=hK.cell (R.o.cell 0 e rfl) (.inr rfl);have W:=hK.cell (R.o.cell 1 (.bool b) rfl) (.inr rfl);obtain⟨G,hk,_⟩:=n.kn;have X:=aP (TC hk Z.o (i:Nat));have u:=aP (λv:Bool=>n.set (i:=i) aQ v);have q:=aP hK;have y:q1≠m:=λe1=>by
    obtain⟨ow,Y⟩:=n.o;have h5:=(Y.get 0 (p:=PB m 142 (BA g c H).toArray) rfl).nf;have:=Y.1 q1 (.inr rfl);rw[e1] at this;exact h5 ⟨this.1,by rw[this.2];decide⟩
   clear n hK hk;go_wp2_with fail
   refine aR X ?_;rintro r B ⟨⟨pt,rfl,HD⟩,rfl⟩;clear X;go_wp2_with fail
   refine aR HD ?_;rintro r B ⟨d,has,rfl,rfl⟩;have z:=aP (u.o has);have y0:(wr.setCell (m,2+i) (.bool has)).cell? (q1,0)=some (.int .i64 e):=(gN y).trans V;have y1:(wr.setCell (m,2+i) (.bool has)).cell? (q1,1)=some (.bool b):=(gN y).trans W;clear u HD;go_upto_region 9 with(fail)
   generalize wr.setCell (m,2+i) (.bool has)=w5 at *;clear V W c0 cb fb ps y;obtain⟨_,pr,_⟩:=z.o.1.ks;obtain⟨G5,I,j⟩:=z.o.1.kn;have M:=aP (λ(kd:Int) (N:1<=kd/\kd<=8)=>Et I (i:Nat) aQ kd 0 nw N);have l:=aP j;have J:aH (aG prog 117 #[.pointer a2.gr, .int .i64 (i:Nat), .agg #[.int .i64 3,aU, .int .u64 nw]] w5 λe w'=>∃r:Int,e= .returned (.int .i64 r)/\aH (∃bs a,iD (Fb F q1) w' m g c bs a k/\Kp (Fb F q1) w1 w')):=(M.o 3 aQ).mono (by
    rintro r C ⟨v,rfl,K,L⟩;exact⟨v,rfl,_,_,(l.o _ _ _ K L).1,(q.o.trans z.o.2).trans (l.o _ _ _ K L).2⟩)
   have A:aH (aG prog 117 #[.pointer a2.gr, .int .i64 (i:Nat), .agg #[.int .i64 4,aU, .int .u64 nw]] w5 λe w'=>∃r:Int,e= .returned (.int .i64 r)/\aH (∃bs a,iD (Fb F q1) w' m g c bs a k/\Kp (Fb F q1) w1 w')):=(M.o 4 aQ).mono (by
    rintro r C ⟨v,rfl,K,L⟩;exact⟨v,rfl,_,_,(l.o _ _ _ K L).1,(q.o.trans z.o.2).trans (l.o _ _ _ K L).2⟩)
   have t:aH (∃bs a,iD (Fb F q1) w5 m g c bs a k/\Kp (Fb F q1) w1 w5):=⟨_,_,z.o.1,q.o.trans z.o.2⟩
   clear I j M l z q;cases has with
   |true=>
    cases U with
    |true=>
     cases b with
     |true=>
      go_wp2_with fail
      go_roundw
      case rel=>exact⟨i+1,by go_num,aQ,t.o⟩
      case measure=>simp[aL];omega
     |false=>
      go_wp2_with fail
      go_roundw
      case rel=>exact⟨i+1,by go_num,aQ,t.o⟩
      case measure=>simp[aL];omega
    |false=>
     cases b with
     |true=>
      go_wp2_with fail
      refine aR J ?_;rintro r C ⟨v,rfl,f⟩;go_wp2_with fail
      go_roundw
      case rel=>exact⟨i+1,by go_num,aQ,f.o⟩
      case measure=>simp[aL];omega
     |false=>
      go_wp2_with fail
      refine aR J ?_;rintro r C ⟨v,rfl,f⟩;go_wp2_with fail
      go_roundw
      case rel=>exact⟨i+1,by go_num,aQ,f.o⟩
      case measure=>simp[aL];omega
   |false=>
    cases U with
    |true=>
     cases b with
     |true=>
      go_wp2_with fail
      refine aR A ?_;rintro r C ⟨v,rfl,f⟩;go_wp2_with fail
      go_roundw
      case rel=>exact⟨i+1,by go_num,aQ,f.o⟩
      case measure=>simp[aL];omega
     |false=>
      go_wp2_with fail
      refine aR A ?_;rintro r C ⟨v,rfl,f⟩;go_wp2_with fail
      go_roundw
      case rel=>exact⟨i+1,by go_num,aQ,f.o⟩
      case measure=>simp[aL];omega
    |false=>
     cases b with
     |true=>
      by_cases he:e=(i:Int)
      .have O:(e==(i:Int))=true:=by simp[he]
       clear he;go_wp2_with fail
       refine aR A ?_;rintro r C ⟨v,rfl,f⟩;go_wp2_with fail
       go_roundw
       case rel=>exact⟨i+1,by go_num,aQ,f.o⟩
       case measure=>simp[aL];omega
      .have O:(e==(i:Int))=false:=by simp[he]
       clear he;go_wp2_with fail
       go_roundw
       case rel=>exact⟨i+1,by go_num,aQ,t.o⟩
       case measure=>simp[aL];omega
     |false=>
      go_wp2_with fail
      go_roundw
      case rel=>exact⟨i+1,by go_num,aQ,t.o⟩
      case measure=>simp[aL];omega
  .obtain rfl:i=4:=aQ;have f:aH (gC F wr m g c k/\Kp F w wr):=⟨⟨H,a2,n.less (λb P=> .inl P)⟩,H1.o.2.trans (hK.mono λb P=> .inl P)⟩
   clear n hK;go_wp2_with fail
   go_end0
   exact⟨rfl,f.o.1,f.o.2⟩
end
end
end Go.Proofs.YtacgiflhgdaeaaaGreat
