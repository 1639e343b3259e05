/- Texts laid as one. -/
import Derived.Test.YtacgiflhgdaeaaaGreatZ18
import Derived.Test.YtacgiflhgdaeaaaGreatZ29
import Derived.Test.YtacgiflhgdaeaaaGreatZ31
set_option linter.unusedVariables false
set_option linter.unusedSimpArgs false
set_option maxRecDepth 100000
set_option maxHeartbeats 20000000
namespace Go.Proofs.YtacgiflhgdaeaaaGreat
open Go.Proofs.Tryz
open Go renaming World->aA,Calls->aG
open Go.RowKit renaming Below->aD,Hid->aH,intOf->aL
open Go.Obj renaming cells->aI
section
open Go.RowKit Go.Lib Go.Shelf dH Fr Up Nt
theorem AZ(e:Int)(w:aA):aG prog 19 #[e] w λr w'=>r= .returned (.bool (decide (0<=e/\e<4)))/\w=w':=by
 by_cases h1:0<=e
 .by_cases a:e<4
  .have hd:decide (0<=e/\e<4)=true:=abD ⟨h1,a⟩;rw[hd];go_enter func19,ntmps19
   go_wp2_with fail
   go_ret
   exact⟨rfl,rfl⟩
  .have hd:decide (0<=e/\e<4)=false:=aa0 λh=>a h.2
   rw[hd];go_enter func19,ntmps19
   go_wp2_with fail
   go_ret
   exact⟨rfl,rfl⟩
 .have hd:decide (0<=e/\e<4)=false:=aa0 λh=>h1 h.1
  rw[hd];go_enter func19,ntmps19
  go_wp2_with fail
  go_ret
  exact⟨rfl,rfl⟩
theorem LM(w:aA)(c:Int)(hc:1<=c/\c<=64):aG prog 8 #[c] w λe w'=>∃f m g p0,e= .returned (.pointer (some ⟨f,0,none⟩))/\cE (λb=>b<w.heap.size) w' f m g c (pY p0) jT/\aD w w w':=by
 have i:=aP (Ik w c hc);go_enter func8,ntmps8
 go_wp2_with fail
 refine aR i ?_;rintro r v ⟨f,m,g,p0,rfl,h,d⟩;have c0:=h.c0;unfold pA at c0;obtain⟨G,a,hk,d0,_⟩:=h.kn;have j:=hk.pf;have k:=hk.pt;have l:=hk.pc;have n:=hk.pi;have p:=hk.pr;have q:=hk.pb;have s:=hk.ps;unfold pA at j k l n p q s;have t:=bH h d;clear h d hk i;go_wp2_with(first|(go_at_call 10;(refine aS (zX c0) ?_);rintro x u ⟨rfl,rfl⟩)|(go_at_call 11;(refine aS (rI d0) ?_);rintro x u ⟨rfl,rfl⟩))
 go_ret
 exact⟨f,m,g,p0,rfl,t.o⟩
variable{i g n q:Nat}{w w':aA}{F:Nat->Prop}{AX:Option Addr}{D:List (Int×Int)}
section
structure Gc where
 bu:Int
 pe:Int
 has:Bool
 since:Int
 bY:List Int
def Gv.k(x:Gv):Gc:=⟨x.bu,x.pe,x.has,x.since,x.bY⟩
def K7(rn:Rn)(rd:List Bool)(i:Nat)(x:Gc):Gc:=if x.has then {x with bY:=x.bY++ [if rn.env=i/\rn.ch=true then 1 else 0],since:=if rd.getD i false then x.since else((x.bY.length+1:Nat):Int)} else x
def qH(rn:Rn)(rd:List Bool)(n:Nat)(l:List Gc):List Gc:=l.mapIdx λj x=>if j<n then K7 rn rd j x else x
def IK(g:Gc)(p:Int×(Int×Int)):Gc:=if sR p.1=true/\p.2.2=0 then(if nJ p.1=15 then⟨cW p.1,dW p.1,true,0, []⟩ else if nJ p.1=16 then⟨0,0,false,0, []⟩ else g) else g
def sH(e:Int)(l:List Gc)(p:Int×(Int×Int)):List Gc:=if 0<=e then l.modify e.toNat λg=>IK g p else l
def UA(x:Gc):Prop:=x.has=true->(∀v∈x.bY,0<=v/\v<=1)/\x.bY.length<=1048576/\(1<=x.bu/\x.bu<=x.pe/\x.pe<=1048576)/\Wi x.bu x.pe x.since x.bY
def DE(xs:List Wd)(e:Int):List Int:=if 0<=e then(match xs[e.toNat]? with|some z=>z.xs|none=> []) else []
theorem Ns(rn:Rn)(rd:List Bool)(l:List Gc):l=qH rn rd 0 l:=by
 refine abX (by simp[qH]) λn h1 a=>?_
 simp[qH]
theorem Hb{α:Type}{l:List α}{x:α}(h:l[i]?=some x):l.set i x=l:=by
 obtain⟨h1,a⟩:=aaX.1 h;refine abX aT λn b c=>?_
 rw[abF];split
 .rename_i e;subst e;exact a.symm
 .rfl
def XD(x:Int)(N:Nat)(v:Value)(w:aA):Prop:=∃G,v= .slice (some ⟨G,0,none⟩) 1 1/\N<=G/\Sl eI 1 w (some ⟨G,0,none⟩) [x]
theorem XD.keep{x:Int}{v:Value}(h:XD x g v w)(a:bV w w'):XD x g v w':=by obtain⟨G,h1,b,c⟩:=h;exact⟨G,h1,b,c.keep a⟩
theorem O0(rn:Rn)(rd:List Bool)(l:List Gc)(i:Nat):(qH rn rd i l)[i]?=l[i]?:=by
 unfold qH;rw[List.getElem?_mapIdx];simp
theorem Cm(rn:Rn)(rd:List Bool)(l:List Gc)(h:i<n):(qH rn rd n l)[i]?=l[i]?.map (K7 rn rd i):=by
 unfold qH;rw[List.getElem?_mapIdx];simp[h]
theorem modify_id{α:Type}{l:List α}{f:α->α}(h:∀x,f x=x):l.modify i f=l:=by
 have:f=id:=funext h;rw[this];refine abX aT λn h1 a=>?_
 rw[aeX];split <;> rfl
theorem vG{α:Type}{l:List α}{f:α->α}{v:α}(h:∀x,f x=v):l.modify i f=l.set i v:=by
 refine abX aT λn h1 a=>?_
 rw[aeX,abF];split
 .exact h _
 .rfl
variable{l:List Gc}
theorem UD(rn:Rn)(rd:List Bool){l':List Gc}{x y:Gc}(h:l'=qH rn rd i l)(a:l'[i]?=some x)(c:y=K7 rn rd i x):l'.set i y=qH rn rd (i+1) l:=by
 subst h;refine abX (by simp[qH]) λn h1 d=>?_
 rw[abF];have a:=(aaX.1 a).2;simp only[qH,aeZ,acA,ab4] at a;split
 .rename_i e;subst e;simp only[qH,aeZ,Nat.lt_succ_self,acY];rw[c,<-a]
 .rename_i e;simp only[qH,aeZ];by_cases b:n<i
  .rw[aaK b,aaK aQ]
  .rw[aaL b,aaL aQ]
variable{gs:List Gv}
theorem WY(h:gO F w q gs)(b0 b1 b2 b3:Bool){xs:List Wd}(cX:Nat)(X:Sl NP 1 w AX xs/\(∀b,jU AX xs.length=some b->F b)/\∀z∈xs,Sl eU 1 w z.A z.xs/\(∀b,jU z.A z.xs.length=some b->F b)/\∀u∈z.xs,0<=u/\u<18446744073709551616)(hxl:xs.length<=1000/\∀z∈xs,z.xs.length<=1000)
 (o:Ou) (hD:Sl sU 2 w o.S.A D/\(∀b,aZ o.S.A=some b->F b)/\o.S.n=D.length) (hDl:D.length<=1000) (he:o.rn.env= -1\/∃i:Nat,o.rn.env=i/\i<4)
 (hW:∀x∈qH o.rn [b0,b1,b2,b3] 4 (gs.map Gv.k),UA x) (hl:∀x∈gs,x.has=true->x.bY.length<=1000000):
 aG prog 31 #[.pointer q, .agg #[b0,b1,b2,b3],(AX,xs.length,cX), .agg #[o.rn.env,o.rn.ch,(o.S.A,o.S.n,o.S.c),(o.R.A,o.R.n,o.R.c),(o.W.A,o.W.n,o.W.c),(o.A.A,o.A.n,o.A.c),o.tk,o.nu,(o.T.A,o.T.n,o.T.c),o.st, .int .i64 o.x,o.y, .int .u64 o.z]] w λr w'=>r= .returned (.bool true)/\∃p,p.map Gv.k=((DE xs o.rn.env).zip D).foldl (sH o.rn.env) (qH o.rn [b0,b1,b2,b3] 4 (gs.map Gv.k))/\gO F w' q p/\Kp F w w':=by
 have k1:=(h.below (aX w (aI #[b0,b1,b2,b3] 116))).2;have hA:=h.box (aI #[b0,b1,b2,b3] 116);have hC:=hA.box (aI #[o.rn.env,o.rn.ch,(o.S.A,o.S.n,o.S.c),(o.R.A,o.R.n,o.R.c),(o.W.A,o.W.n,o.W.c),(o.A.A,o.A.n,o.A.c),o.tk,o.nu,(o.T.A,o.T.n,o.T.c),o.st, .int .i64 o.x,o.y, .int .u64 o.z] 79);have k2:=(hA.below (aX _ (aI #[o.rn.env,o.rn.ch,(o.S.A,o.S.n,o.S.c),(o.R.A,o.R.n,o.R.c),(o.W.A,o.W.n,o.W.c),(o.A.A,o.A.n,o.A.c),o.tk,o.nu,(o.T.A,o.T.n,o.T.c),o.st, .int .i64 o.x,o.y, .int .u64 o.z] 79))).2;have B1:=(bC.new w 116 #[b0,b1,b2,b3]).alloc (aI #[o.rn.env,o.rn.ch,(o.S.A,o.S.n,o.S.c),(o.R.A,o.R.n,o.R.c),(o.W.A,o.W.n,o.W.c),(o.A.A,o.A.n,o.A.c),o.tk,o.nu,(o.T.A,o.T.n,o.T.c),o.st, .int .i64 o.x,o.y, .int .u64 o.z] 79);have B2:=bC.gK (w.alloc (aI #[b0,b1,b2,b3] 116)) 79 #[o.rn.env,o.rn.ch,(o.S.A,o.S.n,o.S.c),(o.R.A,o.R.n,o.R.c),(o.W.A,o.W.n,o.W.c),(o.A.A,o.A.n,o.A.c),o.tk,o.nu,(o.T.A,o.T.n,o.T.c),o.st, .int .i64 o.x,o.y, .int .u64 o.z] (g:=w.heap.size+1) aT;have HK:=aP (k1.trans (k2.mono λb N=> .inl N));have hz1:(w.alloc (aI #[b0,b1,b2,b3] 116)).heap.size=w.heap.size+1:=aT;rw[hz1] at hC;have HG:=cZ hC B1 B2;have HQ:=aP (And.intro (show w.heap.size<((w.alloc (aI #[b0,b1,b2,b3] 116)).alloc (aI #[o.rn.env,o.rn.ch,(o.S.A,o.S.n,o.S.c),(o.R.A,o.R.n,o.R.c),(o.W.A,o.W.n,o.W.c),(o.A.A,o.A.n,o.A.c),o.tk,o.nu,(o.T.A,o.T.n,o.T.c),o.st, .int .i64 o.x,o.y, .int .u64 o.z] 79)).heap.size by simp;omega) (show w.heap.size+1<((w.alloc (aI #[b0,b1,b2,b3] 116)).alloc (aI #[o.rn.env,o.rn.ch,(o.S.A,o.S.n,o.S.c),(o.R.A,o.R.n,o.R.c),(o.W.A,o.W.n,o.W.c),(o.A.A,o.A.n,o.A.c),o.tk,o.nu,(o.T.A,o.T.n,o.T.c),o.st, .int .i64 o.x,o.y, .int .u64 o.z] 79)).heap.size by simp));have HX:=aP X;have HD:=aP hD;have HL:=cZ hxl hDl (And.intro hl hW);have HE:=aP he;clear h k1 hA hC k2 B1 B2 hz1 X hxl hD hDl he hW hl;go_enter func31,ntmps31
 go_upto_region 1 with(fail)
 generalize ((w.alloc (aI #[b0,b1,b2,b3] 116)).alloc (aI #[o.rn.env,o.rn.ch,(o.S.A,o.S.n,o.S.c),(o.R.A,o.R.n,o.R.c),(o.W.A,o.W.n,o.W.c),(o.A.A,o.A.n,o.A.c),o.tk,o.nu,(o.T.A,o.T.n,o.T.c),o.st, .int .i64 o.x,o.y, .int .u64 o.z] 79))=w2 at *;generalize w.heap.size=q1 at *;go_wp2_with fail
 go_loopw [9] (λv9 wr=>∃(i:Nat) (p:List Gv),v9= .int .i64 i/\i<=4/\aH (p.map Gv.k=qH o.rn [b0,b1,b2,b3] i (gs.map Gv.k)/\gO (Fb (Fb F q1) (q1+1)) wr q p/\Kp (Fb (Fb F q1) (q1+1)) w2 wr)) (λv9 _=>(4 - aL v9).toNat)
 case atStart=>exact⟨0,gs,rfl,aQ,Ns _ _ _,HG.o.1,Kp.refl _ _⟩
 case round=>
  obtain⟨i,p,rfl,hi,C⟩:=hrel;by_cases B:i<4
  .obtain⟨x,X⟩:∃x,p[i]?=some x:=⟨_,aaG (by rw[C.o.2.1.l];exact B)⟩
   have c0:wr.cell? (q,i *5)=some (.int .i64 x.bu):=C.o.2.1.c B (j:=0) aQ X rfl;have c1:=C.o.2.1.c B (j:=1) aQ X rfl;have c2:=C.o.2.1.c B (j:=2) aQ X rfl;have c3:=C.o.2.1.c B (j:=3) aQ X rfl;have c4:=C.o.2.1.c B (j:=4) aQ X rfl;have hRd:wr.cell? (q1,i)=some (.bool ([b0,b1,b2,b3].getD i false)):=by
    have N:bC wr q1 116 #[b0,b1,b2,b3]:=C.o.2.2.aZ HG.o.2.1 (.inl (.inr rfl));refine N.cell i _ ?_;rcases(show i=0\/i=1\/i=2\/i=3 by omega) with rfl|rfl|rfl|rfl <;> rfl
   have H:bC wr (q1+1) 79 #[o.rn.env,o.rn.ch,(o.S.A,o.S.n,o.S.c),(o.R.A,o.R.n,o.R.c),(o.W.A,o.W.n,o.W.c),(o.A.A,o.A.n,o.A.c),o.tk,o.nu,(o.T.A,o.T.n,o.T.c),o.st, .int .i64 o.x,o.y, .int .u64 o.z]:=C.o.2.2.aZ HG.o.2.2 (.inr rfl);have o0:=H.cell 0 o.rn.env rfl;have o1:=H.cell 1 (.bool o.rn.ch) rfl;have j0:(0:Int)<=i:=aQ;have j4:(i:Int)<4:=aQ;have H:=aP H;cases hh:x.has with
   |false=>
    rw[hh] at c2;go_wp2_with fail
    exact⟨⟨i+1,p,rfl,aQ,by
     have hk:(qH o.rn [b0,b1,b2,b3] i (gs.map Gv.k))[i]?=some x.k:=by rw[<-C.o.1];simp[X]
     have:=UD o.rn [b0,b1,b2,b3] C.o.1 (y:=x.k) (x:=x.k) (by rw[C.o.1];exact hk) (by unfold K7;rw[aaL (by rw[show x.k.has=x.has from rfl,hh];simp)]);rw[<-this];exact(Hb (by rw[C.o.1];exact hk)).symm,C.o.2⟩,by simp only[aL];omega⟩
   |true=>
    rw[hh] at c2;have HOw:=aP (C.o.2.1.own X);have HY:aH (∀(W:aA) (v:Int),Sl eI 1 (W.alloc (aI #[v] 3)) (some ⟨W.heap.size,0,none⟩) [v]):=λW v=>Sl.gK fX W v _ rfl _ rfl
    obtain⟨vn,hvn⟩:∃vn:Int,vn=if o.rn.env=i/\o.rn.ch=true then 1 else 0:=⟨_,rfl⟩
    have HVn:=aP hvn;clear hvn;go_upto_region 6 with(fail)
    go_cut [37] (λs wx=>∃bv:Bool,s= .bool bv/\aH (bv=decide (o.rn.env=i/\o.rn.ch=true))/\wx=wr)
    case first=>
     by_cases he:o.rn.env=(i:Int)
     .rw[he] at o0;by_cases hc:o.rn.ch=true
      .rw[hc] at o1;go_wp2_with fail
       go_meet
       exact⟨true,rfl,(abD ⟨he,hc⟩).symm,rfl⟩
      .rw[Bool.eq_false_iff.2 hc] at o1;go_wp2_with fail
       go_meet
       exact⟨false,rfl,(aa0 (λh=>hc h.2)).symm,rfl⟩
     .go_wp2_with fail
      go_meet
      exact⟨false,rfl,(aa0 (λh=>he h.1)).symm,rfl⟩
    case rest=>
    obtain⟨bv,rfl,HBv,rfl⟩:=hcut;go_upto_if 37 with(fail)
    go_cut [10] (λs10 wx=>s10= .int .i64 vn/\wx=wc)
    case first=>
     cases bv with
     |true=>
      go_wp2_with fail
      go_meet
      exact⟨by rw[HVn.o,aaK (acC HBv.o.symm)],rfl⟩
     |false=>
      go_wp2_with fail
      go_meet
      exact⟨by rw[HVn.o,aaL (adJ HBv.o.symm)],rfl⟩
    case rest=>
    obtain⟨rfl,rfl⟩:=hcut;go_upto_region 8 with(fail)
    have aft_c3:=bF c3;refine bS (bV _) (λ_=>bV) [47] (λ_ v w=>XD vn wc v w) [10,14] [] 152 (cM _) (λ_ _ _ h Y=>bZ h Y) (λ_ d hd _ v w w' _ h Y=>h.keep Y) aV aV bK ?_;repeat (first|(refine fQ ?_)|(refine JT 47 [] bK bK bK bK (λγ w hC hT=>?_) ?_;(simp only[dG];go_simp;exact DD (aX w _) ⟨_,rfl,Below.size hC,HY.o w _⟩);(try refine dB ?_)))
    refine eL ?_;intro γ w5 hb5 hT;clear aft_c3;simp only[dG,Act.put,aaI,aaP,aaN];refine eT ?_;obtain⟨G,hv,hG,hsl⟩:=hT 47 aT;rw[hv];have HX5:=aP (C.o.2.1.below hb5);have HO5:=aP (HX5.o.1.own X);have HG5:=aP hsl;have HN:aH (x.bY.length=x.s.n):=(C.o.2.1.n x (aa1 X)).symm;have HEk:aH ((gs.map Gv.k)[i]?=some x.k):=by
     have h1:(qH o.rn [b0,b1,b2,b3] i (gs.map Gv.k))[i]?=some x.k:=by rw[<-C.o.1];simp[X]
     rw[O0] at h1;exact h1
    have hn6:x.s.n<=1000000:=by
     have h1:=HEk.o;rw[ab7] at h1;obtain⟨y,Q,he⟩:=Option.map_eq_some_iff.1 h1;have h2:=HL.o.2.2.1 y (aa1 Q) ((show y.has=x.has from congrArg Gc.has he).trans hh);rw[<-HN.o,<-show y.bY=x.bY from congrArg Gc.bY he];exact h2
    clear hT hv hsl hG HOw;refine bN w5 rfl (.tmp 45) (.tmp 47) rfl Lf fX (base:=0) (xs:=x.bY) HO5.o (n:=x.s.n) HN.o rfl (m:=1) rfl (ys:= [vn]) rfl HG5.o dT aQ (aaQ _) _ rfl (x.s.n+1) rfl ?_;intro A9 c9 w9 own9 hg9 at9;obtain⟨b9,f9,L⟩:=HX5.o.1.app X own9 hg9 at9 (n:=x.s.n+1) (by rw[aaT,HN.o];rfl);have L:=aP L;clear own9 hg9 at9 HO5 HG5 c0 c1 c2 c3 c4 o0 o1 hRd H;obtain⟨b9v,b9⟩:=b9;go_wp2_with fail
    simp only[iE];go_upto_region 9 with(fail)
    clear b9 f9;generalize w9.setCell (q,i *5+3) (.slice A9 (x.s.n+1) c9)=wd at *;have HKd:aH (Kp (Fb (Fb F q1) (q1+1)) w2 wd):=C.o.2.2.trans (HX5.o.2.trans L.o.2);obtain⟨rb,hrb⟩:∃rb,rb= [b0,b1,b2,b3].getD i false:=⟨_,rfl⟩
    have hRd:wd.cell? (q1,i)=some (.bool rb):=by
     have N:bC wd q1 116 #[b0,b1,b2,b3]:=HKd.o.aZ HG.o.2.1 (.inl (.inr rfl));refine N.cell i _ ?_;rw[hrb];rcases(show i=0\/i=1\/i=2\/i=3 by omega) with rfl|rfl|rfl|rfl <;> rfl
    have HRb:=aP hrb;obtain⟨x1,hx1⟩:∃x1:Gv,x1={x with s:=⟨A9,x.s.n+1,c9⟩,bY:=x.bY++ [vn]}:=⟨_,rfl⟩
    rw[<-hx1] at L;have hi4':i<p.length:=by rw[C.o.2.1.l];exact B
    have hg1:(p.set i x1)[i]?=some x1:=by rw[adC hi4']
    have d3:wd.cell? (q,i *5+3)=some (.slice A9 (x.s.n+1) c9):=L.o.1.c B (j:=3) aQ hg1 (by rw[hx1];rfl);have f4:=L.o.1.fz (i *5+4);have d4:=L.o.1.c B (j:=4) aQ hg1 rfl;have HX1:=aP hx1;have HG1:=bH hg1 hi4';clear hrb hg1 hi4' hx1;go_upto_if 55 with(fail)
    go_cut [] (λwx=>aH (∃I:Gv,gO (Fb (Fb F q1) (q1+1)) wx q (p.set i I)/\Kp (Fb (Fb F q1) (q1+1)) w2 wx/\I={x1 with since:=if rb then x.since else((x.s.n+1:Nat):Int)}))
    case first=>
     cases rb with
     |true=>
      go_wp2_with fail
      go_meet
      exact⟨x1,L.o.1,HKd.o,by rw[HX1.o];rfl⟩
     |false=>
      go_upto_region 10 with(fail)
      have aft_d3:=bF d3;refine bS (bV _) (λ_=>bV) [] (λ_ _ _=>True) [12] [] 152 (cM _) (λ_ _ _ h Y=>bZ h Y) (λ_ d hd _ v w w' _ h Y=>by cases hd) aV aV bK ?_;repeat refine fQ ?_
      refine eL ?_;intro γ w6 a1 hT;clear aft_d3;simp only[dG,Act.put,aaI,aaP,aaN];refine eT ?_;have t:=aP (L.o.1.below a1);have d4':=t.o.1.c B (j:=4) aQ HG1.o.1 rfl;have f4':=t.o.1.fz (i *5+4);clear d3 d4 f4 hRd a1 hT;go_wp2_with fail
      simp only[iE];go_wp2_with fail
      go_meet
      obtain⟨t1,t2⟩:=t.o.1.Zb HG1.o.1 ((x.s.n:Int)+1);rw[afH] at t1;exact⟨_,t1,HKd.o.trans (t.o.2.trans t2),aT⟩
    case rest=>
    obtain⟨I,h2,k2,e2⟩:=hcut.o;have O:(p.set i I)[i]?=some I:=by rw[adC HG1.o.2]
    have hs2:I.s.n=I.bY.length:=h2.n I (aa1 O);have hk2:I.k=K7 o.rn [b0,b1,b2,b3] i x.k:=by
     rw[e2,HX1.o];unfold K7 Gv.k;rw[aaK hh];simp only[Gc.mk.injEq,afT,and_true];exact⟨by rw[HRb.o,HN.o],by rw[HVn.o]⟩
    have hW2:UA I.k:=HL.o.2.2.2 I.k (aa1 (i:=i) (by rw[Cm _ _ _ B,HEk.o,hk2];rfl));have ht2:I.has=true:=by rw[e2,HX1.o];exact hh
    obtain⟨w1',w2',w3',w4'⟩:=hW2 ht2;have HWi:aH (∀W,aD wc wc W->aG prog 65 #[.agg #[I.bu,I.pe,true,(I.s.A,I.bY.length,I.s.c),I.since]] W λr w'=>r= .returned (.bool true)/\aD W.heap.size W w'):=λW hW=>S0 I.bu I.pe true I.s.c I.since W ((h2.row O).keep hW) w1' w2' w3' w4'
    have e0:wc.cell? (q,i *5)=some (.int .i64 I.bu):=h2.c B (j:=0) aQ O rfl;have e1:=h2.c B (j:=1) aQ O rfl;have e2':=h2.c B (j:=2) aQ O (v:= .bool true) (by rw[<-ht2];rfl);have e3:=h2.c B (j:=3) aQ O (v:= .slice I.s.A I.bY.length I.s.c) (by rw[<-hs2];rfl);have e4:=h2.c B (j:=4) aQ O rfl;have HE2:=cZ h2 k2 hk2;clear hcut h2 k2 e2 O hs2 hk2 hW2 ht2 w1' w2' w3' w4' L d3 d4 f4 hRd HX5 HKd;go_upto_region 11 with(fail)
    go_wp2_with(go_at_call 65;(refine aS (HWi.o _ (Below.refl _ _)) ?_);rintro r w11 ⟨rfl,hb11⟩)
    exact⟨⟨i+1,p.set i I,rfl,aQ,by rw[ab1];exact UD _ _ C.o.1 (x:=x.k) (by rw[C.o.1,O0];exact HEk.o) HE2.o.2.2,(HE2.o.1.below hb11).1,HE2.o.2.1.trans (HE2.o.1.below hb11).2⟩,by simp only[aL];omega⟩
  .obtain rfl:i=4:=aQ;rw[show((4:Nat):Int)=4 from rfl];have H:bC wr (q1+1) 79 #[o.rn.env,o.rn.ch,(o.S.A,o.S.n,o.S.c),(o.R.A,o.R.n,o.R.c),(o.W.A,o.W.n,o.W.c),(o.A.A,o.A.n,o.A.c),o.tk,o.nu,(o.T.A,o.T.n,o.T.c),o.st, .int .i64 o.x,o.y, .int .u64 o.z]:=C.o.2.2.aZ HG.o.2.2 (.inr rfl);have o0:=H.cell 0 o.rn.env rfl;have H:=aP H;have P:aH (Kp F w wr):=HK.o.trans (C.o.2.2.mono λb N=> .inl (.inl N));have HIn:=aP (λW=>AZ o.rn.env W);rcases HE.o with he|⟨e,he,E⟩
   .have HEv:=aP he;rw[he] at o0;have U:aH (∀W:aA,aG prog 19 #[.int .i64 (-1)] W λr w'=>r= .returned (.bool false)/\W=w'):=λW=>by have:=AZ (-1) W;exact this
    clear he HIn;go_upto_region 15 with(fail)
    go_loopw [12] (λv12 wr=>v12= .int .i64 0/\aH (gO (Fb (Fb F q1) (q1+1)) wr q p/\Kp (Fb (Fb F q1) (q1+1)) w2 wr)) (λ_ _=>0)
    case atStart=>exact⟨rfl,C.o.2⟩
    case round=>
     obtain⟨rfl,f⟩:=hrel;go_wp2_with(go_at_call 19;(refine aS (U.o _) ?_);rintro r w3 ⟨rfl,rfl⟩)
     go_ret
     exact⟨rfl,p,by rw[HEv.o];exact C.o.1,f.o.1.less λb N=> .inl (.inl N),HK.o.trans (f.o.2.mono λb N=> .inl (.inl N))⟩
   .have HEv:=aP he;rw[he] at o0;have U:aH (∀W:aA,aG prog 19 #[e] W λr w'=>r= .returned (.bool true)/\W=w'):=λW=>by
     have:=AZ e W;rw[abD (show 0<=(e:Int)/\(e:Int)<4 by omega)] at this;exact this
    have e0:(0:Int)<=e:=aQ;clear he HIn P H;generalize hZ:(DE xs o.rn.env).zip D=Z at *;have HZ:=aP hZ;clear hZ;go_upto_region 15 with(fail)
    clear o0;go_loopw [12] (λv12 wr=>∃(j:Nat) (g2:List Gv),v12= .int .i64 j/\j<=Z.length/\aH (g2.map Gv.k=(Z.take j).foldl (sH o.rn.env) (p.map Gv.k)/\gO (Fb (Fb F q1) (q1+1)) wr q g2/\Kp (Fb (Fb F q1) (q1+1)) w2 wr)) (λv12 _=>Z.length - (aL v12).toNat)
    case atStart=>exact⟨0,p,rfl,aaQ _,rfl,C.o.2⟩
    case round=>
     obtain⟨j,g2,rfl,hj,f⟩:=hrel;have P:aH (Kp F w wr):=HK.o.trans (f.o.2.2.mono λb N=> .inl (.inl N));have H:bC wr (q1+1) 79 #[o.rn.env,o.rn.ch,(o.S.A,o.S.n,o.S.c),(o.R.A,o.R.n,o.R.c),(o.W.A,o.W.n,o.W.c),(o.A.A,o.A.n,o.A.c),o.tk,o.nu,(o.T.A,o.T.n,o.T.c),o.st, .int .i64 o.x,o.y, .int .u64 o.z]:=f.o.2.2.aZ HG.o.2.2 (.inr rfl);have o2:=H.cell 2 (.slice o.S.A D.length o.S.c) (by rw[<-HD.o.2.2];rfl);clear H;by_cases Y:e<xs.length
     .have e1:(e:Int)<(xs.length:Int):=aQ;obtain⟨b,off,rfl,hc⟩:=(HX.o.1.xC P.o HX.o.2.1).cells Y;have hw:=HX.o.2.2 xs[e] (aaM Y);have hlz:=HL.o.1.2 xs[e] (aaM Y);have HWd:aH (DE xs o.rn.env=xs[e].xs):=by unfold aH DE;rw[HEv.o,aaK aQ,aaW,aaG Y]
      have z0:wr.cell? ⟨b,off+e,none⟩=some (.slice xs[e].A xs[e].xs.length xs[e].c):=by
       have:=hc 0 (.slice xs[e].A xs[e].xs.length xs[e].c) rfl;rwa [acI,aa3] at this
      clear hc;generalize xs[e]=z at *;obtain⟨zA,zc,zx⟩:=z;simp only at hw hlz z0 HWd;have HZ2:aH (zx.zip D=Z):=by unfold aH;rw[<-HZ.o,HWd.o]
      clear HWd;have HW:=aP hw;by_cases hz1:j<zx.length
      .have j1:(j:Int)<(zx.length:Int):=aQ;obtain⟨b2,off2,rfl,hc2⟩:=(HW.o.1.xC P.o HW.o.2.1).cells hz1;have u0:wr.cell? (b2,off2+j)=some (.int .u64 zx[j]):=by
        have:=hc2 0 (.int .u64 zx[j]) rfl;rwa [acI,aa3] at this
       clear hc2;by_cases hD1:j<D.length
       .have j2:(j:Int)<(D.length:Int):=aQ;have jz:(0:Int)<=j:=aQ;have jb:(j:Int)<1000000:=by have:=HL.o.2.1;omega
        obtain⟨b3,off3,hDA,hc3⟩:=(HD.o.1.kp P.o HD.o.2.1).cells hD1;rw[hDA] at o2;have d1:wr.cell? (b3,off3+j *2+1)=some (.int .i64 D[j].2):=hc3 1 (.int .i64 D[j].2) rfl;clear hc3 hDA;have hu:=HW.o.2.2 zx[j] (aaM hz1);have o8:aH (Z.take (j+1)=Z.take j++ [(zx[j],D[j])]/\j+1<=Z.length):=by
         rw[<-HZ2.o];have J:j<(zx.zip D).length:=by rw[List.length_zip];omega
         refine⟨?_,J⟩;rw[<-abS J,List.getElem_zip]
        generalize zx[j]=u at *;generalize D[j]=nd at *;obtain⟨nn,ee⟩:=nd;simp only at d1;have K:aH (∀g3:List Gv,g3.map Gv.k=sH (e:Int) (g2.map Gv.k) (u,(nn,ee))->g3.map Gv.k=(Z.take (j+1)).foldl (sH o.rn.env) (p.map Gv.k)):=λg3 h3=>by
         rw[o8.o.1,acQ,<-f.o.1,h3,HEv.o];rfl
        have M:aH (j+1<=Z.length):=o8.o.2;have HPr:=aP (λW=>PU u hu W);clear hw hu hlz;by_cases hr:sR u=true
        .have HP1:aH (∀W,aG prog 66 #[.int .u64 u] W λe w'=>e= .returned (.tuple #[.agg #[.int .i64 (nJ u), .int .i64 (aW u), .int .i64 (bW u), .int .i64 (cW u), .int .i64 (dW u)],true])/\aD W.heap.size W w'):=λW=>by
          have:=HPr.o W;rwa [aaK hr] at this
         have Hr:=aP hr;clear HPr hr;go_upto_region 18 with(first|(go_at_call 19;(refine aS (U.o _) ?_);rintro r w3 ⟨rfl,rfl⟩)|(go_at_call 66;(refine aS (HP1.o _) ?_);rintro r w3 ⟨rfl,V⟩))
         have a6:=V.alloc V.size (aI #[.int .i64 (nJ u), .int .i64 (aW u), .int .i64 (bW u), .int .i64 (cW u), .int .i64 (dW u)] 223);have BC:=bC.new w3 223 #[.int .i64 (nJ u), .int .i64 (aW u), .int .i64 (bW u), .int .i64 (cW u), .int .i64 (dW u)];replace o2:=bD a6 o2;replace d1:=bD a6 d1;have p0:=BC.cell 0 (.int .i64 (nJ u)) rfl;have p3:=BC.cell 3 (.int .i64 (cW u)) rfl;have p4:=BC.cell 4 (.int .i64 (dW u)) rfl;have a:=aP (f.o.2.1.below a6);have HBC:=aP BC;have hne:w3.heap.size≠q:=by have h1:=f.o.2.1.bk.lt;have h2:=V.size;omega
         have HNe:=aP hne;clear hne V a6 BC u0 z0;generalize w3.alloc (aI #[.int .i64 (nJ u), .int .i64 (aW u), .int .i64 (bW u), .int .i64 (cW u), .int .i64 (dW u)] 223)=w4 at *;generalize w3.heap.size=qc at *;by_cases hE:ee=0
         .subst hE;by_cases a7:nJ u=15
          .rw[a7] at p0;go_upto_region 20 with(fail)
           have aft_p3:=bF p3;have aft_p4:=bF p4;refine bS (bV _) (λ_=>bV) [] (λ_ _ _=>True) [12] [] 152 (cM _) (λ_ _ _ h Y=>bZ h Y) (λ_ d hd _ v w w' _ h Y=>by cases hd) aV aV bK ?_;repeat refine fQ ?_
           refine eL ?_;intro γ w6 a1 hT;clear aft_p3 aft_p4;simp only[dG,Act.put,aaI,aaP,aaN];refine eT ?_;have t:=aP (a.o.1.below a1);have q0:=bD a1 p0;clear hT a1 o2 d1 p0 p3 p4;obtain⟨yy,Q⟩:∃yy,g2[e]?=some yy:=⟨_,aaG (by rw[t.o.1.l];exact E)⟩
           have g0:w6.cell? (q,e *5)=some (.int .i64 yy.bu):=t.o.1.c E (j:=0) aQ Q rfl;have g1:=t.o.1.c E (j:=1) aQ Q rfl;have g2':=t.o.1.c E (j:=2) aQ Q rfl;have g3:=t.o.1.c E (j:=3) aQ Q rfl;have g4:=t.o.1.c E (j:=4) aQ Q rfl;have z0:=t.o.1.fz (e *5);have z1:=t.o.1.fz (e *5+1);have z2:=t.o.1.fz (e *5+2);have z3:=t.o.1.fz (e *5+3);have z4:=t.o.1.fz (e *5+4);clear Q;go_wp2_with fail
           simp only[iE];go_upto_region 21 with(fail)
           have h5:=t.o.1.QM E (cW u) (dW u) true;have q5:(((((w6.setCell (q,e *5) (.int .i64 (cW u))).setCell (q,e *5+1) (.int .i64 (dW u))).setCell (q,e *5+2) (.bool true)).setCell (q,e *5+3) (.slice none 0 0)).setCell (q,e *5+4) (.int .i64 0)).cell? (qc,0)=some (.int .i64 15):=by simp only[gN HNe.o];exact q0
           clear q0 g0 g1 g2' g3 g4 z0 z1 z2 z3 z4;generalize (((((w6.setCell (q,e *5) (.int .i64 (cW u))).setCell (q,e *5+1) (.int .i64 (dW u))).setCell (q,e *5+2) (.bool true)).setCell (q,e *5+3) (.slice none 0 0)).setCell (q,e *5+4) (.int .i64 0))=w7 at *;have H5:=aP h5;clear h5;go_wp2_with fail
           exact⟨⟨j+1,g2.set e ⟨cW u,dW u,true,nU,0, []⟩,rfl,M.o,K.o (g2.set e ⟨cW u,dW u,true,nU,0, []⟩) (by unfold sH;rw[aaK aQ,aaW,ab1];exact(vG λg=>by unfold IK;rw[aaK ⟨Hr.o,rfl⟩,aaK a7];rfl).symm),H5.o.1,f.o.2.2.trans (a.o.2.trans (t.o.2.trans H5.o.2))⟩,by simp only[aL];have:=M.o;omega⟩
          .by_cases h16:nJ u=16
           .rw[h16] at p0;obtain⟨yy,Q⟩:∃yy,g2[e]?=some yy:=⟨_,aaG (by rw[a.o.1.l];exact E)⟩
            have g0:w4.cell? (q,e *5)=some (.int .i64 yy.bu):=a.o.1.c E (j:=0) aQ Q rfl;have g1:=a.o.1.c E (j:=1) aQ Q rfl;have g2':=a.o.1.c E (j:=2) aQ Q rfl;have g3:=a.o.1.c E (j:=3) aQ Q rfl;have g4:=a.o.1.c E (j:=4) aQ Q rfl;have z0:=a.o.1.fz (e *5);have z1:=a.o.1.fz (e *5+1);have z2:=a.o.1.fz (e *5+2);have z3:=a.o.1.fz (e *5+3);have z4:=a.o.1.fz (e *5+4);clear Q;go_wp2_with fail
            have h5:=a.o.1.QM E 0 0 false;exact⟨⟨j+1,g2.set e ⟨0,0,false,nU,0, []⟩,rfl,M.o,K.o (g2.set e ⟨0,0,false,nU,0, []⟩) (by unfold sH;rw[aaK aQ,aaW,ab1];exact(vG λg=>by unfold IK;rw[aaK ⟨Hr.o,rfl⟩,aaL a7,aaK h16];rfl).symm),h5.1,f.o.2.2.trans (a.o.2.trans h5.2)⟩,by simp only[aL];have:=M.o;omega⟩
           .obtain⟨oo,hoo⟩:∃oo,nJ u=oo:=⟨_,rfl⟩
            rw[hoo] at p0;have h15':(oo==15)=false:=by rw[<-hoo];simpa using a7
            have h16':(oo==16)=false:=by rw[<-hoo];simpa using h16
            have H56:=bH a7 h16;clear a7 h16 hoo;go_wp2_with fail
            exact⟨⟨j+1,g2,rfl,M.o,K.o g2 (by unfold sH;rw[aaK aQ];exact(modify_id λg=>by unfold IK;rw[aaK ⟨Hr.o,rfl⟩,aaL H56.o.1,aaL H56.o.2]).symm),a.o.1,f.o.2.2.trans a.o.2⟩,by simp only[aL];have:=M.o;omega⟩
         .have hEb:(ee !=0)=true:=by simpa using hE
          have HE0:=aP hE;clear hE;go_wp2_with fail
          exact⟨⟨j+1,g2,rfl,M.o,K.o g2 (by unfold sH;rw[aaK aQ];exact(modify_id λg=>by unfold IK;rw[aaL (λh=>HE0.o h.2)]).symm),a.o.1,f.o.2.2.trans a.o.2⟩,by simp only[aL];have:=M.o;omega⟩
        .have HP1:aH (∀W,aG prog 66 #[.int .u64 u] W λe w'=>e= .returned (.tuple #[.agg #[aU,aU,aU,aU,aU],false])/\aD W.heap.size W w'):=λW=>by
          have:=HPr.o W;rwa [aaL hr] at this
         have Hr:=aP hr;clear HPr hr;go_wp2_with(first|(go_at_call 19;(refine aS (U.o _) ?_);rintro r w3 ⟨rfl,rfl⟩)|(go_at_call 66;(refine aS (HP1.o _) ?_);rintro r w3 ⟨rfl,V⟩))
         have a6:=V.alloc V.size (aI #[aU,aU,aU,aU,aU] 223);have a:=f.o.2.1.below a6;exact⟨⟨j+1,g2,rfl,M.o,K.o g2 (by unfold sH;rw[aaK aQ];exact(modify_id λg=>by unfold IK;rw[aaL (λh=>Hr.o h.1)]).symm),a.1,f.o.2.2.trans a.2⟩,by simp only[aL];have:=M.o;omega⟩
       .have j2:¬(j:Int)<(D.length:Int):=aQ;have J:j=Z.length:=by rw[<-HZ2.o] at hj⊢;rw[List.length_zip] at hj⊢;omega
        have HJ:=aP J;clear J;go_wp2_with(first|(go_at_call 19;(refine aS (U.o _) ?_);rintro r w3 ⟨rfl,rfl⟩))
        go_ret
        exact⟨rfl,g2,by have h1:=f.o.1;rw[HJ.o,acJ,C.o.1] at h1;rw[HZ.o];exact h1,f.o.2.1.less λb N=> .inl (.inl N),P.o⟩
      .have j1:¬(j:Int)<(zx.length:Int):=aQ;have J:j=Z.length:=by rw[<-HZ2.o] at hj⊢;rw[List.length_zip] at hj⊢;omega
       have HJ:=aP J;clear J;go_wp2_with(first|(go_at_call 19;(refine aS (U.o _) ?_);rintro r w3 ⟨rfl,rfl⟩))
       go_ret
       exact⟨rfl,g2,by have h1:=f.o.1;rw[HJ.o,acJ,C.o.1] at h1;rw[HZ.o];exact h1,f.o.2.1.less λb N=> .inl (.inl N),P.o⟩
     .have e1:¬(e:Int)<(xs.length:Int):=aQ;have J:j=Z.length:=by
       have h1:DE xs o.rn.env= []:=by unfold DE;rw[HEv.o,aaK aQ,aaW,abZ aQ]
       rw[<-HZ.o,h1] at hj⊢;simpa using hj
      have HJ:=aP J;clear J;go_wp2_with(first|(go_at_call 19;(refine aS (U.o _) ?_);rintro r w3 ⟨rfl,rfl⟩))
      go_ret
      exact⟨rfl,g2,by have h1:=f.o.1;rw[HJ.o,acJ,C.o.1] at h1;rw[HZ.o];exact h1,f.o.2.1.less λb N=> .inl (.inl N),P.o⟩
end
end
variable{z pe bu e t:Int}{v:Sv}
section
section
def kC(z pe:Int):Int:=max 0 (z /pe)
theorem vE(z pe:Int):0<=kC z pe:=by unfold kC;omega
theorem DC{y:Int}(hp:1<=pe)(h:z<=y):kC z pe<=kC y pe:=by
 have:=Int.ediv_le_ediv (show 0<pe by omega) h;unfold kC;omega
theorem QJ(hp:1<=pe)(h:z<pe):kC z pe=0:=by
 have:z /pe<1:=(aeF aQ).2 aQ;unfold kC;omega
theorem U3(hp:1<=pe)(h:0<=z):kC (z+pe) pe=kC z pe+1:=by
 have h1:=Int.add_ediv_of_dvd_right (a:=z) (b:=pe) (c:=pe) (Int.dvd_refl pe);rw[Int.ediv_self aQ] at h1;have d:=Int.ediv_nonneg h (show 0<=pe by omega);unfold kC;omega
theorem rX{a x y:Int}(b:0<=a)(h:x<=y):a *x<=a *y:=aeB h b
theorem NZ(h:1<=bu/\bu<=pe/\pe<=1048576)(b:0<=z):4294967296 *(bu *kC z pe)<=eC bu pe *z:=by
 have h1:4294967296 *bu<=eC bu pe *pe:=by
  unfold eC;obtain⟨x,c⟩:∃x,x=4294967296 *bu+pe - 1:=⟨_,rfl⟩
  rw[<-c];have e:=Int.emod_add_mul_ediv x pe;have f:=Int.emod_lt_of_pos x (show 0<pe by omega);have g:x /pe *pe=pe *(x /pe):=Int.mul_comm _ _;omega
 have hq:=Int.ediv_nonneg b (show 0<=pe by omega);have d:kC z pe=z /pe:=by unfold kC;omega
 have hm:z /pe *pe<=z:=Int.ediv_mul_le z aQ;have hs:=(zY h).1;rw[d];have i:4294967296 *(bu *(z /pe))=4294967296 *bu *(z /pe):=by rw[Int.mul_assoc]
 have j:=ad8 h1 hq;have k:eC bu pe *pe *(z /pe)=eC bu pe *(z /pe *pe):=by rw[Int.mul_assoc,Int.mul_comm pe]
 have l:=rX (a:=eC bu pe) aQ hm;omega
def tP(pe d:Int)(l:List Ck):Int:=(l.map λx=>x.lf *kC (d - x.de+pe) pe+x.us *kC (d - x.de) pe).sum
def qA(pe d:Int)(l:List Rl):Int:=(l.map λr=>r.am *kC (d - r.at_) pe).sum
def kY(v:Sv)(now d:Int):Int:=v.av *kC (d - now) v.pe+tP v.pe d v.ch+qA v.pe d v.rf
theorem rW(pe d:Int)(x:Ck)(l:List Ck):tP pe d (x::l)=x.lf *kC (d - x.de+pe) pe+x.us *kC (d - x.de) pe+tP pe d l:=by simp[tP]
theorem Ap(pe d:Int)(x:Ck)(l:List Ck):tP pe d (l++ [x])=tP pe d l+(x.lf *kC (d - x.de+pe) pe+x.us *kC (d - x.de) pe):=by simp[tP]
theorem E8(pe d:Int)(r:Rl)(l:List Rl):qA pe d (r::l)=r.am *kC (d - r.at_) pe+qA pe d l:=by simp[qA]
theorem M4(pe d:Int)(r:Rl)(l:List Rl):qA pe d (l++ [r])=qA pe d l+r.am *kC (d - r.at_) pe:=by simp[qA]
theorem U4{d:Int}{l:List Ck}(h:∀x∈l,1<=x.lf/\0<=x.us):0<=tP pe d l:=by
 induction l with
 |nil=>simp[tP]
 |cons x l a=>
  have h1:=h x aT;have c:=a λy b=>h y (by simp[b])
  have e:=adE (show 0<=x.lf by omega) (vE (d - x.de+pe) pe);have f:=adE h1.2 (vE (d - x.de) pe);rw[rW];omega
theorem TJ{d:Int}{l:List Rl}(h:∀r∈l,0<=r.am):0<=qA pe d l:=by
 induction l with
 |nil=>simp[qA]
 |cons x l a=>
  have h1:=h x aT;have c:=a λy b=>h y (by simp[b])
  have e:=adE h1 (vE (d - x.at_) pe);rw[E8];omega
theorem QX(h:qE v)(now d:Int):0<=kY v now d:=by
 have h1:=adE h.av (vE (d - now) v.pe);have a:=U4 (pe:=v.pe) (d:=d) h.ch;have b:=TJ (pe:=v.pe) (d:=d) h.rf;unfold kY;omega
theorem Mq(bu pe now d:Int):kY (lK bu pe) now d=bu *kC (d - now) pe:=by simp[kY,lK,tP,qA]
theorem NO(h:qE v){now:Int}(a:now<=e)(d:Int):kY v e d<=kY v now d:=by
 have:=h.bu;have h1:=rX h.av (DC (z:=d - e) (y:=d - now) (pe:=v.pe) aQ aQ);unfold kY;omega
theorem SM{now d:Int}(hp:1<=pe):∀(l:List Rl) (av:Int),(∀r∈l,0<=r.am)->(jL now av l).1 *kC (d - now) pe+qA pe d (jL now av l).2<=av *kC (d - now) pe+qA pe d l
 | [],av,_=>by simp[jL]
 |r::l,av,h=>by
  unfold jL;split
  .rename_i b;have h1:=SM (now:=now) (d:=d) hp l (av+r.am) λx a=>h x (by simp[a])
   have c:=rX (h r aT) (DC (z:=d - now) (y:=d - r.at_) hp aQ);rw[adU] at h1;rw[E8];omega
  .exact ab0 _
theorem Ov(h:qE v)(now d:Int):kY (iN now v) now d<=kY v now d:=by
 have:=h.bu;have h1:=SM (pe:=v.pe) (now:=now) (d:=d) aQ v.rf v.av h.rf;unfold kY iN;simp only;omega
theorem OK{now d:Int}(hp:1<=pe):∀(l:List Ck) (v:Sv),v.pe=pe->(∀x∈l,1<=x.lf/\0<=x.us/\x.de<=now+pe)->
 (l.foldl dS v).av *kC (d - now) pe+qA pe d (l.foldl dS v).rf<=v.av *kC (d - now) pe+qA pe d v.rf+tP pe d l
 | [],v,_,_=>by simp[tP]
 |x::l,v,hv,h=>by
  have e:=h x aT;have f:=rX (a:=x.lf) aQ (DC (z:=d - now) (y:=d - x.de+pe) hp aQ);have b:(dS v x).pe=pe:=by unfold dS gU;split <;> exact hv
  have h1:=OK (now:=now) (d:=d) hp l (dS v x) b λy c=>h y (by simp[c])
  rw[ac7,rW];have g:(dS v x).av *kC (d - now) pe+qA pe d (dS v x).rf=v.av *kC (d - now) pe+x.lf *kC (d - now) pe+qA pe d v.rf+x.us *kC (d - x.de) pe:=by
   unfold dS gU;split
   .rename_i hu;simp only;rw[hu,adU];omega
   .simp only;rw[M4,adU];simp only;omega
  omega
theorem Eh{now:Int}(h:mE now v)(e:0<=now)(rd:Bool)(d:Int):kY (dE v now rd) now d<=kY v now d:=by
 have hp:=h.pop e;have h1:=Ov h.b now d;have j:=h.b.bu;unfold dE;cases rd with
 |false=>
  simp only[abB,ab4];have k:=OK (pe:=v.pe) (now:=now) (d:=d) aQ v.ch (iN now v) rfl λx a=>⟨(hp.b.ch x a).1,(hp.b.ch x a).2,hp.cd x a⟩
  obtain⟨_,_,_,_,_,f,_⟩:=DN (T:=now) v.bu v.pe v.ch (iN now v) hp.b.av (λx a=>⟨(hp.b.ch x a).1,(hp.b.ch x a).2,hp.cd x a⟩) hp.rp hp.ro hp.b.ord hp.b.AF hp.b.all;have c:(iN now v).pe=v.pe:=rfl;have g:(iN now v).ch=v.ch:=rfl;have i:tP v.pe d []=0:=rfl;unfold kY at h1⊢;simp only;rw[f,c,i];rw[c,g] at h1;omega
 |true=>
  simp only[acY];split
  .refine Int.le_trans (Int.le_of_eq ?_) h1;unfold kY;simp only;rw[Ap];simp only;have c:(iN now v).pe=v.pe:=rfl;rw[c,show d - (now+v.pe)+v.pe=d - now by omega];omega
  .exact h1
theorem Nu(h:qE v){x:Ck}{xs:List Ck}(hs:v.ch=x::xs)(now d:Int)(hd:x.de<=d):kY (iW v) now d=kY v now d - 1:=by
 have c:=h.bu;have a:=U3 (z:=d - x.de) (pe:=v.pe) aQ aQ;have e:=h.ch x (by rw[hs];simp);unfold iW;rw[hs];simp only;split
 .rename_i h1;have b:x.lf=1:=aQ;unfold gU;rw[aaL (by simp only;omega)];unfold kY;simp only;rw[hs,rW,M4,b];simp only;rw[a,adU];omega
 .unfold kY;simp only;rw[hs,rW,rW];simp only;rw[a,adU,Int.sub_mul];omega
theorem QW{m:Int}:∀(l:List Rl) (a:Int),l.foldl (λa r=>max a r.at_) a<=m↔a<=m/\∀r∈l,r.at_<=m
 | [],a=>by simp
 |r::l,a=>by
  rw[ac7,QW l];constructor
  .intro⟨h1,c⟩;exact⟨aQ,λx b=>by
    rcases acD.1 b with rfl|b
    .omega
    .exact c x b⟩
  .intro⟨h1,c⟩;have:=c r aT;exact⟨aQ,λx b=>c x (by simp[b])⟩
theorem R8{m:Int}:∀(l:List Ck) (a:Int),sC a l<=m↔a<=m/\∀x∈l,0<x.us->x.de<=m
 | [],a=>by simp[sC]
 |x::l,a=>by
  have e:sC a (x::l)=sC (if 0<x.us then max a x.de else a) l:=rfl;rw[e,R8 l];constructor
  .intro⟨h1,c⟩;refine⟨by split at h1 <;> omega,λy b hu=>?_⟩;rcases acD.1 b with rfl|b
   .rw[aaK hu] at h1;omega
   .exact c y b hu
  .intro⟨h1,c⟩;refine⟨?_,λy b=>c y (by simp[b])⟩;split
   .rename_i hu;have:=c x aT hu;omega
   .exact h1
theorem tV{m:Int}:fF v<=m↔0<=m/\(∀r∈v.rf,r.at_<=m)/\∀x∈v.ch,0<x.us->x.de<=m:=by
 unfold fF wM;rw[R8,QW,and_assoc]
theorem JB{now:Int}:∀(l:List Rl) (av:Int),∀r∈l,r.at_<=now\/r∈(jL now av l).2
 | [],_,r,h=>by simp at h
 |x::l,av,r,h=>by
  unfold jL;split
  .rename_i a;rcases acD.1 h with rfl|h
   .exact .inl a
   .exact JB l _ r h
  .exact .inr h
theorem NU:∀(l:List Ck) (v:Sv),(∀r∈v.rf,r∈(l.foldl dS v).rf)/\∀x∈l,0<=x.us->0<x.us->∃r∈(l.foldl dS v).rf,r.at_=x.de
 | [],v=>⟨λr h=>h,λx h=>by simp at h⟩
 |y::l,v=>by
  rw[ac7];obtain⟨h1,c⟩:=NU l (dS v y);have d:∀r∈v.rf,r∈(dS v y).rf:=λr a=>by
   unfold dS gU;split
   .exact a
   .exact adZ _ a
  refine⟨λr a=>h1 r (d r a),λx b e hu=>?_⟩;rcases acD.1 b with rfl|b
  .refine⟨⟨x.de,x.us⟩,h1 _ ?_,rfl⟩;unfold dS gU;rw[aaL aQ];exact List.mem_append_right _ aT
  .exact c x b e hu
theorem W7{now:Int}(h:mE now v)(rd:Bool):fF v<=max (fF (dE v now rd)) now:=by
 have hm:=(tV (v:=dE v now rd) (m:=max (fF (dE v now rd)) now)).1 aQ;have f:now<=max (fF (dE v now rd)) now:=aQ;generalize max (fF (dE v now rd)) now=m at *;obtain⟨d,h1,a⟩:=hm;unfold dE at h1 a;cases rd with
 |false=>
  simp only[abB,ab4] at h1;obtain⟨f1,f2⟩:=NU v.ch (iN now v);refine tV.2 ⟨d,λr b=>?_,λx c hu=>?_⟩
  .rcases JB (now:=now) v.rf v.av r b with h|h
   .omega
   .exact h1 r (f1 r h)
  .obtain⟨r,b,e⟩:=f2 x c aQ hu;have:=h1 r b;omega
 |true=>
  simp only[acY] at h1 a;have key:(∀r∈(iN now v).rf,r.at_<=m)/\∀x∈v.ch,0<x.us->x.de<=m:=by
   split at h1
   .rename_i hp;rw[aaK hp] at a;exact⟨h1,λx c=>a x (adZ _ c)⟩
   .rename_i hp;rw[aaL hp] at a;exact⟨h1,a⟩
  refine tV.2 ⟨d,λr b=>?_,key.2⟩;rcases JB (now:=now) v.rf v.av r b with h|h
  .omega
  .exact key.1 r h
theorem Es(h:qE v){x:Ck}{xs:List Ck}(hs:v.ch=x::xs):fF v<=fF (iW v)/\x.de<=fF (iW v):=by
 have f:=h.ch x (by rw[hs];simp);obtain⟨d,h1,b⟩:=(tV (v:=iW v) (m:=fF (iW v))).1 (ab0 _);generalize fF (iW v)=m at *;unfold iW at h1 b;rw[hs] at h1 b;simp only at h1 b;split at h1
 .rename_i c;rw[aaK c] at b;unfold gU at h1;rw[aaL (by simp only;omega)] at h1;have hd:x.de<=m:=h1 ⟨x.de,x.us+1⟩ (List.mem_append_right _ aT);refine⟨tV.2 ⟨d,λr e=>h1 r (adZ _ e),λy a hu=>?_⟩,hd⟩;rw[hs] at a;rcases acD.1 a with rfl|a
  .exact hd
  .exact b y a hu
 .rename_i c;rw[aaL c] at b;have hd:x.de<=m:=b ⟨x.lf - 1,x.us+1,x.de⟩ aT (by simp only;omega);refine⟨tV.2 ⟨d,h1,λy a hu=>?_⟩,hd⟩;rw[hs] at a;rcases acD.1 a with rfl|a
  .exact hd
  .exact b y (by simp[a]) hu
theorem El{d:Int}(hp:1<=pe){l:List Ck}(h:∀x∈l,d<x.de):tP pe d l=0:=by
 induction l with
 |nil=>rfl
 |cons x l a=>
  have h1:=h x aT;rw[rW,a λy b=>h y (by simp[b]),QJ hp aQ,QJ hp aQ];omega
theorem YU{d:Int}(hp:1<=pe){l:List Rl}(h:∀r∈l,0<=r.am/\t<=r.at_):qA pe d l<=lA l *kC (d - t) pe:=by
 induction l with
 |nil=>simp[qA,lA]
 |cons r l a=>
  have h1:=h r aT;have c:=a λy b=>h y (by simp[b])
  have e:=rX h1.1 (DC (z:=d - r.at_) (y:=d - t) hp aQ);rw[E8,rN,adU];omega
theorem Av(h:qE v){d:Int}(hc:∀x∈v.ch,d<x.de)(b:∀r∈v.rf,t<=r.at_):kY v t d<=v.bu *kC (d - t) v.pe:=by
 have e:=h.bu;have h1:=El (pe:=v.pe) aQ hc;have f:=YU (pe:=v.pe) (d:=d) (t:=t) aQ λr a=>⟨h.rf r a,b r a⟩
 have g:=GI h.ch;have i:=h.all;have c:=ad8 (show v.av+lA v.rf<=v.bu by omega) (vE (d - t) v.pe);rw[adU] at c;unfold kY;omega
theorem Jp(h:qE v)(f:kY v t t<=0):∀x∈v.ch,t<x.de:=by
 intro x b;have j:=h.bu;apply aa4;intro k;have h1:=adE h.av (vE (t - t) v.pe);have m:=TJ (pe:=v.pe) (d:=t) h.rf;have key:∀l:List Ck,(∀y∈l,1<=y.lf/\0<=y.us)->x∈l->1<=tP v.pe t l:=λl=>by
  induction l with
  |nil=>intro _ b;simp at b
  |cons y l g=>
   intro e b;have i:=e y aT;have c:=U4 (pe:=v.pe) (d:=t) (l:=l) λz c=>e z (by simp[c])
   have g1:=adE (show 0<=y.lf by omega) (vE (t - y.de+v.pe) v.pe);have g2:=adE i.2 (vE (t - y.de) v.pe);rw[rW];rcases acD.1 b with rfl|b
   .have g3:=U3 (z:=t - x.de) (pe:=v.pe) aQ aQ;have g4:=vE (t - x.de) v.pe;have g5:=rX (a:=x.lf) aQ (show 1<=kC (t - x.de+v.pe) v.pe by omega);omega
   .have:=g (λz c=>e z (by simp[c])) b;omega
 have:=key v.ch h.ch b;unfold kY at f;omega
structure IQ(t:Int)(v:Sv):Prop where
 c:∀x∈v.ch,t<x.de/\x.de<t+v.pe
 r:∀r∈v.rf,t<=r.at_/\r.at_<t+v.pe
theorem TE{now:Int}:∀(l:List Rl) (av:Int),l.Pairwise (λx y=>x.at_<=y.at_)->∀r∈(jL now av l).2,now<r.at_
 | [],_,_,r,h=>by simp[jL] at h
 |x::l,av,hp,r,h=>by
  have a:=ac2.1 hp;unfold jL at h;split at h
  .exact TE l _ a.2 r h
  .rename_i b;rcases acD.1 h with rfl|h
   .omega
   .have:=a.1 r h;omega
theorem KU:∀(l:List Ck) (v:Sv),∀r∈(l.foldl dS v).rf,r∈v.rf\/∃x∈l,r.at_=x.de
 | [],v,r,h=> .inl h
 |y::l,v,r,h=>by
  rw[ac7] at h;rcases KU l (dS v y) r h with h|⟨x,a,e⟩
  .unfold dS gU at h;split at h
   .exact .inl h
   .rcases aa8.1 h with h|h
    .exact .inl h
    .rw[aaZ.1 h];exact .inr ⟨y,aT,rfl⟩
  .exact .inr ⟨x,by simp[a],e⟩
theorem IQ.begin(h:IQ t v)(hi:mE t v)(rd:Bool):(∀x∈(dE v t rd).ch,t<x.de/\x.de<=t+v.pe)/\∀r∈(dE v t rd).rf,t<r.at_/\r.at_<=t+v.pe:=by
 have f:=hi.b.bu;have hp:∀r∈(iN t v).rf,t<r.at_/\r.at_<=t+v.pe:=λr d=>⟨TE v.rf v.av hi.ro r d,by have:=(h.r r ((wP t v.rf v.av).subset d)).2;omega⟩
 have hc:∀x∈v.ch,t<x.de/\x.de<=t+v.pe:=λx a=>by have:=h.c x a;omega
 unfold dE;cases rd with
 |false=>
  simp only[abB,ab4];refine⟨aT,λr d=>?_⟩;rcases KU v.ch (iN t v) r d with d|⟨x,a,e⟩
  .exact hp r d
  .rw[e];exact hc x a
 |true=>
  simp only[acY];split
  .refine⟨λx a=>?_,hp⟩;rcases aa8.1 a with a|a
   .exact hc x a
   .rw[aaZ.1 a];exact⟨by simp only;omega,ab0 _⟩
  .exact⟨hc,hp⟩
theorem ZX{x:Ck}{xs:List Ck}(hs:v.ch=x::xs){p:Int->Prop}(hc:∀y∈v.ch,p y.de):∀y∈(iW v).ch,p y.de:=by
 have h1:=hc x (by rw[hs];simp);have b:∀y∈xs,p y.de:=λy a=>hc y (by rw[hs];simp[a])
 unfold iW;rw[hs];simp only;split
 .exact b
 .intro y a;rcases acD.1 a with rfl|a
  .exact h1
  .exact b y a
theorem Au{x:Ck}{xs:List Ck}(hs:v.ch=x::xs){p:Int->Prop}(h1:p x.de)(b:∀r∈v.rf,p r.at_):∀r∈(iW v).rf,p r.at_:=by
 unfold iW;rw[hs];simp only;split
 .unfold gU;split
  .exact b
  .intro r a;rcases aa8.1 a with a|a
   .exact b r a
   .rw[aaZ.1 a];exact h1
 .exact b
end
end
end Go.Proofs.YtacgiflhgdaeaaaGreat
