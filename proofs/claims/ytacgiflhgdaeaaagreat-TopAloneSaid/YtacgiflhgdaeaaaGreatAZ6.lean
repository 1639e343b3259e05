/- Texts laid as one. -/
import Derived.MapKept
import Derived.Maps.OwnSet
import Derived.Maps.OwnOps
import Derived.Test.YtacgiflhgdaeaaaGreatAZ1
import Derived.Test.YtacgiflhgdaeaaaGreatAZ5
set_option linter.unusedVariables false
set_option linter.unusedSimpArgs false
set_option maxRecDepth 100000
set_option maxHeartbeats 20000000
namespace Go.Proofs.YtacgiflhgdaeaaaGreat
open Go.Proofs.Tryz
open Go renaming World->aA,Value->aC,Addr->aJ,TypeId->aN,Program->aO,Calls->aG
open Go.RowKit renaming Hid->aH
open Go.Obj renaming cells->aI
section
open Go.RowKit Go.Lib Go.Shelf
variable{sz q g:Nat}{w:aA}{A:Option aJ}{cs:Array aC}{F:Nat->Prop}
section
theorem Im{base c:Nat}{A:Option aJ}{L:List Rl}(y:Rl)(V d:Nat)(w:aA)(own:bI tJ 2 w base 327 A c L)(hb:base<=w.heap.size)(hV:Sl tJ 2 w V [y])(hl:L.length<=4000000):
 aG prog 202 #[(A,L.length,c),L.length, .slice V 1 d] w λe w'=>∃(A':Option aJ) (c':Nat),e= .returned (.slice A' (L.length+1) c')/\bI tJ 2 w' base 327 A' c' (L++ [y])/\w.grownBy w' (aY A)/\(aY A'=aY A\/aY A'=some w.heap.size):=by
 have hcap:=own.cap;obtain⟨n,hn⟩:∃n,n=L.length:=⟨_,rfl⟩
 rw[<-hn] at hcap hl⊢;have HN:=aP hn.symm;have n0:(0:Int)<=n:=aQ;have n1:(n:Int)<=(c:Int):=aQ;clear hn;rcases own.shape with⟨rfl,h2,rfl⟩|⟨g,rfl⟩
 .obtain rfl:n=0:=by have:=HN.o;rw[h2] at this;simpa using this.symm
  go_enter func202,ntmps202
  go_wp2_with(at_builtin;refine bP w rfl (.tmp 23) (.tmp 24) rfl Gw pJ own (n:=0) HN.o rfl (m:=1) rfl (ys:= [y]) rfl hV dI aQ hb _ rfl 1 rfl ?_;intro A5 c5 w6 own6 hg6 at6;(have HW:=dA own6 hg6 at6);clear own6 hg6 at6)
  go_ret
  exact⟨A5,c5,rfl,HW.o.1,HW.o.2.1,HW.o.2.2⟩
 .by_cases hnc:c=n
  .subst hnc;go_enter func202,ntmps202
   go_wp2_with(at_builtin;refine bP w rfl (.tmp 23) (.tmp 24) rfl Gw pJ own (n:=c) HN.o rfl (m:=1) rfl (ys:= [y]) rfl hV dI aQ hb _ rfl (c+1) rfl ?_;intro A5 c5 w6 own6 hg6 at6;(have HW:=dA own6 hg6 at6);clear own6 hg6 at6)
   go_ret
   exact⟨A5,c5,rfl,HW.o.1,HW.o.2.1,HW.o.2.2⟩
  .go_enter func202,ntmps202
   go_wp2_with(at_builtin;refine bP w rfl (.tmp 23) (.tmp 24) rfl Gw pJ own (n:=n) HN.o rfl (m:=1) rfl (ys:= [y]) rfl hV dI aQ hb _ rfl (n+1) rfl ?_;intro A5 c5 w6 own6 hg6 at6;(have HW:=dA own6 hg6 at6);clear own6 hg6 at6)
   go_ret
   exact⟨A5,c5,rfl,HW.o.1,HW.o.2.1,HW.o.2.2⟩
structure Sv where
 bu:Int
 pe:Int
 nw:Int
 av:Int
 ch:List Ck
 rf:List Rl
 cg:Int
def yV(s:Sv)(A:Option aJ)(c:Nat)(B:Option aJ)(d:Nat):Array aC:=#[s.bu,s.pe,s.nw,s.av,(A,s.ch.length,c),(B,s.rf.length,d),s.cg]
structure gV(F:Nat->Prop)(w:aA)(g:Nat)(s:Sv)(A:Option aJ)(c:Nat)(B:Option aJ)(d:Nat):Prop where
 b:bF w g 303 (yV s A c B d)
 oA:bI yH 3 w (g+1) 329 A c s.ch
 oB:bI tJ 2 w (g+1) 327 B d s.rf
 fl:Ol F w
 fg:¬F g
 fA:∀q,aY A=some q->¬F q
 fB:∀q,aY B=some q->¬F q
def sI(F:Nat->Prop)(w:aA)(g:Nat)(s:Sv):Prop:=∃A c B d,gV F w g s A c B d
theorem qM{α:Type}{enc:α->List aC}{B c:Nat}{e:aN}{xs:List α}(h:bI enc sz w B e A c xs):∀q,aY A=some q->∃cs,bF w q e cs:=λq hq=>by
 rcases h.2 with⟨a,_⟩|⟨g,cap,cur,a,f,b,_⟩
 .injection a with a;rw[a] at hq;cases hq
 .injection a with a;rw[a] at hq;injection hq with hq;subst hq;exact⟨cur,b⟩
theorem QS{p:Nat}{t b:aN}{cs':Array aC}(h:bF w p t cs)(a:bF w q b cs')(f:t≠b):p≠q:=λe=>by
 subst e;unfold bF at h a;rw[h] at a;injection a with a;injection a with _ i;exact f i
section
variable{F:Nat->Prop}{w w':aA}{g c d:Nat}{s:Sv}{A B:Option aJ}
theorem gV.apart(h:gV F w g s A c B d):∀q,aY A=some q->aY B≠some q:=λq hq e=>by
 obtain⟨cs,h1⟩:=qM h.oA q hq;obtain⟨cs',a⟩:=qM h.oB q e;exact QS h1 a cC rfl
theorem gV.keep(h:gV F w g s A c B d)(hb:Below w w w'):gV F w' g s A c B d:=⟨h.b.keep hb,h.oA.keep hb,h.oB.keep hb,h.fl.kp (h.fl.below hb),h.fg,h.fA,h.fB⟩
theorem sZ{α:Type}{enc:α->List aC}{e:aN}{xs:List α}(h:bI enc sz w (g+1) e A c xs):aY A=none\/aY A≠some g:= .inr λe=>by have:=(h.lt g e).1;omega
theorem gV.cells(h:gV F w g s A c B d){s':Sv}(hc:s'.ch=s.ch)(b:s'.rf=s.rf)(a:w.grownBy w' (some g))(hb:bF w' g 303 (yV s' A c B d)):gV F w' g s' A c B d/\Kp F w w':=by
 have k:=h.fl.self h.fg a;exact⟨⟨hb,by rw[hc];exact h.oA.kept a (sZ h.oA),by rw[b];exact h.oB.kept a (sZ h.oB),h.fl.kp k,h.fg,h.fA,h.fB⟩,k⟩
end
theorem MW{s:Sv}(h:sI F w g s)(hl:s.ch.length<=4000000):aG prog 116 #[.pointer g] w λe w'=>e= .returned (match s.ch with| []=> .tuple #[aU,false]|x::_=> .tuple #[x.de,true])/\w=w':=by
 obtain⟨A,c,B,d,h⟩:=h;have c3:=h.b.cell 4 (.slice A s.ch.length c) rfl;cases a:s.ch with
 |nil=>
  rw[a] at c3;simp only[abM] at c3;clear h;go_enter func116,ntmps116
  go_wp2_with fail
  go_ret2
  exact⟨rfl,rfl⟩
 |cons x xs=>
  have f:=h.oA;rw[a] at c3 f hl;simp only[aa9] at c3 hl;obtain⟨q,rfl⟩:∃q,A=some ⟨q,0,none⟩:=by
   rcases f.shape with⟨_,k,_⟩|k
   .cases k
   .exact k
  have d2:w.cell? ⟨q,2,none⟩=some (.int .i64 x.de):=by simpa using bM kZ f (i:=0) aT (j:=2) (v:= .int .i64 x.de) rfl
  have n0:(0:Int)<(xs.length:Int)+1:=aQ;clear h f a;generalize xs.length=n at *;go_enter func116,ntmps116
  go_wp2_with fail
  go_ret2
  exact⟨rfl,rfl⟩
theorem OC(w:aA):aG prog 116 #[pH] w λe w'=>e= .returned (.tuple #[aU,false])/\w=w':=by
 go_enter func116,ntmps116
 go_wp2_with fail
 go_ret2
 exact⟨rfl,rfl⟩
end
variable{v:aC}{w' w6:aA}{d n:Nat}{B A6:Option aJ}
section
def mW(s:Sv)(x:Ck):Sv:=if x.us=0 then s else {s with rf:=s.rf++ [⟨x.de,x.us⟩]}
def XK(y:Rl)(N:Nat)(v:aC)(w:aA):Prop:=∃G,v= .slice (some ⟨G,0,none⟩) 1 1/\N<=G/\Sl tJ 2 w (some ⟨G,0,none⟩) [y]
theorem XK.keep{y:Rl}(h:XK y g v w)(a:bS w w'):XK y g v w':=by obtain⟨G,h1,b,c⟩:=h;exact⟨G,h1,b,c.keep a⟩
def Rg(F:Nat->Prop)(g:Nat)(v:aC)(s:Sv)(w:aA)(e:Ending)(w':aA):Prop:=e= .returned v/\sI F w' g s/\Kp F w w'
theorem gV.OW{c c6:Nat}{s:Sv}{y:Rl}(h:gV F w g s A c B d)(o:n=s.rf.length)(a:bI tJ 2 w6 (g+1) 327 A6 c6 (s.rf++ [y]))(j:w.grownBy w6 (aY B))(k:aY A6=aY B\/aY A6=some w.heap.size):
 gV F (w6.setCell (g,5) (.slice A6 (n+1) c6)) g {s with rf:=s.rf++ [y]} A c A6 c6/\Kp F w (w6.setCell (g,5) (.slice A6 (n+1) c6)):=by
 have l:Kp F w w6:=Kp.grown j λb hb=>⟨h.fl b hb,λe=>h.fB b e.symm hb⟩
 have p:=h.b.grown j (λe=>by have:=(h.oB.lt g e.symm).1;omega);have i:bI yH 3 w6 (g+1) 329 A c s.ch:=h.oA.kept j (by
  cases hb:aY A with
  |none=>exact .inl rfl
  |some q=>right;intro e;exact h.apart q hb e.symm)
 have f:=aZ (bK w6 g) 5 (.slice A6 (n+1) c6);have m:Kp F w6 (w6.setCell (g,5) (.slice A6 (n+1) c6)):=(h.fl.kp l).self h.fg f;refine⟨⟨?_,i.kept f (sZ i),a.kept f (sZ a),(h.fl.kp l).kp m,h.fg,h.fA,λq hq hF=>?_⟩,l.trans m⟩
 .have:=p.bX 5 (.slice A6 (n+1) c6);subst o;simpa[yV] using this
 .rcases k with e|e
  .exact h.fB q (e ▸ hq) hF
  .rw[e] at hq;injection hq with hq;have:=h.fl q hF;omega
theorem XZ{c:Nat}{s:Sv}(h:gV F w g s A c B d)(x:Ck)(I:∀r∈s.rf,r.at_<=x.de)(hl:s.rf.length<=3000000):
 aG prog 155 #[.pointer g, .agg #[x.lf,x.us,x.de]] w λe w'=>e= .returned (.tuple #[])/\(∃B' d',gV F w' g (mW s x) A c B' d')/\Kp F w w':=by
 have q:=bF.new w 329 #[x.lf,x.us,x.de];have h1:=h.keep (aX w (aI #[x.lf,x.us,x.de] 329));have D:=h.fl.below (aX w (aI #[x.lf,x.us,x.de] 329));by_cases hu:x.us=0
 .have J:aH (mW s x=s):=by unfold aH mW;rw[Zz hu]
  have u:=q.cell 1 x.us rfl;have xu:(x.us==0)=true:=by simp[hu]
  have HD:=bN h1 D;clear h1 D q hu h I;go_enter func155,ntmps155
  go_wp2_with fail
  refine bodyPost_ret (v:= .tuple #[]) (by simp[results,results155,go_sem]) rfl ?_;exact⟨rfl,by rw[J.o];exact⟨B,d,HD.o.1⟩,HD.o.2⟩
 .have J:aH (mW s x={s with rf:=s.rf++ [⟨x.de,x.us⟩]}):=by unfold aH mW;rw[aaA hu]
  have E:=aP (UK B s.rf d x.de w.heap.size _ (h1.oB.sl pJ) aQ (q.cell 2 _ rfl));have hp:JB s.rf x.de= -1:=by
   unfold JB;rw[abH.2 (λr hr=>by have:=I r hr;simp;omega)]
  rw[hp] at E;have u:=q.cell 1 x.us rfl;have c5:=h1.b.cell 5 (.slice B s.rf.length d) rfl;have xu:(x.us==0)=false:=by simpa using hu
  have HD:=dA h1 D q;obtain⟨n,L⟩:∃n,n=s.rf.length:=⟨_,rfl⟩
  rw[<-L] at E c5 hl;have M:=aP L;clear h1 D q hu h I L hp;go_enter func155,ntmps155
  go_upto_region 1 with(fail)
  generalize w.alloc (aI #[x.lf,x.us,x.de] 329)=w1 at *;generalize w.heap.size=xq at *;go_wp2_with fail
  refine aR E ?_;rintro e w2 ⟨rfl,hb⟩;replace c5:=bG hb c5;have T:=(HD.o.2.2.keep hb).cell 2 x.de rfl;replace u:=bG hb u;have l:=bN (HD.o.1.keep hb) (HD.o.2.1.trans (HD.o.1.fl.below hb));clear hb E HD;obtain⟨y,N⟩:∃y:Rl,y=⟨x.de,x.us⟩:=⟨_,rfl⟩
  have U:aH (∀(W:aA) t,Sl tJ 2 (W.alloc (.cells #[x.de,x.us] t)) (some ⟨W.heap.size,0,none⟩) [y]):=λW t=>Sl.new pJ W y _ (by rw[N];rfl) t
  have O:=aP N;clear N;go_upto_region 5 with(fail)
  have a:=bD u;have f:=bD T;have i:=bD c5;refine bO (bS _) (λ_=>bS) [32] (λ_ v w=>XK y w2 v w) [12,15] [[12,11,10,7], [12,11,10,9]] 36 (bY _) (λ_ _ _ h P=>bU h P) (λ_ d hd _ v w w' _ h P=>h.keep P) aV aV bL ?_;repeat (first|(refine eA ?_)|(refine uG 32 [] bL bL bL bL (λγ w hC Q=>?_) ?_;(simp only[cO];go_simp;exact p5 (aX w _) ⟨_,rfl,Below.size hC,U.o w _⟩);(try refine dE ?_)))
  refine dC ?_;intro γ w5 m Q;clear a f i;simp only[cO,Act.put,Zx,aaE,aaD];refine dP ?_;obtain⟨G,V,hG,z⟩:=Q 32 aT;rw[V];have H:=l.o.1.keep m;have R:=Im y G 1 w5 H.oB (by have:=H.b.lt;omega) z (by rw[<-M.o];omega);rw[<-M.o] at R;have S:=aP R;have j:=bN H (l.o.2.trans (l.o.1.fl.below m));clear V Q U c5 u T H m z R;refine wpList_plain rfl (λK hK=>?_);go_wp2_with fail
  refine aR S ?_;rintro e X ⟨A6,c6,rfl,k,p,C⟩;refine hK _ _ ?_;clear hK K;try refine dE ?_
  have Y:=j.o.1.b.grown p (λe=>by have:=(j.o.1.oB.lt g e.symm).1;omega);refine dS X rfl 301 _ _ rfl g 5 (.slice A6 (n+1) c6) rfl rfl aV rfl (Y.one (by simp[yV])) ?_;refine cI ?_;try simp only[Act.put]
  obtain⟨m1,m2⟩:=j.o.1.OW M.o k p C;have Z:=bN m1 (j.o.2.trans m2);generalize X.setCell (g,5) (.slice A6 (n+1) c6)=w7 at *;clear m1 m2 k p C Y;go_wp2_with fail
  go_end0
  exact⟨rfl,by rw[J.o,<-O.o];exact⟨_,_,Z.o.1⟩,Z.o.2⟩
theorem Gl{s:Sv}(h:sI F w g s)(x:Ck)(a:∀r∈s.rf,r.at_<=x.de)(hl:s.rf.length<=3000000):
 aG prog 155 #[.pointer g, .agg #[x.lf,x.us,x.de]] w (Rg F g (.tuple #[]) (mW s x) w):=by
 obtain⟨A,c,B,d,h⟩:=h;exact(XZ h x a hl).mono λe w' ⟨h1,⟨f,i,b⟩,h3⟩=>⟨h1,⟨_,_,_,_,b⟩,h3⟩
end
variable{j:Nat}{w5:aA}
section
section
variable{F:Nat->Prop}{w:aA}{g q c d:Nat}{s:Sv}{B:Option aJ}{x:Ck}{xs:List Ck}
structure Yx(w:aA)(g q c:Nat)(x:Ck)(n:Nat):Prop where
 c4:w.cell? (g,4)=some (.slice q (n+1) c)
 d0:w.cell? (q,0)=some (.int .i64 x.lf)
 d1:w.cell? (q,1)=some (.int .i64 x.us)
 d2:w.cell? (q,2)=some (.int .i64 x.de)
 f0:w.frozen? (q,0)=false
 f1:w.frozen? (q,1)=false
theorem gV.hd(h:gV F w g s q c B d)(hs:s.ch=x::xs):Yx w g q c x xs.length:=by
 have a:=h.oA;rw[hs] at a;have e:=a.cap;simp only[aa9] at e;refine⟨?_,?_,?_,?_,(cZ a 0 aQ).2,(cZ a 1 aQ).2⟩
 .have:=h.b.cell 4 (.slice q s.ch.length c) rfl;rw[hs] at this;exact this
 .simpa using bM kZ a (i:=0) aT (j:=0) (v:= .int .i64 x.lf) rfl
 .simpa using bM kZ a (i:=0) aT (j:=1) (v:= .int .i64 x.us) rfl
 .simpa using bM kZ a (i:=0) aT (j:=2) (v:= .int .i64 x.de) rfl
theorem gV.head(h:gV F w g s q c B d)(hs:s.ch=x::xs)(n:j<3)(a:Ck)(v:aC)(o:yH a=(yH x).set j v):gV F (w.setCell (q,j) v) g {s with ch:=a::xs} (some ⟨q,0,none⟩) c B d/\Kp F w (w.setCell (q,j) v):=by
 have m:=h.oA;rw[hs] at m;obtain⟨h1,f⟩:=qO kZ.len m (i:=0) aT n a v o;simp only[adO,aa8,aaE] at h1 f;have k:=h.fl.self (h.fA q rfl) f;have l:g≠q:=λe=>by have t:=(h.oA.lt q rfl).1;omega
 refine⟨⟨?_,h1,h.oB.kept f ?_,h.fl.kp k,h.fg,h.fA,h.fB⟩,k⟩
 .have:=h.b.rU (p:=⟨q,j,none⟩) l v;simpa[yV,hs] using this
 .cases hb:aY B with
  |none=>exact .inl rfl
  |some r=>right;intro e;exact h.apart q rfl (by rw[hb];exact e)
theorem gV.Ub(h:gV F w g s q c B d)(v:Int):gV F (w.setCell (g,6) v) g {s with cg:=v} (some ⟨q,0,none⟩) c B d/\Kp F w (w.setCell (g,6) v):=
 h.cells (s':={s with cg:=v}) rfl rfl (aZ (bK w g) 6 _) (by have:=h.b.bX 6 v;simpa[yV] using this)
end
theorem gV.cut{c:Nat}{s:Sv}{xs:List Ck}(h:gV F w g s q c B d)(o:n=xs.length)(a:bI yH 3 w5 (g+1) 329 q c xs)(j:w.grownBy w5 (some q)):
 gV F (w5.setCell (g,4) (.slice q n c)) g {s with ch:=xs} (some ⟨q,0,none⟩) c B d/\Kp F w (w5.setCell (g,4) (.slice q n c)):=by
 subst o;have k:Kp F w w5:=h.fl.self (h.fA q rfl) j;have l:g≠q:=λe=>by have t:=(h.oA.lt q rfl).1;omega
 have p:=h.b.grown j (λe=>l (by injection e));have i:bI tJ 2 w5 (g+1) 327 B d s.rf:=h.oB.kept j (by
  cases hb:aY B with
  |none=>exact .inl rfl
  |some r=>right;intro e;exact h.apart q rfl (by rw[hb];exact e))
 have f:=aZ (bK w5 g) 4 (.slice q xs.length c);have m:=(h.fl.kp k).self h.fg f;exact⟨⟨by have:=p.bX 4 (.slice q xs.length c);simpa[yV] using this,a.kept f (sZ a),i.kept f (sZ i),(h.fl.kp k).kp m,h.fg,h.fA,h.fB⟩,k.trans m⟩
theorem Ig(s:Sv)(x:Ck):(mW s x).ch=s.ch:=by unfold mW;split <;> rfl
def CG(s:Sv):Sv:=match s.ch with
 | []=>s
 |x::xs=>if x.lf - 1=0 then {mW {s with ch:=⟨x.lf - 1,x.us+1,x.de⟩::xs,cg:=s.cg+1} ⟨x.lf - 1,x.us+1,x.de⟩ with ch:=xs} else {s with ch:=⟨x.lf - 1,x.us+1,x.de⟩::xs,cg:=s.cg+1}
theorem Gd{s:Sv}{x:Ck}{xs:List Ck}(h:sI F w g s)(hs:s.ch=x::xs)(J:∀r∈s.rf,r.at_<=x.de)(hl:s.rf.length<=3000000)(t:s.ch.length<=3000000)
 (b1:1<=x.lf/\x.lf<=1048576) (b2:0<=x.us/\x.us<=1048576) (b3:0<=s.cg/\s.cg<=1048576):
 aG prog 114 #[.pointer g] w (Rg F g (.bool true) (CG s) w):=by
 obtain⟨A,c,B,d,h⟩:=h;obtain⟨q,rfl⟩:∃q,A=some ⟨q,0,none⟩:=by
  rcases h.oA.shape with⟨_,f,_⟩|f
  .rw[f] at hs;cases hs
  .exact f
 have V:=h.hd hs;obtain⟨m1,K⟩:=h.head hs (j:=0) aQ ⟨x.lf - 1,x.us,x.de⟩ (.int .i64 (x.lf - 1)) rfl;have h1:=m1.hd rfl;obtain⟨m2,L⟩:=m1.head rfl (j:=1) aQ ⟨x.lf - 1,x.us+1,x.de⟩ (.int .i64 (x.us+1)) rfl;have f:=m2.b.cell 6 s.cg rfl;obtain⟨m3,M⟩:=m2.Ub (s.cg+1);have N:=m3.hd rfl;have G:xs.length+1<=3000000:=by rw[hs] at t;exact t
 have O:aH (CG s=if x.lf - 1=0 then {mW {s with ch:=⟨x.lf - 1,x.us+1,x.de⟩::xs,cg:=s.cg+1} ⟨x.lf - 1,x.us+1,x.de⟩ with ch:=xs} else {s with ch:=⟨x.lf - 1,x.us+1,x.de⟩::xs,cg:=s.cg+1}):=by unfold aH CG;rw[hs]
 have P:=aP (Gl (s:={s with ch:=⟨x.lf - 1,x.us+1,x.de⟩::xs,cg:=s.cg+1}) ⟨_,_,_,_,m3⟩ ⟨x.lf - 1,x.us+1,x.de⟩ J hl);have E:=bN m3 ((K.trans L).trans M);obtain⟨a0,i,a2,a3,a4,a5⟩:=V;have f6:=m2.b.frozen 6;have n0:(0:Int)<(xs.length:Int)+1:=aQ;have H1:=aP h1;have W:=aP f;have Q:=aP N;have X:=aP f6;clear h m1 m2 m3 K L M h1 f N J hs hl t f6;obtain⟨n,H⟩:∃n,n=xs.length:=⟨_,rfl⟩
 rw[<-H] at a0 H1 Q n0 G;have k:=aP H;clear H;go_enter func114,ntmps114
 go_upto_region 4 with(fail)
 generalize w.setCell ⟨q,0,none⟩ (.int .i64 (x.lf - 1))=Y at *;clear a0 i a2 a3 a4 a5;obtain⟨a0,i,a2,a3,a4,a5⟩:=H1.o;simp only at i a2 a3;go_upto_region 5 with(fail)
 generalize Y.setCell ⟨q,1,none⟩ (.int .i64 (x.us+1))=Z at *;clear a0 i a2 a3 a4 a5;have a6:=W.o;have a7:=X.o;go_upto_region 6 with(fail)
 generalize Z.setCell (g,6) (.int .i64 (s.cg+1))=w3 at *;clear a6 a7;obtain⟨a0,i,a2,a3,a4,a5⟩:=Q.o;simp only at i a2 a3;by_cases z:x.lf - 1=0
 .have z1:(x.lf - 1==0)=true:=by simp[z]
  have u:=O.o;rw[Zz z] at u;have v:=aP u;clear u z;go_wp2_with fail
  refine aR P ?_;rintro e I ⟨rfl,⟨A4,c4,B4,d4,m4⟩,R⟩;have a:=Ig {s with ch:=⟨x.lf - 1,x.us+1,x.de⟩::xs,cg:=s.cg+1} ⟨x.lf - 1,x.us+1,x.de⟩;simp only at a;generalize mW {s with ch:=⟨x.lf - 1,x.us+1,x.de⟩::xs,cg:=s.cg+1} ⟨x.lf - 1,x.us+1,x.de⟩=s4 at *;obtain⟨m,rfl⟩:∃q,A4=some ⟨q,0,none⟩:=by
   rcases m4.oA.shape with⟨_,f,_⟩|f
   .rw[f] at a;cases a
   .exact f
  have S:=m4.hd a;rw[<-k.o] at S;have y:=m4.oA;rw[a] at y;have T:aG prog 156 #[.slice m (n+1) c4,aU, .int .i64 1] I λe w'=>e= .returned (.slice m n c4)/\bI yH 3 w' (g+1) 329 m c4 xs/\I.grownBy w' (some m):=by
   have:=Vr.lX m c4 0 xs.length (g+1) (⟨x.lf - 1,x.us+1,x.de⟩::xs) I y bT (by have:=k.o;simp;omega);rw[k.o];simpa using this
  have HD:=aP T;have C:=bN m4 (E.o.2.trans R);clear T m4 R y P E a0 i a2 a3 a4 a5;obtain⟨a0,i,a2,a3,a4,a5⟩:=S;go_wp2_with fail
  refine aR HD ?_;rintro e w5 ⟨rfl,p,l⟩;obtain⟨m6,U⟩:=C.o.1.cut k.o p l;have f4:=(C.o.1.b.grown l (λe=>by have h9:=(C.o.1.oA.lt m rfl).1;injection e with e;omega)).frozen 4;have c4':=(C.o.1.b.grown l (λe=>by have h9:=(C.o.1.oA.lt m rfl).1;injection e with e;omega)).cell 4 (.slice m s4.ch.length c4) rfl;have D:=bN m6 (C.o.2.trans U);clear m6 U p l a0 i a2 a3 a4 a5;go_wp2_with fail
  go_ret
  exact⟨rfl,by rw[v.o];exact⟨_,_,_,_,D.o.1⟩,D.o.2⟩
 .have z1:(x.lf - 1==0)=false:=by simpa using z
  have u:=O.o;rw[aaA z] at u;have v:=aP u;clear u z;go_wp2_with fail
  go_ret
  exact⟨rfl,by rw[v.o];exact⟨_,_,_,_,E.o.1⟩,E.o.2⟩
end
end
section
def qY(now:Int):Int->List Rl->Int×List Rl
 |av, []=>(av, [])
 |av,r::rs=>if r.at_<=now then qY now (av+r.am) rs else(av,r::rs)
def uD(now:Int)(s:Sv):Sv:={s with nw:=now,av:=(qY now s.av s.rf).1,rf:=(qY now s.av s.rf).2}
def iE(s:Sv)(x:Ck):Sv:=mW {s with av:=s.av+x.lf} x
def kH(s:Sv)(now:Int)(ready:Bool):Sv:=
 if ready then(if 0<(uD now s).av then {uD now s with ch:=(uD now s).ch++ [⟨(uD now s).av,0,now+s.pe⟩],av:=0} else uD now s)
 else {s.ch.foldl iE (uD now s) with ch:= []}
def oX(l:List Rl):Int:=(l.map Rl.am).sum
def r8(l:List Ck):Int:=(l.map λx=>x.lf+x.us).sum
structure PX(s:Sv):Prop where
 av:0<=s.av
 ch:∀x∈s.ch,1<=x.lf/\0<=x.us
 rf:∀r∈s.rf,0<=r.am
 all:s.av+r8 s.ch+oX s.rf=s.bu
 bu:1<=s.bu/\s.bu<=s.pe/\s.pe<=1048576
 ord:s.ch.Pairwise λx y=>x.de<=y.de
 BI:∀r∈s.rf,∀x∈s.ch,r.at_<=x.de
theorem zY(r:Rl)(l:List Rl):oX (r::l)=r.am+oX l:=by simp[oX]
theorem D2(r:Rl)(l:List Rl):oX (l++ [r])=oX l+r.am:=by simp[oX]
theorem oD(x:Ck)(l:List Ck):r8 (x::l)=x.lf+x.us+r8 l:=by simp[r8]
theorem Z8(x:Ck)(l:List Ck):r8 (l++ [x])=r8 l+(x.lf+x.us):=by simp[r8]
theorem F7{l:List Rl}(h:∀r∈l,0<=r.am):0<=oX l:=by
 induction l with
 |nil=>simp[oX]
 |cons r l a=>
  have:=h r aT;have:=a λr b=>h r (by simp[b])
  rw[zY];omega
theorem MC{l:List Ck}(h:∀x∈l,1<=x.lf/\0<=x.us):0<=r8 l:=by
 induction l with
 |nil=>simp[r8]
 |cons r l a=>
  have:=h r aT;have:=a λr b=>h r (by simp[b])
  rw[oD];omega
theorem UG{now:Int}:∀{l:List Rl} {av:Int},(∀r∈l,0<=r.am)->0<=av->0<=(qY now av l).1/\(qY now av l).1+oX (qY now av l).2=av+oX l/\(∀r∈(qY now av l).2,r∈l)/\(qY now av l).2.length<=l.length
 | [],av,_,h=>⟨h,rfl,λr a=>a,Zw _⟩
 |r::l,av,a,h=>by
  have d:=a r aT;unfold qY;split
  .obtain⟨h1,e,f,g⟩:=UG (now:=now) (l:=l) (av:=av+r.am) (λr b=>a r (by simp[b])) aQ;refine⟨h1,?_,λx c=>by simp[f x c],bT⟩;rw[e,zY];omega
  .exact⟨h,rfl,λx c=>c,Zw _⟩
theorem PX.pop{s:Sv}(h:PX s)(now:Int):PX (uD now s):=by
 obtain⟨h1,d,b,_⟩:=UG (now:=now) h.rf h.av;have:=h.all;exact⟨h1,h.ch,λr a=>h.rf r (b r a),by simp only[uD];omega,h.bu,h.ord,λr a x c=>h.BI r (b r a) x c⟩
structure EI(s:Sv)(s':Sv)(k:Nat):Prop where
 eq:s'=(s.ch.take k).foldl iE s
 ch:s'.ch=s.ch
 av:0<=s'.av
 rf:∀r∈s'.rf,0<=r.am
 sum:s'.av+r8 (s.ch.drop k)+oX s'.rf=s.bu
 BI:∀r∈s'.rf,∀x∈s.ch.drop k,r.at_<=x.de
 len:s'.rf.length<=s.rf.length+k
theorem EI.zero{s:Sv}(h:PX s):EI s s 0:=⟨rfl,rfl,h.av,h.rf,h.all,h.BI,Zw _⟩
theorem EI.step{s s':Sv}{k:Nat}(h:PX s)(f:EI s s' k)(hk:k<s.ch.length):EI s (iE s' s.ch[k]) (k+1):=by
 have hd:s.ch.drop k=s.ch[k]::s.ch.drop (k+1):=acR hk;have c:=h.ch _ (aaF hk);have hs:=f.sum;rw[hd,oD] at hs;have hp:∀y∈s.ch.drop (k+1),s.ch[k].de<=y.de:=by
  have h1:=h.ord.sublist (List.drop_sublist k s.ch);rw[hd] at h1;exact(adK.1 h1).1
 have d:=f.av;have heq:iE s' s.ch[k]=(s.ch.take (k+1)).foldl iE s:=by
  rw[abE,Zv hk,acC,<-f.eq];rfl
 have hlen:=f.len;by_cases hu:s.ch[k].us=0
 .have b:iE s' s.ch[k]={s' with av:=s'.av+s.ch[k].lf}:=by unfold iE mW;rw[Zz hu]
  exact⟨heq,by rw[b];exact f.ch,by rw[b];simp only;omega,by rw[b];exact f.rf,by rw[b];simp only;omega,by rw[b];exact λr a x c=>f.BI r a x (by rw[hd];exact List.mem_cons_of_mem _ c),by rw[b];simp only;omega⟩
 .have b:iE s' s.ch[k]={s' with av:=s'.av+s.ch[k].lf,rf:=s'.rf++ [⟨s.ch[k].de,s.ch[k].us⟩]}:=by unfold iE mW;rw[aaA hu]
  refine⟨heq,by rw[b];exact f.ch,by rw[b];simp only;omega,?_,by rw[b];simp only;rw[D2];simp only;omega,?_,by rw[b];simp only[aaM,adV];omega⟩
  .rw[b];intro r a;rcases aaO.1 a with a|a
   .exact f.rf r a
   .simp at a;subst a;exact c.2
  .rw[b];intro r a x c;rcases aaO.1 a with a|a
   .exact f.BI r a x (by rw[hd];exact List.mem_cons_of_mem _ c)
   .simp at a;subst a;exact hp x c
end
section
open Go.RowKit Go.Lib Go.Shelf
variable{A6 A B:Option aJ}{n q g d:Nat}{F:Nat->Prop}{w w':aA}{v:aC}
section
section
variable{F:Nat->Prop}{w w5:aA}{g c d:Nat}{s:Sv}{A B:Option aJ}
theorem gV.Tl(h:gV F w g s A c B d)(v:Int):gV F (w.setCell (g,2) v) g {s with nw:=v} A c B d/\Kp F w (w.setCell (g,2) v):=
 h.cells (s':={s with nw:=v}) rfl rfl (aZ (bK w g) 2 _) (by have:=h.b.bX 2 v;simpa[yV] using this)
theorem gV.VH(h:gV F w g s A c B d)(v:Int):gV F (w.setCell (g,3) v) g {s with av:=v} A c B d/\Kp F w (w.setCell (g,3) v):=
 h.cells (s':={s with av:=v}) rfl rfl (aZ (bK w g) 3 _) (by have:=h.b.bX 3 v;simpa[yV] using this)
theorem gV.Wo(h:gV F w g s A c B d):gV F (w.setCell (g,4) (.slice none 0 0)) g {s with ch:= []} none 0 B d/\Kp F w (w.setCell (g,4) (.slice none 0 0)):=by
 have a:=aZ (bK w g) 4 (.slice none 0 0);have k:=h.fl.self h.fg a;exact⟨⟨by have:=h.b.bX 4 (.slice none 0 0);simpa[yV] using this,bI.nil _ _ _,h.oB.kept a (sZ h.oB),h.fl.kp k,h.fg,(λq hq=>by cases hq),h.fB⟩,k⟩
theorem gV.Um{c6:Nat}{x:Ck}(h:gV F w g s A c B d)(o:n=s.ch.length)(a:bI yH 3 w5 (g+1) 329 A6 c6 (s.ch++ [x]))(j:w.grownBy w5 (aY A))(k:aY A6=aY A\/aY A6=some w.heap.size):
 gV F (w5.setCell (g,4) (.slice A6 (n+1) c6)) g {s with ch:=s.ch++ [x]} A6 c6 B d/\Kp F w (w5.setCell (g,4) (.slice A6 (n+1) c6)):=by
 have l:Kp F w w5:=Kp.grown j λb hb=>⟨h.fl b hb,λe=>h.fA b e.symm hb⟩
 have p:=h.b.grown j (λe=>by have:=(h.oA.lt g e.symm).1;omega);have i:bI tJ 2 w5 (g+1) 327 B d s.rf:=h.oB.kept j (by
  cases hb:aY B with
  |none=>exact .inl rfl
  |some q=>right;intro e;exact h.apart q e.symm hb)
 have f:=aZ (bK w5 g) 4 (.slice A6 (n+1) c6);have m:=(h.fl.kp l).self h.fg f;refine⟨⟨?_,a.kept f (sZ a),i.kept f (sZ i),(h.fl.kp l).kp m,h.fg,λq hq hF=>?_,h.fB⟩,l.trans m⟩
 .have:=p.bX 4 (.slice A6 (n+1) c6);subst o;simpa[yV] using this
 .rcases k with e|e
  .exact h.fA q (e ▸ hq) hF
  .rw[e] at hq;injection hq with hq;have:=h.fl q hF;omega
theorem gV.Xa{rs:List Rl}(h:gV F w g s A c q d)(o:n=rs.length)(a:bI tJ 2 w5 (g+1) 327 q d rs)(j:w.grownBy w5 (some q)):
 gV F (w5.setCell (g,5) (.slice q n d)) g {s with rf:=rs} A c q d/\Kp F w (w5.setCell (g,5) (.slice q n d)):=by
 subst o;have k:Kp F w w5:=h.fl.self (h.fB q rfl) j;have l:g≠q:=λe=>by have t:=(h.oB.lt q rfl).1;omega
 have p:=h.b.grown j (λe=>l (by injection e));have i:bI yH 3 w5 (g+1) 329 A c s.ch:=h.oA.kept j (by
  cases hb:aY A with
  |none=>exact .inl rfl
  |some r=>right;intro e;exact h.apart r hb e.symm)
 have f:=aZ (bK w5 g) 5 (.slice q rs.length d);have m:=(h.fl.kp k).self h.fg f;exact⟨⟨by have:=p.bX 5 (.slice q rs.length d);simpa[yV] using this,i.kept f (sZ i),a.kept f (sZ a),(h.fl.kp k).kp m,h.fg,h.fA,h.fB⟩,k.trans m⟩
end
def L9(w:aA)(g:Nat):Nat:=match w.cell? (g,5) with|some (.slice _ n _)=>n|_=>0
theorem gV.L9{c:Nat}{s:Sv}(h:gV F w g s A c B d):L9 w g=s.rf.length:=by
 unfold Go.Proofs.YtacgiflhgdaeaaaGreat.L9;rw[h.b.cell 5 (.slice B s.rf.length d) rfl]
structure Yt(w:aA)(g q d:Nat)(x:Rl)(n:Nat)(av:Int):Prop where
 c5:w.cell? (g,5)=some (.slice q (n+1) d)
 c3:w.cell? (g,3)=some (.int .i64 av)
 d0:w.cell? (q,0)=some (.int .i64 x.at_)
 d1:w.cell? (q,1)=some (.int .i64 x.am)
theorem gV.Qg{c:Nat}{s:Sv}{x:Rl}{xs:List Rl}(h:gV F w g s A c q d)(hs:s.rf=x::xs):Yt w g q d x xs.length s.av:=by
 have a:=h.oB;rw[hs] at a;refine⟨?_,h.b.cell 3 _ rfl,?_,?_⟩
 .have:=h.b.cell 5 (.slice q s.rf.length d) rfl;rw[hs] at this;exact this
 .simpa using bM pJ a (i:=0) aT (j:=0) (v:= .int .i64 x.at_) rfl
 .simpa using bM pJ a (i:=0) aT (j:=1) (v:= .int .i64 x.am) rfl
def WZ(y:Ck)(v:aC)(w:aA):Prop:=∃G,v= .slice (some ⟨G,0,none⟩) 1 1/\Sl yH 3 w (some ⟨G,0,none⟩) [y]
theorem WZ.keep{y:Ck}(h:WZ y v w)(a:bS w w'):WZ y v w':=by obtain⟨G,h1,b⟩:=h;exact⟨G,h1,b.keep a⟩
structure Wj(now:Int)(s:Sv)(av:Int)(rf:List Rl):Prop where
 eq:qY now av rf=qY now s.av s.rf
 Yk:0<=av
 Ri:∀r∈rf,0<=r.am
 sum:av+oX rf=s.av+oX s.rf
 len:rf.length<=s.rf.length
theorem Bf{s:Sv}(h:sI F w g s)(now:Int)(rd:Bool)(hb:PX s)(hn:s.nw<=now)(hn2:now<=1048576)(h0:0<=s.nw)(hl:s.rf.length+s.ch.length<=2000000):
 aG prog 112 #[.pointer g,now,rd] w (Rg F g (.bool true) (kH s now rd) w):=by
 obtain⟨A,c,B,d,h⟩:=h;have c2:=h.b.cell 2 s.nw rfl;have f2:=h.b.frozen 2;obtain⟨m1,k1⟩:=h.Tl now;have hnn:¬now<s.nw:=aQ;have hA:=F7 hb.rf;have hL:=MC hb.ch;have Z:=hb.all;have hbu:=hb.bu;have h00:=hb.av;have HB:=aP hb;have H1:aH (∃A c B d,gV F (w.setCell (g,2) now) g {s with nw:=now,av:=s.av,rf:=s.rf} A c B d):=⟨A,c,B,d,m1⟩
 have K1:=aP k1;clear h m1 k1 hb;go_enter func112,ntmps112
 go_upto_region 4 with(fail)
 generalize w.setCell (g,2) now=w1 at *;clear c2 f2;go_loopw [23] (λ_ wr=>∃(av:Int) (rf:List Rl),aH (Wj now s av rf)/\aH (∃A c B d,gV F wr g {s with nw:=now,av:=av,rf:=rf} A c B d)/\aH (Kp F w wr)) (λ_ wr=>L9 wr g)
 case atStart=>exact⟨s.av,s.rf,⟨rfl,h00,HB.o.rf,rfl,Zw _⟩,H1,K1⟩
 case round=>
  clear H1 K1;obtain⟨av,rf,HP,⟨A,c,B,d,m⟩,K⟩:=hrel;have HLw:=aP m.L9;by_cases E:∃r rs,rf=r::rs/\r.at_<=now
  .obtain⟨r,rs,rfl,hr⟩:=E;obtain⟨q,rfl⟩:∃q,B=some ⟨q,0,none⟩:=by
    rcases m.oB.shape with⟨_,L,_⟩|L
    .cases L
    .exact L
   obtain⟨a0,a1,a2,a3⟩:=m.Qg rfl;simp only at a1;have hp:=HP.o;have hrm:=hp.Ri r aT;have hsm:=hp.sum;rw[zY] at hsm;have hrs:=F7 (λx hx=>hp.Ri x (by simp[hx]):∀x∈rs,0<=x.am);have hpa:=hp.Yk;have hln:=hp.len;simp only[aa9] at hln;have HP2:aH (Wj now s (av+r.am) rs):=⟨by rw[<-hp.eq,qY,Zz hr],aQ,λx hx=>hp.Ri x (by simp[hx]),aQ,aQ⟩
   have D:=bN m K.o;have hln2:rs.length+1<=2000000:=aQ;have hw1:av+r.am<=1048576:=aQ;obtain⟨n,hn⟩:∃n,n=rs.length:=⟨_,rfl⟩
   rw[<-hn] at a0 hln2;have HN:=aP hn;have n0:(0:Int)<(n:Int)+1:=aQ;clear m K hn hp hsm hln hL hA Z h00 HP hrs;go_upto_region 5 with(fail)
   have Q:=bD a0;have R:=bD a1;have S:=bD a3;refine bO (bS _) (λ_=>bS) [] (λ_ _ _=>True) [14] [] 118 (bY _) (λ_ _ _ h M=>bU h M) (λ_ d hd _ v w w' _ h M=>by cases hd) aV aV bL ?_;repeat refine eA ?_
   refine dC ?_;intro γ w5 a hT;clear Q R S;simp only[cO,Act.put,Zx,aaE,aaD];refine dP ?_;have m5:=D.o.1.keep a;have k5:=D.o.2.trans (D.o.1.fl.below a);refine dS w5 rfl 3 _ _ rfl g 3 (.int .i64 (av+r.am)) rfl rfl aV rfl (m5.b.one (by simp[yV])) ?_;refine cI ?_;try simp only[Act.put]
   obtain⟨m6,k6⟩:=m5.VH (av+r.am);generalize w5.setCell (g,3) (.int .i64 (av+r.am))=w6 at *;have hD:aG prog 154 #[.slice (some ⟨q,0,none⟩) (n+1) d,aU, .int .i64 1] w6 λe w'=>e= .returned (.slice (some ⟨q,0,none⟩) n d)/\bI tJ 2 w' (g+1) 327 (some ⟨q,0,none⟩) d rs/\w6.grownBy w' (some q):=by
    have:=Vm.lX q d 0 rs.length (g+1) (r::rs) w6 m6.oB bT (by have:=HN.o;simp;omega);rw[HN.o];simpa using this
   have h6:=m6.Qg rfl;rw[<-HN.o] at h6;have HD:=aP hD;have H6:=bN m6 (k5.trans k6);clear a0 a1 a2 a3 m5 k5 m6 k6 hD hT a;obtain⟨a0,a1,a2,a3⟩:=h6;go_wp2_with fail
   refine aR HD ?_;rintro e w7 ⟨rfl,own7,hg7⟩;obtain⟨m8,k8⟩:=H6.o.1.Xa HN.o own7 hg7;have b7:=H6.o.1.b.grown hg7 (λe=>by have h9:=(H6.o.1.oB.lt q rfl).1;injection e with e;omega);have f7:=b7.frozen 5;have c7:=b7.cell 5 _ rfl;have HLe:=aP m8.L9;have HM8:=bN m8 (H6.o.2.trans k8);clear a0 a1 a2 a3 m8 k8 own7 hg7 b7;go_wp2_with fail
   go_roundw
   case rel=>exact⟨av+r.am,rs,HP2.o,⟨_,_,_,_,HM8.o.1⟩,HM8.o.2⟩
   case measure=>rw[HLe.o,HLw.o];simp
  .have hp:=HP.o;have hE:qY now av rf=(av,rf):=by
    cases rf with
    |nil=>rfl
    |cons r rs=>unfold qY;rw[aaA];intro h;exact E ⟨r,rs,rfl,h⟩
   obtain⟨p,N⟩:∃p,p=uD now s:=⟨_,rfl⟩
   have hs':({s with nw:=now,av:=av,rf:=rf}:Sv)=p:=by rw[N];unfold uD;rw[<-hp.eq,hE]
   have T:p.rf=rf/\p.av=av:=by rw[<-hs'];exact⟨rfl,rfl⟩
   rw[hs'] at m;have O:=HB.o.pop now;rw[<-N] at O;have hpe:p.pe=s.pe/\p.ch=s.ch:=by rw[N];exact⟨rfl,rfl⟩
   have hpb:=O.bu;have hpa:=O.av;have HV:aH (kH s now rd=if rd then(if 0<p.av then {p with ch:=p.ch++ [⟨p.av,0,now+p.pe⟩],av:=0} else p) else {p.ch.foldl iE p with ch:= []}):=by unfold aH;rw[N];rfl
   have D:=dA m K.o O;have hlr:rf.length+p.ch.length<=2000000:=by have:=hp.len;rw[hpe.2];omega
   have c5:=m.b.cell 5 (.slice B p.rf.length d) rfl;have HPR:=aP T;have HLR:aH (p.rf.length+p.ch.length<=2000000):=by unfold aH;rw[T.1];exact hlr
   rw[T.1] at c5;have HNP:=aP E;clear hp hE hs' T K hn Z hA hL h00 O E HP N hpe;rcases rf with _|⟨r,rs⟩;clear m;simp only[abM] at c5;go_upto_region 7 with(fail)
   rotate_left
   obtain⟨q,rfl⟩:∃q,B=some ⟨q,0,none⟩:=by
    rcases m.oB.shape with⟨_,L,_⟩|L
    .rw[HPR.o.1] at L;cases L
    .exact L
   have a2:=(m.Qg HPR.o.1).d0;have hr:¬r.at_<=now:=λh=>HNP.o ⟨r,rs,rfl,h⟩
   simp only[aa9] at c5 hlr;have n0:(0:Int)<(rs.length:Int)+1:=aQ;clear m;generalize rs.length=n at *;go_upto_region 7 with(fail)
   all_goals
    clear c5 HPR HNP;have c3:=D.o.1.b.cell 3 p.av rfl;have c4:=D.o.1.b.cell 4 (.slice A p.ch.length c) rfl;have c1:=D.o.1.b.cell 1 p.pe rfl;cases rd
    .have I:aH (kH s now false={p.ch.foldl iE p with ch:= []}):=by have:=HV.o;rw[aaA aT] at this;exact this
     have hlc:p.ch.length<=2000000:=aQ;have hlr2:p.rf.length+p.ch.length<=2000000:=HLR.o;obtain⟨H,f⟩:∃H,H=p.ch.length:=⟨_,rfl⟩
     rw[<-f] at c4 hlc hlr2;have P:=aP f;have HF0:aH (EI p p 0):=EI.zero D.o.2.2;have HM0:aH (∃B d,gV F wr g p A c B d):=⟨_,_,D.o.1⟩
     have HK0:=aP D.o.2.1;clear f HV c3 c1;go_wp2_with fail
     go_loopw [69] (λv69 wz=>∃(k:Nat) (st:Sv),v69= .int .i64 k/\k<=H/\aH (EI p st k)/\aH (∃B d,gV F wz g st A c B d)/\aH (Kp F w wz)) (λv69 _=>H - (intOf v69).toNat)
     case atStart=>exact⟨0,p,rfl,aaH _,HF0,HM0,HK0⟩
     case round=>
      clear HF0 HM0 HK0;obtain⟨k,st,rfl,hk,i,⟨B2,d2,m⟩,HK⟩:=hrel;by_cases hkn:k<H
      .have J:k<p.ch.length:=by rw[<-P.o];exact hkn
       have hst:=aP (i.o.step D.o.2.2 J);have hxs:p.ch[k]∈p.ch.drop k:=by rw[acR J];exact List.mem_cons_self
       have hbe:=i.o.BI;have hfl:=i.o.len;have hfs:=i.o.sum;have hfa:=i.o.av;have hx:=D.o.2.2.ch _ (aaF J);have hns:=F7 i.o.rf;have hnl:=MC (l:=p.ch.drop (k+1)) (λz M=>D.o.2.2.ch z (List.mem_of_mem_drop M));have hdk:p.ch.drop k=p.ch[k]::p.ch.drop (k+1):=acR J;rw[hdk,oD] at hfs;have u:k<st.ch.length:=by rw[i.o.ch];exact J
       have hge:st.ch[k]=p.ch[k]:=by simp only[i.o.ch]
       obtain⟨q,rfl⟩:∃q,A=some ⟨q,0,none⟩:=by
        rcases m.oA.shape with⟨_,L,_⟩|L
        .rw[L] at u;simp at u
        .exact L
       have e0:=bM kZ m.oA u (j:=0) (v:= .int .i64 st.ch[k].lf) rfl;have e1:=bM kZ m.oA u (j:=1) (v:= .int .i64 st.ch[k].us) rfl;have e2:=bM kZ m.oA u (j:=2) (v:= .int .i64 st.ch[k].de) rfl;rw[hge] at e0 e1 e2;rw[aaU] at e0;have hbx:∀r∈st.rf,r.at_<=p.ch[k].de:=λr hr=>hbe r hr _ hxs
       have HS:=dA hst.o hbx HK.o;have hlr3:st.rf.length<=2000000:=aQ;obtain⟨y,hy⟩:∃y,y=p.ch[k]:=⟨_,rfl⟩
       rw[<-hy] at HS e0 e1 e2 hx hfs;have HM2:=aP m;have k0:(0:Int)<=k:=aQ;have k1:(k:Int)<(H:Int):=aQ;have hw1:st.av+y.lf<=1048576:=aQ;have hw2:0<=st.av+y.lf:=aQ;have yb:=bF.new wr 329 #[y.lf,y.us,y.de];clear hst hbx hbe hfl hfs hns hnl hdk hge u hxs hy J HK i m;go_upto_region 11 with(fail)
       have hyg:wr.heap.size≠g:=by have:=HM2.o.b.lt;omega
       have m3:=HM2.o.keep (aX wr (aI #[y.lf,y.us,y.de] 329));have kk:=HS.o.2.2.trans (HM2.o.fl.below (aX wr (aI #[y.lf,y.us,y.de] 329)));generalize wr.alloc (aI #[y.lf,y.us,y.de] 329)=w3 at *;generalize wr.heap.size=yq at *;have x0:=yb.cell 0 y.lf rfl;have c3:=m3.b.cell 3 st.av rfl;have H3:=dA m3 kk yb;clear m3 kk yb e0 e1 e2;have U:=bD x0;have C:=bD c3;refine bO (bS _) (λ_=>bS) [] (λ_ _ _=>True) [9] [] 118 (bY _) (λ_ _ _ h M=>bU h M) (λ_ d hd _ v w w' _ h M=>by cases hd) aV aV bL ?_;repeat refine eA ?_
       refine dC ?_;intro γ w5 a hT;clear U C;simp only[cO,Act.put,Zx,aaE,aaD];refine dP ?_;have m5:=H3.o.1.keep a;have k5:=H3.o.2.1.trans (H3.o.1.fl.below a);refine dS w5 rfl 3 _ _ rfl g 3 (.int .i64 (st.av+y.lf)) rfl rfl aV rfl (m5.b.one (by simp[yV])) ?_;refine cI ?_;try simp only[Act.put]
       obtain⟨m6,k6⟩:=m5.VH (st.av+y.lf);have V:=(H3.o.2.2.keep a).rU (p:=⟨g,3,none⟩) hyg (.int .i64 (st.av+y.lf));generalize w5.setCell (g,3) (.int .i64 (st.av+y.lf))=w6 at *;have pN:=aP (XZ m6 y HS.o.2.1 (by simp only;omega));have HK6:=aP (k5.trans k6);clear m5 k5 m6 k6 hT a c3 x0;have x0:=V.cell 0 y.lf rfl;have x1:=V.cell 1 y.us rfl;have x2:=V.cell 2 y.de rfl;clear V;go_wp2_with fail
       refine aR pN ?_;rintro e w7 ⟨rfl,⟨B3,d3,m7⟩,k7⟩;have HF7:=bN m7 (HK6.o.trans k7);clear m7 k7 x0 x1 x2;go_wp2_with fail
       go_roundw
       case rel=>exact⟨k+1,iE st y,by go_num,aQ,HS.o.1,⟨_,_,HF7.o.1⟩,HF7.o.2⟩
       case measure=>simp[intOf];omega
      .obtain rfl:k=H:=aQ;have k1:¬(k:Int)<(k:Int):=aQ;have hE:st=p.ch.foldl iE p:=by rw[i.o.eq,aaS (by rw[<-P.o];exact Zw _)]
       have f4:=m.b.frozen 4;have c4:=m.b.cell 4 (.slice A st.ch.length c) rfl;obtain⟨m8,k8⟩:=m.Wo;have HF:=dA m8 (HK.o.trans k8) hE;clear m m8 k8 hE i HK;go_wp2_with fail
       go_ret
       exact⟨rfl,by rw[I.o,<-HF.o.2.2];exact⟨_,_,_,_,HF.o.1⟩,HF.o.2.1⟩
    .by_cases hav:0<p.av
     .have I:aH (kH s now true={p with ch:=p.ch++ [⟨p.av,0,now+p.pe⟩],av:=0}):=by have:=HV.o;rw[Zz rfl,Zz hav] at this;exact this
      obtain⟨y,hy⟩:∃y:Ck,y=⟨p.av,0,now+p.pe⟩:=⟨_,rfl⟩
      have HY:aH (∀(W:aA) t,Sl yH 3 (W.alloc (.cells #[p.av,aU, .int .i64 (now+p.pe)] t)) (some ⟨W.heap.size,0,none⟩) [y]):=λW t=>Sl.new kZ W y _ (by rw[hy];rfl) t
      rw[<-hy] at I;clear hy HV;obtain⟨H,f⟩:∃H,H=p.ch.length:=⟨_,rfl⟩
      rw[<-f] at c4 hlr;have P:=aP f;clear f;go_upto_region 16 with(fail)
      have X:=bD c1;have C:=bD c3;have Y:=bD c4;refine bO (bS _) (λ_=>bS) [111] (λ_ v w=>WZ y v w) [18,21] [[18,17,16,8], [18,17,16,15,14]] 118 (bY _) (λ_ _ _ h M=>bU h M) (λ_ d hd _ v w w' _ h M=>h.keep M) aV aV bL ?_;repeat (first|(refine eA ?_)|(refine uG 111 [] bL bL bL bL (λγ w hC hT=>?_) ?_;(simp only[cO];go_simp;exact p5 (aX w _) ⟨_,rfl,HY.o w _⟩);(try refine dE ?_)))
      refine dC ?_;intro γ w5 a hT;clear X C Y;simp only[cO,Act.put,Zx,aaE,aaD];refine dP ?_;obtain⟨G,hv,hsl⟩:=hT 111 aT;rw[hv];have m5:=D.o.1.keep a;have k5:=D.o.2.1.trans (D.o.1.fl.below a);clear hT hv HY c1 c3 c4;refine bP w5 rfl (.tmp 98) (.tmp 111) rfl Xu kZ m5.oA (n:=H) P.o.symm rfl (m:=1) rfl (ys:= [y]) rfl hsl dI aQ (by have:=m5.b.lt;omega) _ rfl (H+1) rfl ?_;intro A6 c6 w6 own6 hg6 at6;have b6:=m5.b.grown hg6 (λe=>by have:=(m5.oA.lt g e.symm).1;omega);refine dS w6 rfl 300 _ _ rfl g 4 (.slice A6 (H+1) c6) rfl rfl aV rfl (b6.one (by simp[yV])) ?_;refine cI ?_;try simp only[Act.put]
      obtain⟨m7,k7⟩:=m5.Um P.o own6 hg6 at6;generalize w6.setCell (g,4) (.slice A6 (H+1) c6)=w7 at *;have f3:=m7.b.frozen 3;have c3:=m7.b.cell 3 p.av rfl;obtain⟨m8,k8⟩:=m7.VH 0;have HF:=bN m8 ((k5.trans k7).trans k8);clear m5 k5 m7 k7 m8 k8 own6 hg6 at6 b6 hsl a;go_wp2_with fail
      go_ret
      exact⟨rfl,by rw[I.o];exact⟨_,_,_,_,HF.o.1⟩,HF.o.2⟩
     .have I:aH (kH s now true=p):=by have:=HV.o;rw[Zz rfl,aaA hav] at this;exact this
      have hav2:¬0<p.av:=hav;clear HV;go_wp2_with fail
      go_ret
      exact⟨rfl,by rw[I.o];exact⟨_,_,_,_,D.o.1⟩,D.o.2.1⟩
end
variable{G H:Nat->Prop}
section
theorem sI.move{s:Sv}(h:sI F w g s)(k:Kp G w w')(a:∀r,r<w.heap.size->¬F r->G r)(fl:Ol H w')(hH:∀r,r<w.heap.size->¬F r->¬H r):sI H w' g s:=by
 obtain⟨A,c,B,d,h⟩:=h;exact⟨A,c,B,d,k.aY h.b (a g h.b.lt h.fg),h.oA.kp k (λq hq=>a q (h.oA.lt q hq).2 (h.fA q hq)),h.oB.kp k (λq hq=>a q (h.oB.lt q hq).2 (h.fB q hq)),fl,hH g h.b.lt h.fg,λq hq=>hH q (h.oA.lt q hq).2 (h.fA q hq),λq hq=>hH q (h.oB.lt q hq).2 (h.fB q hq)⟩
def nK(bu pe:Int):Bool:=decide (1<=bu/\bu<=pe/\pe<=1048576)
theorem CX(bu pe:Int)(w:aA):aG prog 129 #[.agg #[bu,pe]] w λe w'=>e= .returned (.bool (nK bu pe))/\Below w w w':=by
 have hb:=aP (aX w (aI #[bu,pe] 112));by_cases h1:1<=bu
 .by_cases b:bu<=pe
  .by_cases c:pe<=1048576
   .have a:aH (nK bu pe=true):=aa2 ⟨h1,b,c⟩;go_enter func129,ntmps129
    go_wp2_with fail
    go_ret
    exact⟨by first|(rw[a.o];rfl)|rw[a.o],hb.o⟩
   .have a:aH (nK bu pe=false):=aaP (λh=>c h.2.2);go_enter func129,ntmps129
    go_wp2_with fail
    go_ret
    exact⟨by first|(rw[a.o];rfl)|rw[a.o],hb.o⟩
  .have a:aH (nK bu pe=false):=aaP (λh=>b h.2.1);go_enter func129,ntmps129
   go_wp2_with fail
   go_ret
   exact⟨by first|(rw[a.o];rfl)|rw[a.o],hb.o⟩
 .have a:aH (nK bu pe=false):=aaP (λh=>h1 h.1);go_enter func129,ntmps129
  go_wp2_with fail
  go_ret
  exact⟨by first|(rw[a.o];rfl)|rw[a.o],hb.o⟩
end
end
section
open Go.RowKit
section
variable{w w':aA}{b:Nat}
theorem CC{es:Array MapEntry}{c:Nat}{o:Obj}(hb:w.heap[b]?=some (.map es c)):w.grownBy {w with heap:=w.heap.setIfInBounds b o} (some b):=
 ⟨rfl,rfl,rfl,aT,λi _ a=>(MapKept.heap_set hb).2 i (λe=>a (by rw[e]))⟩
end
variable{es:List MapEntry}{j g:Nat}{en:MapEntry}{P:aO}{z:aC}{Q:Exit->Act->aA->Prop}{w:aA}
section
structure C5{α:Type}(ev:α->aC)(es:List MapEntry)(f:Int->Option α):Prop where
 ky:∀x∈es,MapKept.IsKey (.int .i64) x.key
 ap:es.Pairwise (λx y=>x.key≠y.key)
 tq:∀x v,f x=some v->∃e∈es,e.key= .int .i64 x/\e.val=ev v
 Jg:∀e∈es,∀x,e.key= .int .i64 x->∃v,f x=some v/\e.val=ev v
def iG{α:Type}(ev:α->aC)(w:aA)(b:Nat)(f:Int->Option α):Prop:=∃es clock,w.heap[b]?=some (.map es clock)/\C5 ev es.toList f
def gC{α:Type}(f:Int->Option α)(x:Int)(v:Option α):Int->Option α:=λy=>if y=x then v else f y
section
variable{α:Type}{ev:α->aC}{w w':aA}{b:Nat}{f:Int->Option α}
theorem DD(x:Int):MapKept.IsKey (.int .i64) (.int .i64 x):=by simp[MapKept.IsKey]
theorem C5.LU(h:C5 ev es f){x:Int}(a:∀e∈es,e.key≠ .int .i64 x):f x=none:=by
 cases hf:f x with
 |none=>rfl
 |some v=>
  obtain⟨e,he,h1,_⟩:=h.tq x v hf;exact absurd h1 (a e he)
theorem C5.push(h:C5 ev es f){x:Int}(g:∀e∈es,e.key≠ .int .i64 x)(v:α)(c:Nat):C5 ev (es++ [{key:= .int .i64 x,val:=ev v,born:=c}]) (gC f x (some v)):=by
 refine⟨λy d=>?_,?_,λy u d=>?_,λe he y d=>?_⟩
 .rcases aaO.1 d with d|d
  .exact h.ky y d
  .rw[aaK.1 d];exact DD x
 .rw[acZ];exact⟨h.ap,ac0 _ _,λa ha c hc=>by rw[aaK.1 hc];exact g a ha⟩
 .unfold gC at d;split at d
  .rename_i e;subst e;injection d with d;subst d;exact⟨{key:= .int .i64 y,val:=ev v,born:=c},aT,rfl,rfl⟩
  .obtain⟨e,he,h1⟩:=h.tq y u d;exact⟨e,by simp[he],h1⟩
 .rcases aaO.1 he with he|he
  .obtain⟨u,h1,i⟩:=h.Jg e he y d;refine⟨u,?_,i⟩;unfold gC;rw[aaA (λj=>g e he (by rw[d,j]))];exact h1
  .rw[aaK.1 he] at d⊢;simp only[Value.int.injEq,ab7] at d;exact⟨v,by unfold gC;rw[Zz d.symm],rfl⟩
theorem C5.set(h:C5 ev es f){x:Int}(l:es[j]?=some en)(hk:en.key= .int .i64 x)(v:α):C5 ev (es.set j {en with val:=ev v}) (gC f x (some v)):=by
 have c:j<es.length:=by
  rcases acW j es.length with q|q
  .exact q
  .rw[abR q] at l;cases l
 have d:es[j]=en:=by rw[Zv c] at l;injection l
 have g:(es.set j {en with val:=ev v}).map (·.key)=es.map (·.key):=by
  rw[ab6];apply ab8
  .simp
  .intro i h1 m;rw[abA];split
   .rename_i e;subst e;simp[d]
   .rfl
 have other:∀i (hi:i<es.length),es[i].key= .int .i64 x->i=j:=by
  intro i hi e;rcases Nat.lt_trichotomy i j with q|q|q
  .exact absurd (by rw[e,d,hk]) (acK.1 h.ap i j hi c q)
  .exact q
  .exact absurd (by rw[e,d,hk]) (acK.1 h.ap j i c hi q)
 refine⟨λy a=>?_,?_,λy u a=>?_,λe he y a=>?_⟩
 .rcases abC a with a|a
  .exact h.ky y a
  .rw[a];exact h.ky en (d ▸ aaF c)
 .rw[<-List.pairwise_map (f:=λx:MapEntry=>x.key) (R:=(· ≠ ·)),g,List.pairwise_map];exact h.ap
 .unfold gC at a;split at a
  .rename_i e;subst e;injection a with a;subst a;exact⟨_,List.mem_set c _,hk,rfl⟩
  .rename_i n;obtain⟨e,he,h1,m⟩:=h.tq y u a;obtain⟨i,hi,rfl⟩:=aa1 he;refine⟨es[i],?_,h1,m⟩;rw[List.mem_iff_getElem];refine⟨i,by simpa using hi,?_⟩;rw[List.getElem_set_ne];intro o;subst o;rw[d,hk] at h1;simp at h1;exact n h1.symm
 .obtain⟨i,hi,rfl⟩:=aa1 he;rw[aaL] at hi;by_cases k:j=i
  .subst k;rw[List.getElem_set_self] at a⊢;simp only at a⊢;rw[hk] at a;simp at a;exact⟨v,by unfold gC;rw[Zz a.symm],rfl⟩
  .rw[List.getElem_set_ne k] at a⊢;obtain⟨u,h1,m⟩:=h.Jg es[i] (aaF hi) y a;refine⟨u,?_,m⟩;unfold gC;rw[aaA (λo=>k (other i hi (by rw[a,o])).symm)];exact h1
theorem C5.del(h:C5 ev es f){x:Int}(g:es[j]?=some en)(hk:en.key= .int .i64 x):C5 ev (es.eraseIdx j) (gC f x none):=by
 have c:j<es.length:=by
  rcases acW j es.length with q|q
  .exact q
  .rw[abR q] at g;cases g
 have d:es[j]=en:=by rw[Zv c] at g;injection g
 have other:∀i (hi:i<es.length),es[i].key= .int .i64 x->i=j:=by
  intro i hi e;rcases Nat.lt_trichotomy i j with q|q|q
  .exact absurd (by rw[e,d,hk]) (acK.1 h.ap i j hi c q)
  .exact q
  .exact absurd (by rw[e,d,hk]) (acK.1 h.ap j i c hi q)
 refine⟨λy a=>h.ky y (acU a),h.ap.sublist (aeF es j),λy u a=>?_,λe he y a=>?_⟩
 .unfold gC at a;split at a
  .cases a
  .rename_i k;obtain⟨e,he,h1,l⟩:=h.tq y u a;obtain⟨i,hi,rfl⟩:=aa1 he;refine⟨es[i],?_,h1,l⟩;rw[adA];exact⟨i,hi,λm=>by subst m;rw[d,hk] at h1;simp at h1;exact k h1.symm,rfl⟩
 .rw[adA] at he;obtain⟨i,hi,n,rfl⟩:=he;obtain⟨u,h1,l⟩:=h.Jg es[i] (aaF hi) y a;refine⟨u,?_,l⟩;unfold gC;rw[aaA (λm=>n (other i hi (by rw[a,m])))];exact h1
theorem iG.lt(h:iG ev w b f):b<w.heap.size:=by
 obtain⟨es,c,h1,_⟩:=h;rcases acW b w with a|hge
 .exact a
 .rw[ac4 hge] at h1;cases h1
theorem iG.same(h:iG ev w b f)(hb:w'.heap[b]?=w.heap[b]?):iG ev w' b f:=by
 obtain⟨es,c,h1,a⟩:=h;exact⟨es,c,hb.trans h1,a⟩
theorem iG.keep(h:iG ev w b f)(hb:Below w w w'):iG ev w' b f:=h.same (hb.block b h.lt)
theorem iG.rU(h:iG ev w b f)(c:w.grownBy w' (some g))(a:b≠g):iG ev w' b f:=h.same (c.block b h.lt (λe=>a (by injection e)))
theorem iG.new(w:aA)(ev:α->aC):iG ev (w.alloc (.map #[] 0)) w (λ_=>none):=⟨#[],0,(MapKept.heap_alloc w _).1,aT,aT,aT,aT⟩
theorem wI{t k e:aN}(l:P.underlying t=some (.map k e))(hk:P.underlying k=some (.int .i64))(m:(zeroValue e).run P w= .ok z w)(h:iG ev w b f)(x:Int)(c:Bool):
 (Instr.lookup t (.map (some b)) (.int .i64 x) c).run P w= .ok (if c then .tuple #[((f x).map ev).getD z, .bool (f x).isSome] else((f x).map ev).getD z) w:=by
 obtain⟨es,cl,h1,a⟩:=h;have d:=DD x;rcases MapKept.findNow_spec d es.toList 0 a.ky with⟨g,i⟩|⟨j,en,g,i,n⟩
 .simp[Instr.lookup,run_underlying l,MapKept.run_getObj_map h1,MapKept.run_checkKey hk d,MapKept.run_findKey hk g,m,Result.andThen,a.LU i]
 .obtain⟨v,o,p⟩:=a.Jg en (abV i) x n;simp[Instr.lookup,run_underlying l,MapKept.run_getObj_map h1,MapKept.run_checkKey hk d,MapKept.run_findKey hk g,Result.andThen,o,p]
theorem J9{t k e:aN}(s:P.underlying t=some (.map k e))(hk:P.underlying k=some (.int .i64))(h:iG ev w b f)(x:Int)(v:α):
 ∃w',(Instr.mapUpdate t (.map (some b)) (.int .i64 x) (ev v)).run P w= .ok () w'/\iG ev w' b (gC f x (some v))/\w.grownBy w' (some b):=by
 obtain⟨es,c,h1,d⟩:=h;have l:=DD x;rcases MapKept.findNow_spec l es.toList 0 d.ky with⟨n,m⟩|⟨j,en,n,m,o⟩
 .exact⟨_,by simp[Instr.mapUpdate,run_underlying s,MapKept.run_getObj_map h1,MapKept.run_checkKey hk l,MapKept.run_findKey hk n,MapKept.run_setObj_map _ h1,Result.andThen];rfl,⟨_,_,(MapKept.heap_set h1).1,by rw[Array.toList_push];exact d.push m v _⟩,CC h1⟩
 .have a:es[j]?=some en:=by simpa using m
  refine⟨_,by simp[Instr.mapUpdate,run_underlying s,MapKept.run_getObj_map h1,MapKept.run_checkKey hk l,MapKept.run_findKey hk n,a,o,MapKept.run_keyThatStays l,MapKept.run_setObj_map _ h1,Result.andThen];rfl,⟨_,_,(MapKept.heap_set h1).1,?_⟩,CC h1⟩;have p:j<es.size:=by
   rcases acW j es.size with q|q
   .exact q
   .rw[ac4 q] at a;cases a
  have r:es[j]=en:=by rw[abO p] at a;injection a
  have heq:∀g:MapEntry->MapEntry,(es.modify j g).toList=es.toList.set j (g en):=by
   intro g;apply ab8
   .simp
   .intro i h1 d;simp only[aeJ,Array.getElem_modify,abA];split
    .rename_i e;subst e;rw[r]
    .rfl
  rw[heq];have:=d.set m o v;simpa[o] using this
theorem AK{t k e:aN}(m:P.underlying t=some (.map k e))(hk:P.underlying k=some (.int .i64))(h:iG ev w b f)(x:Int)(ty:aN):
 ∃w',(Builtin.delete_ #[t,k] ty #[.map (some b),x]).run P w= .ok (.tuple #[]) w'/\iG ev w' b (gC f x none)/\w.grownBy w' (some b):=by
 obtain⟨es,c,h1,d⟩:=h;have g:=DD x;rcases MapKept.findNow_spec g es.toList 0 d.ky with⟨i,a⟩|⟨j,en,i,a,n⟩
 .have hf:gC f x none=f:=by
   funext y
   unfold gC;split
   .rename_i e;rw[e];exact(d.LU a).symm
   .rfl
  exact⟨_,by simp[Builtin.delete_,run_underlying m,MapKept.run_getObj_map h1,MapKept.run_checkKey hk g,MapKept.run_findKey hk i,MapKept.run_setObj_map _ h1,Result.andThen];rfl,⟨_,_,(MapKept.heap_set h1).1,by rw[hf];exact d⟩,CC h1⟩
 .refine⟨_,by simp[Builtin.delete_,run_underlying m,MapKept.run_getObj_map h1,MapKept.run_checkKey hk g,MapKept.run_findKey hk i,MapKept.run_setObj_map _ h1,Result.andThen];rfl,⟨_,_,(MapKept.heap_set h1).1,?_⟩,CC h1⟩;have l:j<es.size:=by
   rcases acW j es.size with q|q
   .exact q
   .rw[abR (by simpa using q)] at a;cases a
  have hd:=d.del a n;rw[Array.eraseIdxIfInBounds,dif_pos l,Array.toList_eraseIdx];exact hd
theorem Ei{t k e:aN}(a:P.underlying t=some (.map k e))(h:iG ev w b f)(ty:aN):
 ∃n:Nat,(Builtin.len_ #[t] ty #[.map (some b)]).run P w= .ok (.int .i64 n) w/\(n=0->∀x,f x=none):=by
 obtain⟨es,c,h1,d⟩:=h;refine⟨es.size,by simp[Builtin.len_,run_underlying a,MapKept.run_getObj_map h1,Result.andThen,goInt],λg x=>d.LU λe he=>?_⟩;rw[Array.size_eq_zero_iff.1 g] at he;simp at he
end
theorem GA{α:Type}(ev:α->aC){f:Int->Option α}{ops:Array Oper}{rest:List Oper}{o:Oper}{a:Act}(w:aA)(g:o.guard=none)(m x v:Operand)(t k e:aN)(d:o.op=Op.mapUpdate t m x v)
 (i:P.underlying t=some (.map k e)) (hk:P.underlying k=some (.int .i64)) (b:Nat) (n:Int) (y:α) (hm:a.eval m= .map (some b)) (j:a.eval x= .int .i64 n) (l:a.eval v=ev y) (h:iG ev w b f)
 (hK:∀w',iG ev w' b (gC f n (some y))->w.grownBy w' (some b)->wpList P ops Q rest (a.put o.dst undef) w'):wpList P ops Q (o::rest) a w:=by
 refine wpList_plain g λK' hK'=>?_
 obtain⟨w',c,r1,p⟩:=J9 i hk h n y;unfold Oper.wp;simp[execOp,d,hm,j,l,c,Result.andThen];exact hK' _ _ (hK w' r1 p)
theorem SG{t k e:aN}(a:P.underlying t=some (.map k e))(hk:P.underlying k=some (.int .i64))(d:(zeroValue e).run P w= .ok z w)(x:Int)(c:Bool):
 (Instr.lookup t (.map none) (.int .i64 x) c).run P w= .ok (if c then .tuple #[z,false] else z) w:=by
 simp[Instr.lookup,run_underlying a,MapKept.run_checkKey hk (DD x),Instr.findKey,run_underlying hk,Instr.findNow,d,Result.andThen]
end
end
end Go.Proofs.YtacgiflhgdaeaaaGreat
