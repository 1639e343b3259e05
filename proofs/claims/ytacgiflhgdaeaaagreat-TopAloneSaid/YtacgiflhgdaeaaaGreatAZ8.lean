/- Texts laid as one. -/
import Derived.Test.YtacgiflhgdaeaaaGreatAZ1
import Derived.Test.YtacgiflhgdaeaaaGreatAZ2
import Derived.Test.YtacgiflhgdaeaaaGreatAZ6
import Derived.Test.YtacgiflhgdaeaaaGreatAZ7
set_option linter.unusedVariables false
set_option linter.unusedSimpArgs false
set_option maxRecDepth 100000
set_option maxHeartbeats 20000000
namespace Go.Proofs.YtacgiflhgdaeaaaGreat
open Go.Proofs.Tryz
open Go renaming World->aA,Value->aC,Addr->aJ,TypeId->aN,Calls->aG
open Go.RowKit renaming Below->aD,Hid->aH
section
open Go.RowKit Go.Lib Go.Shelf
def Fo(w:aA)(ow:Nat->Nat)(i:Nat):Nat->Prop:=λb=>b<w.heap.size/\ow b≠i
def nx(w:aA)(ow:Nat->Nat)(i:Nat):Nat->Nat:=λb=>if b<w.heap.size then ow b else i
def dN(X:(Nat->Prop)->aA->Prop):Prop:=∀(F G H:Nat->Prop) (w w':aA),X F w->Kp G w w'->(∀r,r<w.heap.size->¬F r->G r)->Ol H w'->(∀r,r<w.heap.size->¬F r->¬H r)->X H w'
def zZ(F:Nat->Prop)(w:aA)(ow:Nat->Nat):Prop:=∀b,F b->b<w.heap.size/\ow b=0
variable{g n d:Nat}{A B:Option aJ}{tu:Int}
section
variable{F G H:Nat->Prop}{w w':aA}{ow:Nat->Nat}{i j:Nat}{X:(Nat->Prop)->aA->Prop}
theorem Fo.ol(w:aA)(ow:Nat->Nat)(i:Nat):Ol (Fo w ow i) w:=λ_ h=>h.1
theorem dN.own(M:dN X)(h:X (Fo w ow i) w')(k:Kp (Fo w ow i) w w'):X (Fo w' (nx w ow i) i) w':=
 M _ (λ_=>True) _ w' w' h (Kp.refl _ _) (λ_ _ _=>trivial) (Fo.ol _ _ _) (λr _ a hf=>hf.2 (by
  unfold nx;split
  .rename_i b;exact aaW λhc=>a ⟨b,hc⟩
  .rfl))
theorem dN.other(M:dN X)(h:X (Fo w ow j) w)(k:Kp (Fo w ow i) w w')(b:j≠i):X (Fo w' (nx w ow i) j) w':=
 M _ _ _ w w' h k (λr a c=>⟨a,λe=>c ⟨a,λd=>b (by rw[<-d,e])⟩⟩) (Fo.ol _ _ _) (λr a c hf=>hf.2 (by
  unfold nx;rw[Zz a];exact aaW λhc=>c ⟨a,hc⟩))
theorem zZ.kp(h:zZ F w ow)(k:Kp (Fo w ow i) w w')(hi:i≠0):Kp F w w':=k.mono λb hb=>⟨(h b hb).1,by rw[(h b hb).2];exact λe=>hi e.symm⟩
theorem zZ.next(h:zZ F w ow)(k:Kp (Fo w ow i) w w')(i:Nat):zZ F w' (nx w ow i):=λb hb=>⟨Zy (h b hb).1 k.size,by unfold nx;rw[Zz (h b hb).1];exact(h b hb).2⟩
theorem zZ.ol(h:zZ F w ow):Ol F w:=λb hb=>(h b hb).1
noncomputable def mv (w:aA) (ow:Nat->Nat) (H:Nat->Prop):Nat->Nat:=λb=> @ite Nat (b<w.heap.size/\¬H b) (Classical.propDecidable _) (ow b) 0
theorem dN.part(M:dN X)(hF:zZ F w ow)(k:Kp G w w')(c:∀r,r<w.heap.size->¬F r->G r)(hH:∀r,r<w.heap.size->¬F r->¬H r)(hi:i≠0)(h:X (Fo w ow i) w):X (Fo w' (mv w ow H) i) w':=by
 have hq:∀r,r<w.heap.size->¬Fo w ow i r->ow r=i/\¬F r:=λr a b=>by
  have h1:ow r=i:=aaW λhc=>b ⟨a,hc⟩
  exact⟨h1,λhf=>hi (by rw[<-h1,(hF r hf).2])⟩
 refine M _ G _ w w' h k (λr a b=>c r a (hq r a b).2) (Fo.ol _ _ _) (λr a b hf=>hf.2 ?_);unfold mv;rw[Zz ⟨a,hH r a (hq r a b).2⟩];exact(hq r a b).1
theorem zZ.mv(a:Ol H w'):zZ H w' (mv w ow H):=λb hb=>⟨a b hb,by unfold Go.Proofs.YtacgiflhgdaeaaaGreat.mv;rw[aaA (λh=>h.2 hb)]⟩
theorem Ui{r:Nat}(a:r<w.heap.size)(b:¬H r):mv w ow H r=ow r:=by unfold mv;rw[Zz ⟨a,b⟩]
theorem yI{r:Nat}(a:r<w.heap.size):nx w ow i r=ow r:=Zz a
theorem KH{r:Nat}(a:w.heap.size<=r):nx w ow i r=i:=aaA (Nat.not_lt.2 a)
theorem sI.cD(g:Nat)(s:Sv):dN (λF w=>sI F w g s):=λ_ _ _ _ _ h k a fl hH=>h.move k a fl hH
theorem gE.move{c:Nat}{nw:Int}{M:Option Nat}{b:Bs}(h:gE F w g A n c b M B d nw tu)(k:Kp G w w')(e:∀r,r<w.heap.size->¬F r->G r)(fl:Ol H w')(hH:∀r,r<w.heap.size->¬F r->¬H r):gE H w' g A n c b M B d nw tu:=
 ⟨k.aY h.b (e g h.b.lt h.fg),h.oB.kp k (λq hq=>e q (h.oB.lt q hq).2 (h.fB q hq)),⟨h.mp.1,λr a=>(h.mp.2 r a).same (k.block r (e r (h.mp.2 r a).lt (h.fM r a)))⟩,fl,hH g h.b.lt h.fg,λq hq=>hH q (h.oB.lt q hq).2 (h.fB q hq),λr a=>hH r (h.mp.2 r a).lt (h.fM r a)⟩
end
structure Pt where
 X:(Nat->Prop)->aA->Prop
 cD:dN X
def zB(l:List Pt)(F:Nat->Prop)(w:aA)(ow:Nat->Nat):Prop:=zZ F w ow/\∀(i:Nat) (p:Pt),l[i]?=some p->p.X (Fo w ow (i+1)) w
def Ob(l:List Pt)(F:Nat->Prop)(w:aA):Prop:=∃ow,zB l F w ow
section
variable{l:List Pt}{F G H:Nat->Prop}{w w':aA}{ow:Nat->Nat}{p p':Pt}{i:Nat}
theorem zB.get(h:zB l F w ow)(i:Nat)(hp:l[i]?=some p):p.X (Fo w ow (i+1)) w:=h.2 i p hp
theorem zB.eQ(h:zB l F w ow)(i:Nat)(p':Pt)(a:p'.X (Fo w ow (i+1)) w')(k:Kp (Fo w ow (i+1)) w w'):zB (l.set i p') F w' (nx w ow (i+1))/\Kp F w w':=by
 refine⟨⟨h.1.next k _,λm p hp=>?_⟩,h.1.kp k aQ⟩;rw[abF] at hp;split at hp
 .rename_i e;subst e;split at hp
  .injection hp with hp;subst hp;exact p'.cD.own a k
  .cases hp
 .rename_i e;exact p.cD.other (h.2 m p hp) k (λb=>e aQ)
theorem zB.Za(h:zB l F w ow)(k:Kp (Fo w ow 0) w w'):zB l F w' (nx w ow 0):=⟨h.1.next k _,λm p hp=>p.cD.other (h.2 m p hp) k aQ⟩
theorem zB.below(h:zB l F w ow)(hb:aD w w w'):zB l F w' (nx w ow 0):=h.Za (Kp.cB hb λ_ hb=>hb.1)
theorem zB.add(h:zB l F w ow)(p':Pt)(d:p'.X (λb=>b<w.heap.size) w')(hb:aD w w w'):zB (l++ [p']) F w' (nx w ow (l.length+1))/\Kp F w w':=by
 have k:Kp (Fo w ow (l.length+1)) w w':=Kp.cB hb λ_ hb=>hb.1
 refine⟨⟨h.1.next k _,λm p hp=>?_⟩,h.1.ol.below hb⟩;by_cases hm:m<l.length
 .rw[aaV hm] at hp;exact p.cD.other (h.2 m p hp) k aQ
 .rw[aaJ aQ] at hp;have a:m - l.length=0:=by
   cases hd:m - l.length with
   |zero=>rfl
   |succ n=>rw[hd] at hp;simp at hp
  rw[a] at hp;simp at hp;subst hp;obtain rfl:m=l.length:=aQ;exact p'.cD _ (λ_=>True) _ w' w' d (Kp.refl _ _) (λ_ _ _=>trivial) (Fo.ol _ _ _) (λr j f hf=>hf.2 (KH (Nat.not_lt.1 f)))
theorem Ob.none(h:Ol F w)(hF:∀b,F b->b<w.heap.size):Ob [] F w:=⟨λ_=>0,λb hb=>⟨hF b hb,rfl⟩,λi p hp=>by simp at hp⟩
theorem Ob.cD(l:List Pt):dN (Ob l):=λF G H w w' ⟨ow,h⟩ k a fl hH=>⟨mv w ow H,zZ.mv fl,λi p hp=>p.cD.part h.1 k a hH aQ (h.2 i p hp)⟩
theorem Ob.fl(h:Ob l F w):Ol F w:=by obtain⟨_,h⟩:=h;exact h.1.ol
theorem Ob.below(h:Ob l F w)(hb:aD w w w'):Ob l F w':=by obtain⟨_,h⟩:=h;exact⟨_,h.below hb⟩
end
structure oF(g:Nat)(t:aN)(cs:Array aC)(F:Nat->Prop)(w:aA):Prop where
 b:bF w g t cs
 ol:Ol F w
 nf:¬F g
theorem oF.cD(g:Nat)(t:aN)(cs:Array aC):dN (oF g t cs):=λ_ _ _ _ _ h k a fl hH=>⟨k.aY h.b (a g h.b.lt h.nf),fl,hH g h.b.lt h.nf⟩
def PB(g:Nat)(t:aN)(cs:Array aC):Pt:=⟨oF g t cs,oF.cD g t cs⟩
structure gP{α:Type}(enc:α->List aC)(sz:Nat)(e:aN)(A:Option aJ)(c:Nat)(xs:List α)(F:Nat->Prop)(w:aA):Prop where
 o:bI enc sz w 0 e A c xs
 ol:Ol F w
 nf:∀q,aY A=some q->¬F q
theorem gP.cD{α:Type}(enc:α->List aC)(sz:Nat)(e:aN)(A:Option aJ)(c:Nat)(xs:List α):dN (gP enc sz e A c xs):=λ_ _ _ _ _ h k a fl hH=>⟨h.o.kp k (λq hq=>a q (h.o.lt q hq).2 (h.nf q hq)),fl,λq hq=>hH q (h.o.lt q hq).2 (h.nf q hq)⟩
def PR{α:Type}(enc:α->List aC)(sz:Nat)(e:aN)(A:Option aJ)(c:Nat)(xs:List α):Pt:=⟨gP enc sz e A c xs,gP.cD enc sz e A c xs⟩
variable{A':Option aJ}{c' q i j:Nat}
section
variable{F:Nat->Prop}{w w':aA}{g:Nat}{t e:aN}{cs:Array aC}
theorem PB.mk(h:bF w g t cs)(hF:Ol F w)(a:¬F g):oF g t cs F w:=⟨h,hF,a⟩
theorem oF.eQ(h:oF g t cs F w){cs':Array aC}(hb:bF w' g t cs')(a:w.grownBy w' (some g)):oF g t cs' F w'/\Kp F w w':=by
 have k:=h.ol.self h.nf a;exact⟨⟨hb,h.ol.kp k,h.nf⟩,k⟩
theorem oF.set(h:oF g t cs F w)(j:Nat)(v:aC){cs':Array aC}(he:cs'=cs.setIfInBounds j v):oF g t cs' F (w.setCell (g,j) v)/\Kp F w (w.setCell (g,j) v):=
 h.eQ (by rw[he];exact h.b.bX j v) (aZ (bK w g) j v)
variable{α:Type}{enc:α->List aC}{sz c:Nat}{A:Option aJ}{xs:List α}
theorem gP.eQ(h:gP enc sz e A c xs F w){ys:List α}(ho:bI enc sz w' 0 e A' c' ys)(a:w.grownBy w' (aY A))(ha:aY A'=aY A\/aY A'=some w.heap.size):gP enc sz e A' c' ys F w'/\Kp F w w':=by
 have k:Kp F w w':=Kp.grown a λb hb=>⟨h.ol b hb,λd=>h.nf b d.symm hb⟩
 refine⟨⟨ho,h.ol.kp k,λq hq hF=>?_⟩,k⟩;rcases ha with ha|ha
 .exact h.nf q (by rw[<-ha];exact hq) hF
 .rw[ha] at hq;injection hq with hq;have:=h.ol q hF;omega
theorem gP.cell(he:∀x,(enc x).length=sz)(h:gP enc sz e q c xs F w)(hi:i<xs.length)(a:j<sz)(x:α)(v:aC)(b:enc x=(enc xs[i]).set j v):gP enc sz e q c (xs.set i x) F (w.setCell (q,i *sz+j) v)/\Kp F w (w.setCell (q,i *sz+j) v):=by
 obtain⟨h1,d⟩:=qO he h.o hi a x v b;exact h.eQ h1 d (.inl rfl)
theorem gP.nil(hF:Ol F w):gP enc sz e none 0 ([]:List α) F w:=⟨bI.nil _ _ _,hF,λq hq=>by cases hq⟩
end
end
section
open Go.RowKit
variable{w:aA}{g:Nat}{p:Int}
section
structure jJ where
 period:Int
 next:Int
 waits:Bool
 EL:Int
 refused:Int
def Zh(s:jJ):Array aC:=#[s.period,s.next,s.waits,s.EL,s.refused]
def Sh(w:aA)(g:Nat)(s:jJ):Prop:=bF w g 251 (Zh s)
theorem Sh.cells{s:jJ}(h:Sh w g s):w.cell? (g,0)=some (.int .i64 s.period)/\w.cell? (g,1)=some (.int .i64 s.next)/\w.cell? (g,2)=some (.bool s.waits)/\w.cell? (g,3)=some (.int .i64 s.EL)/\w.cell? (g,4)=some (.int .i64 s.refused):=
 ⟨h.cell 0 _ rfl,h.cell 1 _ rfl,h.cell 2 _ rfl,h.cell 3 _ rfl,h.cell 4 _ rfl⟩
theorem Sh.free{s:jJ}(h:Sh w g s):w.frozen? (g,1)=false/\w.frozen? (g,2)=false/\w.frozen? (g,3)=false/\w.frozen? (g,4)=false:=
 ⟨bF.frozen h 1,bF.frozen h 2,bF.frozen h 3,bF.frozen h 4⟩
def sP(s:jJ)(now:Int):jJ:={s with next:=now+s.period,waits:=false,EL:=s.EL+1}
structure mC(s:jJ)(k:Nat):Prop where
 p0:1<=s.period
 p1:s.period<=1048576
 n0:0<=s.next
 n1:s.next<=1048576 *(2+(k:Int))
 c0:0<=s.EL
 c1:s.EL<=k
 r0:0<=s.refused
 r1:s.refused<=k
def OZ(v:aC)(s:jJ)(g:Nat)(w:aA)(e:Ending)(w':aA):Prop:=e= .returned v/\Sh w' g s/\w.grownBy w' (some g)
theorem GH(s:jJ)(now:Int)(g:Nat)(k:Nat)(w:aA)(h:Sh w g s)(ok:mC s k)(hk:k<=100000)(a:0<=now)(h1:now<=1048576):
 aG prog 88 #[.pointer g,now] w (OZ (.tuple #[]) (sP s now) g w):=by
 obtain⟨c0,c1,c2,c3,c4⟩:=h.cells;obtain⟨f1,f2,f3,f4⟩:=h.free;obtain⟨p0,p1,n0,n1,a0,b,r0,r1⟩:=ok;have H:=aP h;clear h;go_enter func88,ntmps88
 go_wp2
 go_end0
 exact⟨rfl,((H.o.bX 1 _).bX 2 _).bX 3 _,aZ (aZ (aZ (bK w g) 1 _) 2 _) 3 _⟩
def qE(s:jJ)(now:Int):jJ×Bool×Int:=
 if now<0\/1048576<now then(s,false,1) else if s.waits then({s with refused:=s.refused+1},false,20) else if now<s.next then({s with waits:=true},false,0) else(sP s now,true,0)
def lY(s:jJ)(now:Int):jJ×Bool:=if s.waits=false\/now<s.next\/1048576<now then(s,false) else(sP s now,true)
def jT(s:jJ)(now:Int):jJ×Int:=({s with next:=max now s.next+s.period},max now s.next)
theorem N8{s:jJ}{k:Nat}{now:Int}(h:mC s k)(a:0<=now)(h1:now<=1048576):mC (sP s now) (k+1):=by
 obtain⟨p0,p1,n0,n1,a0,b,r0,r1⟩:=h;exact⟨p0,p1,by simp[sP];omega,by simp[sP];omega,by simp[sP];omega,by simp[sP];omega,by simp[sP];omega,by simp[sP];omega⟩
theorem MP{s:jJ}{k:Nat}(h:mC s k):mC s (k+1):=by
 obtain⟨p0,p1,n0,n1,a0,a,r0,r1⟩:=h;exact⟨p0,p1,n0,aQ,a0,aQ,r0,aQ⟩
theorem QP{s:jJ}{k:Nat}{now:Int}(h:mC s k):mC (qE s now).1 (k+1):=by
 unfold qE;split
 .exact MP h
 .split
  .obtain⟨p0,p1,n0,n1,a0,a,r0,r1⟩:=h;exact⟨p0,p1,n0,bT,a0,bT,bT,bT⟩
  .split
   .obtain⟨p0,p1,n0,n1,a0,a,r0,r1⟩:=h;exact⟨p0,p1,n0,bT,a0,bT,r0,bT⟩
   .exact N8 h aQ aQ
theorem QF{s:jJ}{k:Nat}{now:Int}(h:mC s k):mC (lY s now).1 (k+1):=by
 unfold lY;split
 .exact MP h
 .have:=h.n0;exact N8 h aQ aQ
theorem Ch{s:jJ}{k:Nat}{now:Int}(h:mC s k)(a:0<=now)(h1:now<=1048576):mC (jT s now).1 (k+1):=by
 obtain⟨p0,p1,n0,n1,a0,b,r0,r1⟩:=h;exact⟨p0,p1,by simp[jT];omega,by simp[jT];omega,a0,by simp[jT];omega,r0,by simp[jT];omega⟩
theorem YQ(s:jJ)(now:Int)(g:Nat)(k:Nat)(w:aA)(h:Sh w g s)(ok:mC s k)(hk:k<=100000):
 aG prog 56 #[.pointer g,now] w (OZ (.tuple #[.bool (qE s now).2.1, .int .i64 (qE s now).2.2]) (qE s now).1 g w):=by
 have f:=aP ok;obtain⟨c0,c1,c2,c3,c4⟩:=h.cells;obtain⟨f1,f2,f3,f4⟩:=h.free;obtain⟨p0,p1,n0,n1,a0,i,r0,r1⟩:=ok;have H:=aP h;clear h;by_cases b1:now<0
 .have a:aH (qE s now=(s,false,1)):=by unfold aH qE;rw[Zz (.inl b1)]
  go_enter func56,ntmps56
  go_wp2
  go_ret2
  rw[a.o];exact⟨rfl,H.o,bK w g⟩
 .by_cases b2:1048576<now
  .have a:aH (qE s now=(s,false,1)):=by unfold aH qE;rw[Zz (.inr b2)]
   go_enter func56,ntmps56
   go_wp2
   go_ret2
   rw[a.o];exact⟨rfl,H.o,bK w g⟩
  .cases b3:s.waits
   .rw[b3] at c2;by_cases d:now<s.next
    .have a:aH (qE s now=({s with waits:=true},false,0)):=by unfold aH qE;rw[aaA aQ,aaA (by simp[b3]),Zz d]
     go_enter func56,ntmps56
     go_wp2
     go_ret2
     rw[a.o];exact⟨rfl,H.o.bX 2 _,aZ (bK w g) 2 _⟩
    .have a:aH (qE s now=(sP s now,true,0)):=by unfold aH qE;rw[aaA aQ,aaA (by simp[b3]),aaA d]
     go_enter func56,ntmps56
     go_wp2_with(go_at_call 88;refine(GH s now g k _ H.o f.o hk aQ aQ).mono ?_;rintro e j ⟨rfl,b,c⟩)
     go_ret2
     rw[a.o];exact⟨rfl,b,c⟩
   .rw[b3] at c2;have a:aH (qE s now=({s with refused:=s.refused+1},false,20)):=by unfold aH qE;rw[aaA aQ,Zz b3]
    go_enter func56,ntmps56
    go_wp2
    go_ret2
    rw[a.o];exact⟨rfl,H.o.bX 4 _,aZ (bK w g) 4 _⟩
theorem Z6(s:jJ)(now:Int)(g:Nat)(k:Nat)(w:aA)(h:Sh w g s)(ok:mC s k)(hk:k<=100000):
 aG prog 61 #[.pointer g,now] w (OZ (.bool (lY s now).2) (lY s now).1 g w):=by
 have d:=aP ok;obtain⟨c0,c1,c2,c3,c4⟩:=h.cells;obtain⟨f1,f2,f3,f4⟩:=h.free;obtain⟨p0,p1,n0,n1,a0,i,r0,r1⟩:=ok;have H:=aP h;clear h;cases b3:s.waits
 .rw[b3] at c2;have a:aH (lY s now=(s,false)):=by unfold aH lY;rw[Zz (.inl b3)]
  go_enter func61,ntmps61
  go_wp2
  go_ret
  rw[a.o];exact⟨rfl,H.o,bK w g⟩
 .rw[b3] at c2;by_cases f:now<s.next
  .have a:aH (lY s now=(s,false)):=by unfold aH lY;rw[Zz (.inr (.inl f))]
   go_enter func61,ntmps61
   go_wp2
   go_ret
   rw[a.o];exact⟨rfl,H.o,bK w g⟩
  .by_cases b2:1048576<now
   .have a:aH (lY s now=(s,false)):=by unfold aH lY;rw[Zz (.inr (.inr b2))]
    go_enter func61,ntmps61
    go_wp2
    go_ret
    rw[a.o];exact⟨rfl,H.o,bK w g⟩
   .have a:aH (lY s now=(sP s now,true)):=by unfold aH lY;rw[aaA (by simp[b3];omega)]
    go_enter func61,ntmps61
    go_wp2_with(go_at_call 88;refine(GH s now g k _ H.o d.o hk aQ aQ).mono ?_;rintro e j ⟨rfl,b,c⟩)
    go_ret
    rw[a.o];exact⟨rfl,b,c⟩
theorem VA(s:jJ)(now:Int)(g:Nat)(k:Nat)(w:aA)(h:Sh w g s)(ok:mC s k)(hk:k<=100000)(c:0<=now)(h1:now<=1048576):
 aG prog 92 #[.pointer g,now] w (OZ (.int .i64 (jT s now).2) (jT s now).1 g w):=by
 obtain⟨c0,c1,c2,c3,c4⟩:=h.cells;obtain⟨f1,f2,f3,f4⟩:=h.free;obtain⟨p0,p1,n0,n1,a0,d,r0,r1⟩:=ok;have H:=aP h;clear h;by_cases b:now<s.next
 .have a:aH (jT s now=({s with next:=s.next+s.period},s.next)):=by unfold aH jT;rw[Int.max_eq_right aQ]
  go_enter func92,ntmps92
  go_wp2
  go_ret
  rw[a.o];exact⟨rfl,H.o.bX 1 _,aZ (bK w g) 1 _⟩
 .have a:aH (jT s now=({s with next:=now+s.period},now)):=by unfold aH jT;rw[Int.max_eq_left aQ]
  go_enter func92,ntmps92
  go_wp2
  go_ret
  rw[a.o];exact⟨rfl,H.o.bX 1 _,aZ (bK w g) 1 _⟩
def kB(p:Int):jJ:=⟨p,0,false,0,0⟩
theorem Gs(a:1<=p)(h1:p<=1048576):mC (kB p) 0:=⟨a,h1,by simp[kB],by simp[kB],by simp[kB],by simp[kB],by simp[kB],by simp[kB]⟩
def Rk(p:Int)(w:aA)(e:Ending)(w':aA):Prop:=∃g,e= .returned (.tuple #[.pointer (some ⟨g,0,none⟩),aU])/\w.heap.size<=g/\Sh w' g (kB p)/\aD w w w'
theorem ZJ(p:Int)(w:aA)(a:1<=p)(h1:p<=1048576):aG prog 52 #[p] w (Rk p w):=by
 go_enter func52,ntmps52
 go_wp2
 go_ret2
 exact⟨w.heap.size,rfl,Zw _,bF.new w _ _,aX _ _⟩
end
end
section
structure Sc where
 lk:Int
 fr:Int
 iJ:Int
structure Tk where
 co:Int
 pe:Int
 de:Int
 se:List Sc
 po:Int
structure Jb where
 tk:Int
 nu:Int
 ca:Int
 de:Int
 ra:Int
 dm:Int
 lf:Int
 bg:Bool
 bh:Bool
 rs:Int
 lt:Bool
structure Ev where
 kd:Int
 tk:Int
 jb:Int
 at_:Int
structure Lb where
 ts:List Tk
 od:Int
 rk:List Int
 ce:Nat->Int
 nw:Int
 sh:List jJ
 nu:List Int
 wt:List Int
 jb:List Jb
 lg:List Ev
def Vz:Jb:=⟨0,0,0,0,0,0,0,false,false,0,false⟩
def nB:Tk:=⟨0,0,0, [],0⟩
def Yg:jJ:=⟨1,0,false,0,0⟩
def BZ(t:Tk)(lock vD:Int):Bool:=t.se.any λs=>decide (s.lk=lock/\s.fr<=vD/\vD<s.iJ)
def iD(x:Lb)(i:Int):Tk:=x.ts.getD i.toNat nB
def yY(x:Lb)(i:Int):Int:=x.rk.getD i.toNat 0
def jR(x:Lb)(i:Int):jJ:=x.sh.getD i.toNat Yg
def dK(x:Lb)(i:Nat):Jb:=x.jb.getD i Vz
def BH(x:Lb)(j:Jb)(lock:Int):Bool:=j.bg&&decide (j.rs=0)&&BZ (iD x j.tk) lock j.ra
def LM(x:Lb)(LV:Int)(j:Jb)(lock:Nat):Bool:=!(decide (x.ce lock<=LV)&&BH x j lock)
def DF(x:Lb)(place:Nat)(i:Nat):Bool:=decide (i=place) || (List.range 8).all (LM x (yY x (dK x place).tk) (dK x i))
def IG(x:Lb)(place:Nat):Bool:=(List.range x.jb.length).all (DF x place)
def pO(x:Lb)(a b:Jb):Bool:=
 if a.bh !=b.bh then b.bh
 else if x.od=1/\yY x a.tk≠yY x b.tk then decide (yY x a.tk<yY x b.tk)
 else if a.de≠b.de then decide (a.de<b.de)
 else if a.tk≠b.tk then decide (a.tk<b.tk)
 else decide (a.nu<b.nu)
def zC(x:Lb)(o:Option Nat)(i:Nat):Bool:=match o with
 |none=>true
 |some f=>pO x (dK x i) (dK x f)
def fR(x:Lb):Nat->Option Nat×Option Nat
 |0=>(none,none)
 |k+1=>if x.nw<(dK x k).ca then fR x k else
  (if zC x (fR x k).1 k then some k else(fR x k).1,if(dK x k).bg&&zC x (fR x k).2 k then some k else(fR x k).2)
def mV(x:Lb):Option Nat:=match(fR x x.jb.length).1 with
 |none=>none
 |some f=>if(dK x f).bg || IG x f then some f else(fR x x.jb.length).2
def iY(x:Lb)(kd:Int)(j:Jb):Lb:={x with lg:=x.lg++ [⟨kd,j.tk,j.nu,x.nw⟩]}
def qJ(x:Lb)(task demand:Int):Jb:=⟨task,x.nu.getD task.toNat 0+1,x.nw,x.nw+(iD x task).de,0,demand,(iD x task).co,false,false,0,false⟩
def sK(x:Lb)(task demand:Int):Lb:=iY {x with nu:=x.nu.set task.toNat (x.nu.getD task.toNat 0+1),jb:=x.jb++ [qJ x task demand]} 1 (qJ x task demand)
def dT(x:Lb)(i:Int)(s:jJ):Lb:={x with sh:=x.sh.set i.toNat s}
def cH(x:Lb)(i:Nat)(j:Jb):Lb:={x with jb:=x.jb.set i j}
def FB(x:Lb)(task:Int):jJ×Bool×Int:=qE (jR x task) x.nw
def jD(x:Lb)(task demand:Int):Int×Lb:=
 if task<0\/x.ts.length<=task\/demand<1\/1048576<demand then(1,x) else
 if(FB x task).2.2≠0 then((FB x task).2.2,dT x task (FB x task).1) else
 if(FB x task).2.1 then(0,sK (dT x task (FB x task).1) task demand) else
 (0,{dT x task (FB x task).1 with wt:=x.wt.set task.toNat demand})
def xH(x:Lb)(kd:Int)(i:Nat):Lb:={iY x kd (dK x i) with jb:=x.jb.eraseIdx i}
def gN(j:Jb):Jb:={j with bg:=true,ra:=j.ra+1,lf:=if j.bh then j.lf else j.lf - 1}
def qG(x:Lb)(i:Nat):Lb:=
 let j:=gN (dK x i)
 let y:=cH x i j
 if j.ra=j.dm then xH y 2 i else
 if 0<j.lf then y else
 if(iD x j.tk).po=0 then xH y 3 i else
 if(iD x j.tk).po=1 then
  (if j.bh then y else let k:Jb:={j with bh:=true,rs:=j.rs+1};iY (cH y i k) 4 k)
 else
  let p:=jT (jR x j.tk) x.nw
  let k:Jb:={j with ca:=p.2,de:=p.2+(iD x j.tk).de,lf:=(iD x j.tk).co,rs:=j.rs+1,bg:=false,lt:=false}
  iY (cH (dT y j.tk p.1) i k) 5 k
def AA(x:Lb)(i:Nat):Lb:=
 let j:=dK x i
 if j.bh=false/\j.lt=false/\j.de<=x.nw then iY (cH x i {j with lt:=true}) 6 {j with lt:=true} else x
def eJ(x:Lb):Nat->Lb
 |0=>x
 |k+1=>AA (eJ x k) k
def DL(x:Lb)(i:Nat):Lb:=if(lY (jR x i) x.nw).2 then sK (dT x i (lY (jR x i) x.nw).1) i (x.wt.getD i 0) else x
def eC(x:Lb):Nat->Lb
 |0=>x
 |k+1=>DL (eC x k) k
def gY(x:Lb)(given:Bool):Option Nat:=if given then mV x else none
def qZ(x:Lb)(given:Bool):Lb:=match gY x given with
 |none=>{x with nw:=x.nw+1}
 |some i=>qG {x with nw:=x.nw+1} i
def gG(x:Lb)(given:Bool):Lb:=eC (eJ (qZ x given) (qZ x given).jb.length) x.ts.length
end
section
open Go.RowKit Go.Lib Go.Shelf
def lP(s:Sc):List aC:= [.int .i64 s.lk, .int .i64 s.fr, .int .i64 s.iJ]
theorem BR:eL lP 3:=⟨λ_=>rfl,λx u hu=>by simp[lP] at hu;rcases hu with rfl|rfl|rfl <;> rfl⟩
structure Tm where
 t:Tk
 A:Option aJ
 c:Nat
def pI(x:Tm):List aC:= [.int .i64 x.t.co, .int .i64 x.t.pe, .int .i64 x.t.de, .slice x.A x.t.se.length x.c, .int .i64 x.t.po]
theorem lK:eL pI 5:=⟨λ_=>rfl,λx u hu=>by simp[pI] at hu;rcases hu with rfl|rfl|rfl|rfl|rfl <;> rfl⟩
def jV(j:Jb):List aC:= [.int .i64 j.tk, .int .i64 j.nu, .int .i64 j.ca, .int .i64 j.de, .int .i64 j.ra, .int .i64 j.dm, .int .i64 j.lf, .bool j.bg, .bool j.bh, .int .i64 j.rs, .bool j.lt]
theorem kJ:eL jV 11:=⟨λ_=>rfl,λx u hu=>by simp[jV] at hu;rcases hu with rfl|rfl|rfl|rfl|rfl|rfl|rfl|rfl|rfl|rfl|rfl <;> rfl⟩
def qW(x:Ev):List aC:= [.int .i64 x.kd, .int .i64 x.tk, .int .i64 x.jb, .int .i64 x.at_]
theorem wQ:eL qW 4:=⟨λ_=>rfl,λx u hu=>by simp[qW] at hu;rcases hu with rfl|rfl|rfl|rfl <;> rfl⟩
def xN(a:Nat):List aC:= [.pointer a]
theorem EG:eL xN 1:=⟨λ_=>rfl,λx u hu=>by simp[xN] at hu;subst hu;rfl⟩
structure M2(F:Nat->Prop)(w:aA)(A:Option aJ)(c:Nat)(L:List Tm):Prop where
 o:bI pI 5 w 0 125 A c L
 sl:∀x∈L,Sl lP 3 w x.A x.t.se
 fl:Ol F w
 fA:∀q,aY A=some q->¬F q
 fS:∀x∈L,∀q,aY x.A=some q->q<w.heap.size/\¬F q
 cp:∀x∈L,x.t.se.length<=x.c
def OA(A:Option aJ)(c:Nat)(L:List Tm):Pt:=⟨λF w=>M2 F w A c L,λ_ _ _ _ _ h k hG fl hH=>⟨h.o.kp k (λq hq=>hG q (h.o.lt q hq).2 (h.fA q hq)),λx hx=>(h.sl x hx).kp k (λq hq=>hG q (h.fS x hx q hq).1 (h.fS x hx q hq).2),fl,λq hq=>hH q (h.o.lt q hq).2 (h.fA q hq),λx hx q hq=>⟨Zy (h.fS x hx q hq).1 k.size,hH q (h.fS x hx q hq).1 (h.fS x hx q hq).2⟩,h.cp⟩⟩
structure EH(F:Nat->Prop)(w:aA)(a:List Nat)(l:List jJ):Prop where
 len:a.length=l.length
 nd:a.Nodup
 sh:∀(i:Nat) (h:i<a.length) (h':i<l.length),Sh w a[i] l[i]
 fl:Ol F w
 fa:∀q∈a,q<w.heap.size/\¬F q
def N9(a:List Nat)(l:List jJ):Pt:=⟨λF w=>EH F w a l,λ_ _ _ _ _ h k hG fl hH=>⟨h.len,h.nd,λi hi hi'=>k.aY (h.sh i hi hi') (hG _ (h.fa _ (aaF hi)).1 (h.fa _ (aaF hi)).2),fl,λq hq=>⟨Zy (h.fa q hq).1 k.size,hH q (h.fa q hq).1 (h.fa q hq).2⟩⟩⟩
section
variable{F:Nat->Prop}{w w':aA}{a:List Nat}{l:List jJ}{i:Nat}
theorem EH.eQ(h:EH F w a l)(hi:i<a.length)(f:i<l.length){s:jJ}(hs:Sh w' a[i] s)(d:w.grownBy w' (some a[i])):EH F w' a (l.set i s)/\Kp F w w':=by
 have hm:=h.fa _ (aaF hi);have k:=h.fl.self hm.2 d;refine⟨⟨by rw[aaL];exact h.len,h.nd,λj g b=>?_,h.fl.kp k,λq hq=>⟨Zy (h.fa q hq).1 k.size,(h.fa q hq).2⟩⟩,k⟩;rw[abA];rw[aaL] at b;split
 .rename_i e;subst e;exact hs
 .rename_i e;exact bF.grown (h.sh j g b) d (λc=>e (by
   injection c with c;exact((List.getElem_inj h.nd).1 c.symm)))
end
structure La where
 T:Option aJ
 cT:Nat
 L:List Tm
 K:Option aJ
 cK:Nat
 S:Option aJ
 cS:Nat
 a:List Nat
 U:Option aJ
 cU:Nat
 V:Option aJ
 cV:Nat
 J:Option aJ
 cJ:Nat
 G:Option aJ
 cG:Nat
def fO(x:Lb)(y:La):Array aC:=#[(y.T,y.L.length,y.cT),x.od,(y.K,x.rk.length,y.cK), .int .i64 (x.ce 0), .int .i64 (x.ce 1), .int .i64 (x.ce 2), .int .i64 (x.ce 3), .int .i64 (x.ce 4), .int .i64 (x.ce 5), .int .i64 (x.ce 6), .int .i64 (x.ce 7),x.nw,(y.S,y.a.length,y.cS),(y.U,x.nu.length,y.cU),(y.V,x.wt.length,y.cV),(y.J,x.jb.length,y.cJ),(y.G,x.lg.length,y.cG)]
def jC(g:Nat)(x:Lb)(y:La):List Pt:= [PB g 193 (fO x y),OA y.T y.cT y.L,PR eI 1 3 y.K y.cK x.rk,PR xN 1 194 y.S y.cS y.a,N9 y.a x.sh,PR eI 1 3 y.U y.cU x.nu,PR eI 1 3 y.V y.cV x.wt,PR jV 11 209 y.J y.cJ x.jb,PR qW 4 165 y.G y.cG x.lg]
variable{l:List Pt}{F G:Nat->Prop}{w w':aA}{sz i m:Nat}{A:Option aJ}
section
theorem Ob.use(h:Ob l F w)(i:Nat)(p:Pt)(hp:l[i]?=some p):∃G,p.X G w/\(∀(a:Pt) (w':aA),a.X G w'->Kp G w w'->Ob (l.set i a) F w'/\Kp F w w'):=by
 obtain⟨c,h⟩:=h;exact⟨_,h.get i hp,λa w' b k=>⟨⟨_,(h.eQ i a b k).1⟩,(h.eQ i a b k).2⟩⟩
theorem Ob.QC(h:Ob l F w)(hb:aD w w w'):Kp F w w':=h.fl.below hb
theorem Ob.Sf{α:Type}{enc:α->List aC}{e:aN}{c:Nat}{xs:List α}(h:Ob l F w)(i:Nat)(hp:l[i]?=some (PR enc sz e A c xs)):Ob (l.set i (PR enc sz e Option.none 0 ([]:List α))) (λb=>F b\/aY A=some b) w:=by
 obtain⟨a,hF,k⟩:=h;have s:gP enc sz e A c xs (Fo w a (i+1)) w:=k i _ hp;have hq:∀q,aY A=some q->q<w.heap.size/\a q=i+1:=λq hq=>by
  have h1:=(s.o.lt q hq).2;exact⟨h1,aaW λhc=>s.nf q hq ⟨h1,hc⟩⟩
 refine⟨λb=>if aY A=some b then 0 else a b,λb hb=>?_,λm p hm=>?_⟩
 .rcases hb with hb|hb
  .refine⟨(hF b hb).1,?_⟩;simp only;split
   .rfl
   .exact(hF b hb).2
  .exact⟨(hq b hb).1,Zz hb⟩
 .rw[abF] at hm;split at hm
  .split at hm
   .injection hm with hm;subst hm;exact gP.nil (Fo.ol _ _ _)
   .cases hm
  .rename_i d;refine p.cD _ (λ_=>True) _ w w (k m p hm) (Kp.refl _ _) (λ_ _ _=>trivial) (Fo.ol _ _ _) (λr f t hf=>?_);have h1:a r=m+1:=aaW λhc=>t ⟨f,hc⟩
   have j:=hf.2;simp only at j;split at j
   .rename_i u;have:=(hq r u).2;exact d aQ
   .exact j h1
structure Du where
 at_:Int
 hd:Int
 wh:Int
instance:Inhabited Du:=⟨⟨0,0,0⟩⟩
def uB(x:Du):List aC:= [.int .i64 x.at_, .int .i64 x.hd, .int .i64 x.wh]
theorem rD:eL uB 3:=⟨λ_=>rfl,λx u hu=>by simp[uB] at hu;rcases hu with rfl|rfl|rfl <;> rfl⟩
def zL(x:Du):aC:= .agg #[x.at_,x.hd,x.wh]
structure Hr where
 A:Option aJ
 c:Nat
 xs:List Int
structure Wa where
 nw:Int
 hs:Int
 M:Nat
 f:Int->Option Du
 R:List Hr
def Kn(M:Nat)(f:Int->Option Du)(F:Nat->Prop)(w:aA):Prop:=iG zL w M f/\Ol F w/\¬F M
theorem Kn.cD(M:Nat)(f:Int->Option Du):dN (Kn M f):=λ_ _ _ _ _ ⟨h,_,a⟩ k b fl hH=>⟨h.same (k.block M (b M h.lt a)),fl,hH M h.lt a⟩
def Kl(M:Nat)(f:Int->Option Du):Pt:=⟨Kn M f,Kn.cD M f⟩
def rT(r:Hr):aC:= .slice r.A r.xs.length r.c
def vB(y:Wa):List aC:= [.bool true, .int .i64 y.nw, .int .i64 y.hs, .map (some y.M)]++y.R.map rT
def PY(r:Hr):Pt:=PR eI 1 3 r.A r.c r.xs
def RG(g:Nat)(y:Wa):List Pt:= [PB g 339 (vB y).toArray,Kl y.M y.f]++y.R.map PY
def iA(R:List Hr):Nat:=(R.map λr=>r.xs.length).sum
structure Wf(y:Wa)(n:Nat):Prop where
 nw:0<=y.nw/\y.nw<=1048576
 hs:0<=y.hs/\y.hs<=n
 len:y.R.length=256
 sum:iA y.R<=n
 ok:∀x d,y.f x=some d->(0<=d.wh/\d.wh<4)/\0<=d.at_/\d.at_<=2097152
structure dG(F:Nat->Prop)(w:aA)(g n:Nat)(y:Wa):Prop where
 o:Ob (RG g y) F w
 i:Wf y n
def BM(F:Nat->Prop)(w:aA)(g n:Nat):Prop:=∃y,dG F w g n y
theorem BM.cD(g n:Nat):dN (λF w=>BM F w g n):=λF G H w w' ⟨y,h⟩ k a fl hH=>⟨y,Ob.cD _ F G H w w' h.o k a fl hH,h.i⟩
theorem CS{R:List Hr}(hi:i<R.length)(r:Hr):iA (R.set i r)+R[i].xs.length=iA R+r.xs.length:=by
 unfold iA;induction R generalizing i with
 |nil=>simp at hi
 |cons x R a=>
  cases i with
  |zero=>simp;omega
  |succ i=>
   simp only[aaD,List.map_cons,List.sum_cons,abG];have:=a (i:=i) (by simpa using hi);omega
theorem yB{R:List Hr}(hi:i<R.length):R[i].xs.length<=iA R:=by
 have:=CS hi ⟨none,0, []⟩;simp at this;omega
section
variable{F:Nat->Prop}{w w':aA}{g n:Nat}{y:Wa}
theorem dG.below(h:dG F w g n y)(hb:aD w w w'):dG F w' g n y/\Kp F w w':=⟨⟨h.o.below hb,h.i⟩,h.o.fl.below hb⟩
theorem dG.fl(h:dG F w g n y):Ol F w:=h.o.fl
theorem dG.bk(h:dG F w g n y):bF w g 339 (vB y).toArray:=by
 obtain⟨a,h1⟩:=h.o;exact(h1.get 0 (p:=PB g 339 (vB y).toArray) rfl).b
theorem dG.mp(h:dG F w g n y):iG zL w y.M y.f:=by
 obtain⟨a,h1⟩:=h.o;exact(h1.get 1 (p:=Kl y.M y.f) rfl).1
theorem FQ(hi:i<y.R.length):(RG g y)[2+i]?=some (PY y.R[i]):=by
 rw[RG,aaJ aT];simp[hi]
theorem dG.row(h:dG F w g n y)(hi:i<y.R.length):bI eI 1 w 0 3 y.R[i].A y.R[i].c y.R[i].xs:=by
 obtain⟨a,h1⟩:=h.o;exact(h1.get (2+i) (FQ hi)).o
theorem dG.c0(h:dG F w g n y):w.cell? (g,0)=some (.bool true):=h.bk.cell 0 _ rfl
theorem dG.c1(h:dG F w g n y):w.cell? (g,1)=some (.int .i64 y.nw):=h.bk.cell 1 _ rfl
theorem dG.c2(h:dG F w g n y):w.cell? (g,2)=some (.int .i64 y.hs):=h.bk.cell 2 _ rfl
theorem dG.c3(h:dG F w g n y):w.cell? (g,3)=some (.map (some y.M)):=h.bk.cell 3 _ rfl
theorem dG.cr(h:dG F w g n y)(hi:i<y.R.length):w.cell? (g,4+i)=some (rT y.R[i]):=by
 refine h.bk.cell (4+i) _ ?_;rw[aaR,vB,aaJ aT];simp[hi]
theorem dG.fz(h:dG F w g n y)(i:Nat):w.frozen? (g,i)=false:=h.bk.frozen i
theorem dG.O0(h:dG F w g n y){v:Int}(b:0<=v/\v<=1048576):dG F (w.setCell (g,1) v) g n {y with nw:=v}/\Kp F w (w.setCell (g,1) v):=by
 obtain⟨G,a,back⟩:=Ob.use h.o 0 _ rfl;obtain⟨b1,b2⟩:=back (PB g 339 (vB {y with nw:=v}).toArray) _ (a.set 1 (.int .i64 v) rfl).1 (a.set 1 (.int .i64 v) rfl).2;exact⟨⟨b1,⟨b,h.i.hs,h.i.len,h.i.sum,h.i.ok⟩⟩,b2⟩
theorem dG.Vd(h:dG F w g n y){v:Int}(b:n<=m)(c:0<=v/\v<=m):dG F (w.setCell (g,2) v) g m {y with hs:=v}/\Kp F w (w.setCell (g,2) v):=by
 obtain⟨G,a,back⟩:=Ob.use h.o 0 _ rfl;obtain⟨b1,b2⟩:=back (PB g 339 (vB {y with hs:=v}).toArray) _ (a.set 2 (.int .i64 v) rfl).1 (a.set 2 (.int .i64 v) rfl).2;exact⟨⟨b1,⟨h.i.nw,c,h.i.len,aaC h.i.sum b,h.i.ok⟩⟩,b2⟩
theorem dG.U4(h:dG F w g n y){f:Int->Option Du}(hm:iG zL w' y.M f)(c:w.grownBy w' (some y.M))(hf:∀x d,f x=some d->(0<=d.wh/\d.wh<4)/\0<=d.at_/\d.at_<=2097152):dG F w' g n {y with f:=f}/\Kp F w w':=by
 obtain⟨G,e,back⟩:=Ob.use h.o 1 _ rfl;obtain⟨j,a,b⟩:=e;obtain⟨b1,b2⟩:=back (Kl y.M f) w' ⟨hm,a.kp (a.self b c),b⟩ (a.self b c);exact⟨⟨b1,⟨h.i.nw,h.i.hs,h.i.len,h.i.sum,hf⟩⟩,b2⟩
theorem LG(r:Hr):(RG g y).set (2+i) (PY r)= [PB g 339 (vB y).toArray,Kl y.M y.f]++(y.R.set i r).map PY:=by
 rw[RG,aaQ _ _ aT,ab6];simp
theorem dG.setRow(h:dG F w g n y)(hi:i<y.R.length){c:Nat}{xs:List Int}(ho:bI eI 1 w' 0 3 A c xs)(e:w.grownBy w' (aY y.R[i].A))(ha:aY A=aY y.R[i].A\/aY A=some w.heap.size)(hm:n<=m)(hs:iA (y.R.set i ⟨A,c,xs⟩)<=m):
 dG F (w'.setCell (g,4+i) (.slice A xs.length c)) g m {y with R:=y.R.set i ⟨A,c,xs⟩}/\Kp F w (w'.setCell (g,4+i) (.slice A xs.length c)):=by
 obtain⟨G,f,back⟩:=Ob.use h.o (2+i) _ (FQ hi);have b:gP eI 1 3 y.R[i].A y.R[i].c y.R[i].xs G w:=f;obtain⟨t1,t2⟩:=b.eQ ho e ha;obtain⟨b1,b2⟩:=back (PY ⟨A,c,xs⟩) w' t1 t2;rw[LG] at b1;obtain⟨j,d,a⟩:=Ob.use b1 0 _ rfl;obtain⟨s1,s2⟩:=oF.set (cs':=(vB {y with R:=y.R.set i ⟨A,c,xs⟩}).toArray) d (4+i) (.slice A xs.length c) (by
  rw[Zx];congr 1
  unfold vB;rw[aaQ _ _ aT,ab6];simp[rT])
 obtain⟨d1,d2⟩:=a (PB g 339 (vB {y with R:=y.R.set i ⟨A,c,xs⟩}).toArray) _ s1 s2;exact⟨⟨d1,⟨h.i.nw,⟨h.i.hs.1,by have:=h.i.hs.2;show y.hs<=_;omega⟩,by rw[aaL];exact h.i.len,hs,h.i.ok⟩⟩,b2.trans d2⟩
theorem dG.take(h:dG F w g n y)(hi:i<y.R.length):dG (λb=>F b\/aY y.R[i].A=some b) (w.setCell (g,4+i) (.slice none 0 0)) g n {y with R:=y.R.set i ⟨none,0, []⟩}/\Kp (λb=>F b\/aY y.R[i].A=some b) w (w.setCell (g,4+i) (.slice none 0 0))/\iA (y.R.set i ⟨none,0, []⟩)+y.R[i].xs.length=iA y.R:=by
 have b1:=Ob.Sf h.o (2+i) (FQ hi);have b2:Ob ((RG g y).set (2+i) (PY ⟨none,0, []⟩)) (λb=>F b\/aY y.R[i].A=some b) w:=b1;rw[LG] at b2;obtain⟨d,c,a⟩:=Ob.use b2 0 _ rfl;obtain⟨s1,s2⟩:=oF.set (cs':=(vB {y with R:=y.R.set i ⟨none,0, []⟩}).toArray) c (4+i) (.slice none 0 0) (by
  rw[Zx];congr 1
  unfold vB;rw[aaQ _ _ aT,ab6];simp[rT])
 obtain⟨d1,d2⟩:=a (PB g 339 (vB {y with R:=y.R.set i ⟨none,0, []⟩}).toArray) _ s1 s2;have:=CS hi ⟨none,0, []⟩;exact⟨⟨d1,⟨h.i.nw,h.i.hs,by rw[aaL];exact h.i.len,by have:=h.i.sum;simp at *;omega,h.i.ok⟩⟩,d2,by simpa using this⟩
theorem dG.less(h:dG F w g n y)(a:∀b,G b->F b):dG G w g n y:=by
 exact⟨Ob.cD _ F (λ_=>True) G w w h.o (Kp.refl _ _) (λ_ _ _=>trivial) (λb hb=>h.o.fl b (a b hb)) (λr _ c d=>c (a r d)),h.i⟩
end
end
variable{q:Nat}
section
structure YY(x:Lb)(n:Nat)(j:Jb):Prop where
 t0:0<=j.tk
 t1:j.tk<x.ts.length
 r0:0<=j.ra
 r1:j.ra<=x.nw
 l0: -x.nw<=j.lf
 l1:j.lf<=1048576
 c0:0<=j.ca
 c1:j.ca<=1048576 *(2+(n:Int))
 d0:0<=j.de
 d1:j.de<=1048576 *(3+(n:Int))
 s0:0<=j.rs
 s1:j.rs<=n
structure Vo(t:Tk):Prop where
 c0:1<=t.co
 c1:t.co<=1048576
 p0:1<=t.pe
 p1:t.pe<=1048576
 d0:1<=t.de
 d1:t.de<=1048576
 sl:t.se.length<=8
 o0:0<=t.po
 o1:t.po<=2
structure GS(x:Lb)(n m:Nat):Prop where
 lr:x.rk.length=x.ts.length
 ls:x.sh.length=x.ts.length
 lu:x.nu.length=x.ts.length
 lw:x.wt.length=x.ts.length
 tl:x.ts.length<=8
 tk:∀t∈x.ts,Vo t
 n0:0<=x.nw
 n1:x.nw<=1048576
 sh:∀s∈x.sh,mC s n
 nu:∀v∈x.nu,0<=v/\v<=n
 jl:x.jb.length<=n
 jo:∀j∈x.jb,YY x n j
 gl:x.lg.length<=m
structure bR(F:Nat->Prop)(w:aA)(g:Nat)(x:Lb)(y:La):Prop where
 ts:y.L.map Tm.t=x.ts
 o:Ob (jC g x y) F w
structure vV(w:aA)(q o:Nat)(j:Jb):Prop where
 c0:w.cell? (q,o)=some (.int .i64 j.tk)
 c1:w.cell? (q,o+1)=some (.int .i64 j.nu)
 c2:w.cell? (q,o+2)=some (.int .i64 j.ca)
 c3:w.cell? (q,o+3)=some (.int .i64 j.de)
 c4:w.cell? (q,o+4)=some (.int .i64 j.ra)
 c5:w.cell? (q,o+5)=some (.int .i64 j.dm)
 c6:w.cell? (q,o+6)=some (.int .i64 j.lf)
 c7:w.cell? (q,o+7)=some (.bool j.bg)
 c8:w.cell? (q,o+8)=some (.bool j.bh)
 c9:w.cell? (q,o+9)=some (.int .i64 j.rs)
 wV:w.cell? (q,o+10)=some (.bool j.lt)
theorem vV.keep{o:Nat}{j:Jb}(h:vV w q o j)(hb:aD w w w'):vV w' q o j:=
 ⟨bG hb h.c0,bG hb h.c1,bG hb h.c2,bG hb h.c3,bG hb h.c4,bG hb h.c5,bG hb h.c6,bG hb h.c7,bG hb h.c8,bG hb h.c9,bG hb h.wV⟩
theorem vX{α:Type}{enc:α->List aC}{base:Nat}{e:aN}{c:Nat}{xs:List α}(h:bI enc sz w base e A c xs)(a:0<xs.length):∃q,A=some ⟨q,0,none⟩:=by
 rcases h.shape with⟨_,b,_⟩|h
 .rw[b] at a;simp at a
 .exact h
section
variable{F:Nat->Prop}{w w':aA}{g:Nat}{x:Lb}{y:La}{n:Nat}
theorem bR.fl(h:bR F w g x y):Ol F w:=h.o.fl
theorem bR.below(h:bR F w g x y)(hb:aD w w w'):bR F w' g x y:=⟨h.ts,h.o.below hb⟩
theorem bR.bk(h:bR F w g x y):bF w g 193 (fO x y):=by
 obtain⟨a,h1⟩:=h.o;exact(h1.get 0 (p:=PB g 193 (fO x y)) rfl).b
theorem bR.len(h:bR F w g x y):y.L.length=x.ts.length:=by rw[<-h.ts,abB]
theorem bR.task(h:bR F w g x y)(d:n<x.ts.length):∃q A c,y.T=some ⟨q,0,none⟩/\w.cell? ⟨q,n *5,none⟩=some (.int .i64 (iD x n).co)/\w.cell? ⟨q,n *5+1,none⟩=some (.int .i64 (iD x n).pe)/\w.cell? ⟨q,n *5+2,none⟩=some (.int .i64 (iD x n).de)/\w.cell? ⟨q,n *5+3,none⟩=some (.slice A (iD x n).se.length c)/\w.cell? ⟨q,n *5+4,none⟩=some (.int .i64 (iD x n).po)/\Sl lP 3 w A (iD x n).se:=by
 obtain⟨f,h1⟩:=h.o;have b:M2 (Fo w f 2) w y.T y.cT y.L:=h1.get 1 (p:=OA y.T y.cT y.L) rfl;have a:n<y.L.length:=by rw[h.len];exact d
 obtain⟨q,hq⟩:=vX b.o aQ;have ho:=b.o;rw[hq] at ho;have e:iD x (n:Int)=y.L[n].t:=by
  unfold iD;rw[aaG,aaI,<-h.ts,acS,Zv a];rfl
 rw[e];refine⟨q,y.L[n].A,y.L[n].c,hq,?_,?_,?_,?_,?_,b.sl _ (aaF a)⟩
 .simpa using bM lK ho a (j:=0) rfl
 .exact bM lK ho a (j:=1) rfl
 .exact bM lK ho a (j:=2) rfl
 .exact bM lK ho a (j:=3) rfl
 .exact bM lK ho a (j:=4) rfl
theorem LC{base:Nat}{e:aN}{c:Nat}{xs:List Int}(h:bI eI 1 w base e A c xs)(a:n<xs.length):∃q,A=some ⟨q,0,none⟩/\w.cell? ⟨q,n,none⟩=some (.int .i64 (xs.getD n 0)):=by
 obtain⟨q,hq⟩:=vX h aQ;subst hq;refine⟨q,rfl,?_⟩;have:=bM gK h a (j:=0) (v:= .int .i64 xs[n]) rfl;rw[aaI,Zv a];simpa using this
theorem bR.LV(h:bR F w g x y)(a:n<x.rk.length):∃q,y.K=some ⟨q,0,none⟩/\w.cell? ⟨q,n,none⟩=some (.int .i64 (yY x n)):=by
 obtain⟨b,h1⟩:=h.o;have c:gP eI 1 3 y.K y.cK x.rk (Fo w b 3) w:=h1.get 2 (p:=PR eI 1 3 y.K y.cK x.rk) rfl;exact LC c.o a
theorem bR.num(h:bR F w g x y)(a:n<x.nu.length):∃q,y.U=some ⟨q,0,none⟩/\w.cell? ⟨q,n,none⟩=some (.int .i64 (x.nu.getD n 0)):=by
 obtain⟨b,h1⟩:=h.o;have c:gP eI 1 3 y.U y.cU x.nu (Fo w b 6) w:=h1.get 5 (p:=PR eI 1 3 y.U y.cU x.nu) rfl;exact LC c.o a
theorem bR.wait(h:bR F w g x y)(a:n<x.wt.length):∃q,y.V=some ⟨q,0,none⟩/\w.cell? ⟨q,n,none⟩=some (.int .i64 (x.wt.getD n 0)):=by
 obtain⟨b,h1⟩:=h.o;have c:gP eI 1 3 y.V y.cV x.wt (Fo w b 7) w:=h1.get 6 (p:=PR eI 1 3 y.V y.cV x.wt) rfl;exact LC c.o a
theorem Py{base:Nat}{e:aN}{c:Nat}{xs:List Jb}(h:bI jV 11 w base e q c xs)(a:n<xs.length):vV w q (n *11) (xs.getD n Vz):=by
 rw[aaI,Zv a];have b:=bM kJ h a (j:=0) rfl;rw[aaU] at b;exact⟨b,bM kJ h a (j:=1) rfl,bM kJ h a (j:=2) rfl,bM kJ h a (j:=3) rfl,bM kJ h a (j:=4) rfl,bM kJ h a (j:=5) rfl,bM kJ h a (j:=6) rfl,bM kJ h a (j:=7) rfl,bM kJ h a (j:=8) rfl,bM kJ h a (j:=9) rfl,bM kJ h a (j:=10) rfl⟩
theorem bR.lI(h:bR F w g x y)(b:n<x.jb.length):∃q,y.J=some ⟨q,0,none⟩/\vV w q (n *11) (dK x n):=by
 obtain⟨c,h1⟩:=h.o;have a:gP jV 11 209 y.J y.cJ x.jb (Fo w c 8) w:=h1.get 7 (p:=PR jV 11 209 y.J y.cJ x.jb) rfl;obtain⟨q,hq⟩:=vX a.o aQ;have ho:=a.o;rw[hq] at ho;exact⟨q,hq,Py ho b⟩
theorem GS.lI(h:GS x n m)(hi:i<x.jb.length):YY x n (dK x i):=by
 unfold dK;rw[aaI,Zv hi];exact h.jo _ (aaF hi)
end
theorem Sl.K4{xs:List Sc}(h:Sl lP 3 w A xs)(hi:i<xs.length):
 ∃b off,A=some ⟨b,off,none⟩/\w.cell? ⟨b,off+i *3,none⟩=some (.int .i64 xs[i].lk)/\w.cell? ⟨b,off+i *3+1,none⟩=some (.int .i64 xs[i].fr)/\w.cell? ⟨b,off+i *3+2,none⟩=some (.int .i64 xs[i].iJ):=by
 obtain⟨b,off,a,hc⟩:=h.at_ hi;exact⟨b,off,a,by simpa using hc 0 _ (show(lP xs[i])[0]?=some (.int .i64 xs[i].lk) from rfl),by simpa[abD] using hc 1 _ (show(lP xs[i])[1]?=some (.int .i64 xs[i].fr) from rfl),by simpa[abD] using hc 2 _ (show(lP xs[i])[2]?=some (.int .i64 xs[i].iJ) from rfl)⟩
def D6(lock vD:Int)(s:Sc):Bool:=decide (s.lk=lock/\s.fr<=vD/\vD<s.iJ)
theorem U5(t:Tk)(A:Option aJ)(c:Nat)(hs:Sl lP 3 w A t.se)(hl:t.se.length<=8)(lock vD:Int):aG prog 182 #[.agg #[t.co,t.pe,t.de,(A,t.se.length,c),t.po],lock,vD] w λr w'=>r= .returned (.bool (BZ t lock vD))/\aD w w w':=by
 have e:=aX w (Obj.cells #[t.co,t.pe,t.de,(A,t.se.length,c),t.po] 125);have l:=bF.new w 125 #[t.co,t.pe,t.de,(A,t.se.length,c),t.po];have u:=l.cell 3 _ rfl;have f:=aP e;have v:aH (Sl lP 3 w A t.se):=hs;clear l hs e;go_enter func182,ntmps182
 go_upto_region 1 with(fail)
 generalize w.alloc (Obj.cells #[t.co,t.pe,t.de,(A,t.se.length,c),t.po] 125)=w1 at *;go_wp2_with fail
 go_loopw [12] (λv12 wr=>∃k:Nat,k<=t.se.length/\v12= .int .i64 k/\aH ((t.se.take k).any (D6 lock vD)=false)/\aH (aD w w wr)) (λv12 _=>t.se.length - (intOf v12).toNat)
 case atStart=>exact⟨0,aaH _,rfl,rfl,f.o⟩
 case round=>
  obtain⟨k,hk,rfl,i,a⟩:=hrel;clear u;by_cases d:k<t.se.length
  .obtain⟨b,off,rfl,c0,c1,c2⟩:=(v.o.keep a.o).K4 d;have j:aH ((t.se.take (k+1)).any (D6 lock vD)=D6 lock vD t.se[k]):=by
    unfold aH;rw[<-aa3 d,List.any_append,i.o];simp
   have z:aH (D6 lock vD t.se[k]=true->BZ t lock vD=true):=λh=>adR.2 ⟨_,aaF d,h⟩
   have D:(0:Int)<=k:=aQ;have B:(k:Int)<(t.se.length:Int):=aQ;generalize t.se[k]=s at *;by_cases h1:s.lk=lock
   .by_cases m:s.fr<=vD
    .by_cases p:vD<s.iJ
     .go_wp2_with fail
      go_ret
      rw[z.o (by simp[D6,h1,m,p])];exact⟨rfl,a.o.alloc a.o.size _⟩
     .go_wp2_with fail
      refine⟨⟨k+1,aQ,rfl,by rw[j.o];simp[D6,p,aH],a.o.alloc a.o.size _⟩,by simp only[intOf];omega⟩
    .go_wp2_with fail
     refine⟨⟨k+1,aQ,rfl,by rw[j.o];simp[D6,m,aH],a.o.alloc a.o.size _⟩,by simp only[intOf];omega⟩
   .go_wp2_with fail
    refine⟨⟨k+1,aQ,rfl,by rw[j.o];simp[D6,h1,aH],a.o.alloc a.o.size _⟩,by simp only[intOf];omega⟩
  .have q:t.se.take k=t.se:=aaS aQ;have C:aH (BZ t lock vD=false):=by
    have:=i.o;rw[q] at this;exact this
   have B:¬(k:Int)<(t.se.length:Int):=aQ;clear i q;go_wp2_with fail
   go_ret
   rw[C.o];exact⟨rfl,a.o⟩
end
variable{g n q2 o2:Nat}{x:Lb}{y:La}
section
theorem bR.c(h:bR F w g x y)(i:Nat)(v:aC)(a:(fO x y)[i]?=some v):w.cell? (g,i)=some v:=h.bk.cell i v a
theorem VY(h:bR F w g x y)(J:GS x n m){o:Nat}{j:Jb}(E:vV w q o j)(I:YY x n j)(lock:Int):aG prog 127 #[.pointer g, .pointer (some ⟨q,o,none⟩),lock] w λr w'=>r= .returned (.bool (BH x j lock))/\aD w w w':=by
 obtain⟨i,hi⟩:=aaB I.t0;have C:i<x.ts.length:=by have:=I.t1;omega
 obtain⟨b,A,c,K,t0,t1,t2,t3,t4,hs⟩:=h.task C;have G:=h.c 0 (.slice y.T y.L.length y.cT) rfl;have c0:=E.c0;have c4:=E.c4;have c7:=E.c7;have c9:=E.c9;rw[hi] at c0;rw[K,h.len] at G;have hl:(iD x i).se.length<=8:=by
  unfold iD;rw[aaG,aaI,Zv C];exact(J.tk _ (aaF C)).sl
 have D:aH (BH x j lock=(j.bg&&decide (j.rs=0)&&BZ (iD x i) lock j.ra)):=by
  unfold aH BH;rw[hi]
 have i0:(0:Int)<=i:=aQ;have i1:(i:Int)<(x.ts.length:Int):=aQ;have M:aH (∀n:bZ w,aG prog 182 #[.agg #[.int .i64 (iD x i).co, .int .i64 (iD x i).pe, .int .i64 (iD x i).de, .slice A (iD x i).se.length c, .int .i64 (iD x i).po],lock,j.ra] n.w λr w'=>r= .returned (.bool (BZ (iD x i) lock j.ra))/\aD n.w.heap.size n.w w'):=λn=>U5 _ A c (hs.keep n.ok) hl lock j.ra
 clear h J E I hs K hi;generalize iD x i=t at *;cases hb:j.bg
 .rw[hb] at c7 D;go_enter func127,ntmps127
  go_upto_region 1 with(fail)
  (have a:=bZ.cell G;have d:=bZ.cell c0;have e:=bZ.cell c4;have f:=bZ.cell c7;have k:=bZ.cell c9;have l:=bZ.cell t0;have p:=bZ.cell t1;have s:=bZ.cell t2;have u:=bZ.cell t3;have v:=bZ.cell t4;refine dB aV aV ?_;(repeat (go_big_quiet_step (fail)));refine wpQuiet_nil ?_;clear a d e f k l p s u v;intro w5 z;have B:=bZ.below z;clear z)
  go_wp2_with fail
  go_ret
  rw[D.o];exact⟨rfl,B⟩
 .rw[hb] at c7 D;by_cases H:j.rs=0
  .rw[H] at c9;rw[aa2 H] at D;go_enter func127,ntmps127
   go_upto_region 1 with(fail)
   (have a:=bZ.cell G;have d:=bZ.cell c0;have e:=bZ.cell c4;have f:=bZ.cell c7;have k:=bZ.cell c9;have l:=bZ.cell t0;have p:=bZ.cell t1;have s:=bZ.cell t2;have u:=bZ.cell t3;have v:=bZ.cell t4;refine dB aV aV ?_;(repeat (go_big_quiet_step ((go_at_call 182;with_reducible exact iL (M.o _)))));refine wpQuiet_nil ?_;clear a d e f k l p s u v;intro w5 z;have B:=bZ.below z;clear z)
   go_wp2_with fail
   go_ret
   rw[D.o];exact⟨rfl,B⟩
  .rw[aaP H] at D;have N:(j.rs==0)=false:=by simpa using H
   go_enter func127,ntmps127
   go_upto_region 1 with(fail)
   (have a:=bZ.cell G;have d:=bZ.cell c0;have e:=bZ.cell c4;have f:=bZ.cell c7;have k:=bZ.cell c9;have l:=bZ.cell t0;have p:=bZ.cell t1;have s:=bZ.cell t2;have u:=bZ.cell t3;have v:=bZ.cell t4;refine dB aV aV ?_;(repeat (go_big_quiet_step (fail)));refine wpQuiet_nil ?_;clear a d e f k l p s u v;intro w5 z;have B:=bZ.below z;clear z)
   go_wp2_with fail
   go_ret
   rw[D.o];exact⟨rfl,B⟩
theorem eX(w:aA)(n:Nat):aD w w (w.drewN n):=fD (Below.refl _ _) n
theorem xQ(h:bR F w g x y)(v:GS x n m){o:Nat}{a b:Jb}(ha:vV w q o a)(z:YY x n a)(hb:vV w q2 o2 b)(A:YY x n b):aG prog 89 #[.pointer g, .pointer (some ⟨q,o,none⟩), .pointer (some ⟨q2,o2,none⟩)] w λr w'=>r= .returned (.bool (pO x a b))/\aD w w w':=by
 obtain⟨i,hi⟩:=aaB z.t0;obtain⟨k,hk⟩:=aaB A.t0;have B:i<x.rk.length:=by have:=z.t1;rw[v.lr];omega
 have C:k<x.rk.length:=by have:=A.t1;rw[v.lr];omega
 obtain⟨b1,hK,r1⟩:=h.LV B;obtain⟨b2,f,I⟩:=h.LV C;rw[hK] at f;injection f with f;injection f with f;subst f;have J:=h.c 1 (.int .i64 x.od) rfl;have G:=h.c 2 (.slice y.K x.rk.length y.cK) rfl;rw[hK] at G;have a0:=ha.c0;have L:=ha.c1;have a3:=ha.c3;have s:=ha.c8;have z0:=hb.c0;have M:=hb.c1;have z3:=hb.c3;have H:=hb.c8;rw[hi] at a0;rw[hk] at z0;have d:aH (pO x a b=if a.bh !=b.bh then b.bh else if x.od=1/\yY x i≠yY x k then decide (yY x i<yY x k) else if a.de≠b.de then decide (a.de<b.de) else if(i:Int)≠(k:Int) then decide ((i:Int)<(k:Int)) else decide (a.nu<b.nu)):=by
  unfold aH pO;rw[hi,hk]
 have i0:(0:Int)<=i:=aQ;have i1:(i:Int)<(x.rk.length:Int):=aQ;have N:(0:Int)<=k:=aQ;have O:(k:Int)<(x.rk.length:Int):=aQ;clear h v ha z hb A hK hi hk;generalize yY x i=t at *;generalize yY x k=rk at *;by_cases h1:a.bh=b.bh
 .have n1:(a.bh !=b.bh)=false:=by rw[h1];simp
  rw[n1] at d;simp only[aaZ,aaY] at d;rw[h1] at s n1;by_cases j:x.od=1/\t≠rk
  .rw[Zz j] at d;obtain⟨j,D⟩:=j;go_enter func89,ntmps89
   go_upto_region 1 with(fail)
   go_quiet (fail)
   go_upto_region 3 with(fail)
   go_quiet (fail)
   go_upto_region 4 with(fail)
   go_quiet (fail)
   go_wp2_with fail
   go_ret
   rw[d.o];exact⟨aT,eX _ _⟩
  .rw[aaA j] at d;have u:aH (¬(x.od=1/\t≠rk)):=j;clear j;by_cases D:x.od=1
   .have P:t=rk:=by
     by_cases e:t=rk
     .exact e
     .exact absurd ⟨D,e⟩ u.o
    by_cases l:a.de=b.de
    .rw[aaA (by simpa using l)] at d;by_cases p:(i:Int)=(k:Int)
     .rw[aaA (by simpa using p)] at d;go_enter func89,ntmps89
      go_upto_region 1 with(fail)
      go_quiet (fail)
      go_upto_region 3 with(fail)
      go_quiet (fail)
      go_upto_region 5 with(fail)
      go_quiet (fail)
      go_upto_region 7 with(fail)
      go_quiet (fail)
      go_upto_region 9 with(fail)
      go_quiet (fail)
      go_wp2_with fail
      go_ret
      rw[d.o];exact⟨aT,eX _ _⟩
     .rw[Zz p] at d;go_enter func89,ntmps89
      go_upto_region 1 with(fail)
      go_quiet (fail)
      go_upto_region 3 with(fail)
      go_quiet (fail)
      go_upto_region 5 with(fail)
      go_quiet (fail)
      go_upto_region 7 with(fail)
      go_quiet (fail)
      go_upto_region 8 with(fail)
      go_quiet (fail)
      go_wp2_with fail
      go_ret
      rw[d.o];exact⟨aT,eX _ _⟩
    .rw[Zz l] at d;go_enter func89,ntmps89
     go_upto_region 1 with(fail)
     go_quiet (fail)
     go_upto_region 3 with(fail)
     go_quiet (fail)
     go_upto_region 5 with(fail)
     go_quiet (fail)
     go_upto_region 6 with(fail)
     go_quiet (fail)
     go_wp2_with fail
     go_ret
     rw[d.o];exact⟨aT,eX _ _⟩
   .skip
    by_cases l:a.de=b.de
    .rw[aaA (by simpa using l)] at d;by_cases p:(i:Int)=(k:Int)
     .rw[aaA (by simpa using p)] at d;go_enter func89,ntmps89
      go_upto_region 1 with(fail)
      go_quiet (fail)
      go_upto_region 3 with(fail)
      go_quiet (fail)
      go_upto_region 5 with(fail)
      go_quiet (fail)
      go_upto_region 7 with(fail)
      go_quiet (fail)
      go_upto_region 9 with(fail)
      go_quiet (fail)
      go_wp2_with fail
      go_ret
      rw[d.o];exact⟨aT,eX _ _⟩
     .rw[Zz p] at d;go_enter func89,ntmps89
      go_upto_region 1 with(fail)
      go_quiet (fail)
      go_upto_region 3 with(fail)
      go_quiet (fail)
      go_upto_region 5 with(fail)
      go_quiet (fail)
      go_upto_region 7 with(fail)
      go_quiet (fail)
      go_upto_region 8 with(fail)
      go_quiet (fail)
      go_wp2_with fail
      go_ret
      rw[d.o];exact⟨aT,eX _ _⟩
    .rw[Zz l] at d;go_enter func89,ntmps89
     go_upto_region 1 with(fail)
     go_quiet (fail)
     go_upto_region 3 with(fail)
     go_quiet (fail)
     go_upto_region 5 with(fail)
     go_quiet (fail)
     go_upto_region 6 with(fail)
     go_quiet (fail)
     go_wp2_with fail
     go_ret
     rw[d.o];exact⟨aT,eX _ _⟩
 .have n1:(a.bh !=b.bh)=true:=by simpa using h1
  rw[n1] at d;simp only[abI] at d;have u:a.bh=!b.bh:=by
   cases Q:a.bh <;> cases E:b.bh <;> simp_all
  rw[u] at s;clear h1 n1 u;cases E:b.bh
  all_goals
   rw[E] at s H d;simp only[Bool.not_false,Bool.not_true] at s;go_enter func89,ntmps89
   go_upto_region 1 with(fail)
   go_quiet (fail)
   go_wp2_with fail
   go_ret
   rw[d.o];exact⟨rfl,eX _ _⟩
end
end
end Go.Proofs.YtacgiflhgdaeaaaGreat
