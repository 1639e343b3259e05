/- Texts laid as one. -/
import Derived.Laws.BitsLemmas
import Derived.Test.YtacgiflhgdaeaaaGreatAZ18
set_option linter.unusedVariables false
set_option linter.unusedSimpArgs false
set_option maxRecDepth 100000
set_option maxHeartbeats 20000000
namespace Go.Proofs.YtacgiflhgdaeaaaGreat
open Go.Proofs.Tryz
section
open Go.RowKit Go.Lib Go.Shelf dF Fr Up Nt
variable{C C':Cf}{i i0:Nat}{rt:Int}{k:Kv}
section
theorem vW{a b:Int}(ha:0<=a/\a<=15)(hb:0<=b/\b<=15):fP a b=((a.toNat &&& b.toNat:Nat):Int)/\bits .or .i64 a b=((a.toNat ||| b.toNat:Nat):Int):=by
 obtain⟨x,rfl⟩:=aaB ha.1;obtain⟨y,rfl⟩:=aaB hb.1;exact bits_nat .i64 4 cC (λn c h1=>by rw[IntKind.wrap_i64];omega) x y aQ aQ
theorem DH{a b c:Int}(ha:0<=a/\a<=15)(hb:0<=b/\b<=15)(hc:0<=c/\c<=15)(h1:fP a b=b)(d:fP b c=c):fP a c=c:=by
 rw[(vW ha hb).1] at h1;rw[(vW hb hc).1] at d;rw[(vW ha hc).1];have e:a.toNat &&& b.toNat=b.toNat:=aQ;have f:b.toNat &&& c.toNat=c.toNat:=aQ;have g:a.toNat &&& c.toNat=c.toNat:=by rw[<-f,<-Nat.and_assoc,e]
 omega
def Oc(C:Cf)(i:Nat):Prop:=i<128/\(bJ C i).nu≠0
structure CI(C:Cf):Prop where
 len:C.S.length=128
 n0:0<=C.n
 nu:∀i,Oc C i->1<=(bJ C i).nu/\(bJ C i).nu<=C.n
 inj:∀i j,Oc C i->Oc C j->(bJ C i).nu=(bJ C j).nu->i=j
 rt:∀i,Oc C i->0<=(bJ C i).rt/\(bJ C i).rt<=15
 pf:∀i,Oc C i->0<=(bJ C i).pf/\(bJ C i).pf<=C.n
 ch:∀i j,Oc C i->Oc C j->(bJ C i).pf=(bJ C j).nu->(bJ C i).kd=(bJ C j).kd/\(bJ C i).ob=(bJ C j).ob/\fP (bJ C j).rt (bJ C i).rt=(bJ C i).rt
structure oN(C' C:Cf):Prop where
 len:C'.S.length=C.S.length
 n:C'.n=C.n
 s:∀i,Oc C' i->Oc C i/\bJ C' i=bJ C i
theorem CI.sub(h:CI C)(s:oN C' C):CI C':=by
 refine⟨s.len.trans h.len,by rw[s.n];exact h.n0,λi hi=>?_,λi j hi a e=>?_,λi hi=>?_,λi hi=>?_,λi j hi a e=>?_⟩
 .obtain⟨o,e⟩:=s.s i hi;rw[e,s.n];exact h.nu i o
 .obtain⟨o,b⟩:=s.s i hi;obtain⟨o2,c⟩:=s.s j a;rw[b,c] at e;exact h.inj i j o o2 e
 .obtain⟨o,e⟩:=s.s i hi;rw[e];exact h.rt i o
 .obtain⟨o,e⟩:=s.s i hi;rw[e,s.n];exact h.pf i o
 .obtain⟨o,b⟩:=s.s i hi;obtain⟨o2,c⟩:=s.s j a;rw[b,c] at e⊢;exact h.ch i j o o2 e
theorem oN.refl(C:Cf):oN C C:=⟨rfl,rfl,λ_ h=>⟨h,rfl⟩⟩
theorem oN.trans{A B:Cf}(h:oN A B)(a:oN B C):oN A C:=⟨h.len.trans a.len,h.n.trans a.n,λi hi=>by obtain⟨o,e⟩:=h.s i hi;obtain⟨o2,b⟩:=a.s i o;exact⟨o2,e.trans b⟩⟩
theorem Oe(C:Cf)(p:cM)(i:Nat):bJ (xG C p) i=if i=fY p then DP else bJ C i:=by
 unfold bJ xG;rw[aaI,aaI,abF];by_cases h:i=fY p
 .rw[Zz h,Zz h.symm];split <;> rfl
 .rw[aaA h,aaA (acT h)]
theorem TQ(G:List cM):∀(C:Cf) (i:Nat),((∃p∈G,fY p=i)->bJ (gZ C G) i=DP)/\((¬∃p∈G,fY p=i)->bJ (gZ C G) i=bJ C i):=by
 induction G with
 |nil=>intro C i;exact⟨λ⟨p,hp,_⟩=>(by cases hp),λ_=>rfl⟩
 |cons p G c=>
  intro C i;have e:gZ C (p::G)=gZ (xG C p) G:=rfl;rw[e];obtain⟨h1,d⟩:=c (xG C p) i;by_cases a:∃q∈G,fY q=i
  .exact⟨λ_=>h1 a,λb=>absurd (by obtain⟨q,hq,e⟩:=a;exact⟨q,by simp[hq],e⟩) b⟩
  .rw[d a,Oe];refine⟨λ⟨q,hq,hi⟩=>?_,λb=>?_⟩
   .rcases acQ.1 hq with hq|hq
    .subst hq;rw[Zz hi.symm]
    .exact absurd ⟨q,hq,hi⟩ a
   .rw[aaA (λe=>b ⟨p,aT,e.symm⟩)]
theorem Gr(G:List cM):∀C:Cf,(gZ C G).S.length=C.S.length:=by
 induction G with
 |nil=>intro C;rfl
 |cons p G a=>intro C;exact(a (xG C p)).trans (by simp[xG])
theorem vG{G:List cM}:Oc (gZ C G) i↔Oc C i/\¬∃p∈G,fY p=i:=by
 obtain⟨h1,b⟩:=TQ G C i;by_cases a:∃p∈G,fY p=i
 .refine⟨λh=>absurd (by rw[h1 a];rfl) h.2,λh=>absurd a h.2⟩
 .unfold Oc;rw[b a];exact⟨λh=>⟨h,a⟩,λh=>h.1⟩
theorem sY(C:Cf)(G:List cM):oN (gZ C G) C:=⟨Gr G C,FA C G,λi hi=>by
 obtain⟨h1,a⟩:=vG.1 hi;exact⟨h1,(TQ G C i).2 a⟩⟩
theorem pT{p:cM}(h:p∈lC C):Oc C (fY p)/\p.h=bJ C (fY p)/\p.e=((fY p /16:Nat):Int)/\p.s=((fY p%16:Nat):Int):=by
 obtain⟨h1,f,c,g⟩:=LR h;obtain⟨_,a,b,ha,hb,i,d,hk⟩:=uF h1;refine⟨⟨f,by rw[<-c];exact g⟩,c,?_,?_⟩
 .rw[ha];omega
 .rw[hb];omega
theorem TP(h:Oc C i):(⟨((i /16:Nat):Int),((i%16:Nat):Int),bJ C i⟩:cM)∈lC C:=by
 unfold lC uI;refine acO.2 ⟨i,ab1.2 h.1,?_⟩;unfold N0;rw[aaA h.2]
theorem YT(i:Nat)(x:Hd):fY ⟨((i /16:Nat):Int),((i%16:Nat):Int),x⟩=i:=by
 unfold fY;simp only[aaG];omega
theorem mO{e s:Int}(h:eO C e s=some i):Oc C i/\e=((i /16:Nat):Int)/\s=((i%16:Nat):Int):=by
 unfold eO at h;cases hi:oC e s with
 |none=>rw[hi] at h;cases h
 |some k=>
  rw[hi] at h;simp only at h;split at h
  .cases h
  .injection h with h;subst h;rename_i d;obtain⟨h1,a,b,ha,hb,f,c,hk⟩:=uF hi;exact⟨⟨h1,d⟩,by rw[ha];omega,by rw[hb];omega⟩
theorem IP(h:Oc C i):eO C ((i /16:Nat):Int) ((i%16:Nat):Int)=some i:=by
 have h1:=h.1;have hid:oC ((i /16:Nat):Int) ((i%16:Nat):Int)=some i:=by
  unfold oC;rw[Zz aQ];simp only[aaG];congr 1
  omega
 unfold eO;rw[hid];exact aaA h.2
theorem NA{e s:Int}{x:Hd}(h:mH C e s=some x):∃i,Oc C i/\e=((i /16:Nat):Int)/\s=((i%16:Nat):Int)/\x=bJ C i:=by
 unfold mH at h;cases hf:eO C e s with
 |none=>rw[hf] at h;cases h
 |some i=>
  rw[hf] at h;injection h with h;obtain⟨h1,a,b⟩:=mO hf;exact⟨i,h1,a,b,h.symm⟩
theorem LK{e s kd:Int}{x:Hd}(h:jI C e s kd rt=some x):∃i,Oc C i/\e=((i /16:Nat):Int)/\s=((i%16:Nat):Int)/\x=bJ C i/\x.kd=kd/\fP x.rt rt=rt:=by
 unfold jI at h;cases a:mH C e s with
 |none=>rw[a] at h;cases h
 |some y=>
  rw[a] at h;simp only at h;split at h
  .rename_i hc;injection h with h;subst h;obtain⟨i,h1,b,c,d⟩:=NA a;exact⟨i,h1,b,c,d,hc.1,hc.2⟩
  .cases h
theorem Bg{e:Int}{p:cM}(h:p∈sV C e):∃i,Oc C i/\e=((i /16:Nat):Int)/\p.s=((i%16:Nat):Int)/\p.h=bJ C i/\p.e=e:=by
 unfold sV yG at h;obtain⟨s,hs,hp⟩:=acO.1 h;cases a:mH C e (s:Nat) with
 |none=>rw[a] at hp;cases hp
 |some x=>
  rw[a] at hp;injection hp with hp;subst hp;obtain⟨i,h1,b,c,d⟩:=NA a;exact⟨i,h1,b,c,d,rfl⟩
theorem Ab(h:Oc C i):(⟨((i /16:Nat):Int),((i%16:Nat):Int),bJ C i⟩:cM)∈sV C ((i /16:Nat):Int):=by
 unfold sV yG;refine acO.2 ⟨i%16,ab1.2 aQ,?_⟩;unfold mH;rw[IP h];rfl
theorem CK{e o s:Int}:s∈eK k e o↔∃i,Oc k.c i/\e=((i /16:Nat):Int)/\s=((i%16:Nat):Int)/\(bJ k.c i).kd=1/\(bJ k.c i).ob=o:=by
 unfold eK;rw[acO];constructor
 .rintro⟨p,hp,hs⟩;obtain⟨i,h1,d,f,a,b⟩:=Bg hp;unfold rK at hs;split at hs
  .rename_i hc;injection hs with hs;rw[a] at hc;exact⟨i,h1,d,by rw[<-hs,f],hc.1,hc.2⟩
  .cases hs
 .rintro⟨i,h1,rfl,rfl,a,b⟩;refine⟨_,Ab h1,?_⟩;unfold rK;rw[Zz ⟨a,b⟩]
theorem I7{o:Int}:kY k o=true↔∃i,Oc k.c i/\(bJ k.c i).kd=1/\(bJ k.c i).ob=o:=by
 unfold kY;rw[adR];constructor
 .rintro⟨e,he,hl⟩;have hl:=abQ hl;obtain⟨s,hs⟩:=List.exists_mem_of_length_pos hl;obtain⟨i,h1,_,_,a,b⟩:=CK.1 hs;exact⟨i,h1,a,b⟩
 .rintro⟨i,h1,a,b⟩;have:=h1.1;refine⟨i /16,ab1.2 aQ,aa2 ?_⟩;exact List.length_pos_of_mem (CK.2 ⟨i,h1,rfl,rfl,a,b⟩)
theorem LJ(h:CI C)(k:Oc C i0){self:Bool}{L:List cM}(c:∀p∈L,p∈lC C):∀p∈(cP (bJ C i0).nu self L).2,p∈lC C/\(bJ C (fY p)).kd=(bJ C i0).kd/\(bJ C (fY p)).ob=(bJ C i0).ob/\fP (bJ C i0).rt (bJ C (fY p)).rt=(bJ C (fY p)).rt/\(fY p=i0\/1<=(bJ C (fY p)).pf):=by
 have hid:fP (bJ C i0).rt (bJ C i0).rt=(bJ C i0).rt:=by
  have:=h.rt i0 k;rw[(vW this this).1,Nat.and_self];omega
 suffices key:∀(L:List cM) (st:List Int×List cM),(∀p∈L,p∈lC C)->
  (∀x∈st.1,∃j,Oc C j/\x=(bJ C j).nu/\(bJ C j).kd=(bJ C i0).kd/\(bJ C j).ob=(bJ C i0).ob/\fP (bJ C i0).rt (bJ C j).rt=(bJ C j).rt)->
  (∀p∈st.2,p∈lC C/\(bJ C (fY p)).kd=(bJ C i0).kd/\(bJ C (fY p)).ob=(bJ C i0).ob/\fP (bJ C i0).rt (bJ C (fY p)).rt=(bJ C (fY p)).rt/\(fY p=i0\/1<=(bJ C (fY p)).pf))->
  ∀p∈(L.foldl (eW (bJ C i0).nu self) st).2,p∈lC C/\(bJ C (fY p)).kd=(bJ C i0).kd/\(bJ C (fY p)).ob=(bJ C i0).ob/\fP (bJ C i0).rt (bJ C (fY p)).rt=(bJ C (fY p)).rt/\(fY p=i0\/1<=(bJ C (fY p)).pf) by
  refine key L ([(bJ C i0).nu], []) c (λx a=>?_) (λp hp=>by cases hp);rw[aaK.1 a];exact⟨i0,k,rfl,rfl,rfl,hid⟩
 intro L;induction L with
 |nil=>intro st _ _ d;exact d
 |cons y L r=>
  intro st c h1 d;rw[acY];obtain⟨f,l,_,_⟩:=pT (c y aT);refine r _ (λp hp=>c p (by simp[hp])) ?_ ?_
  .intro x a;unfold eW at a;split at a
   .split at a <;> exact h1 x a
   .split at a
    .rename_i b;rcases aaO.1 a with a|a
     .exact h1 x a
     .obtain⟨j,g,i,m,n,o⟩:=h1 _ b;rw[l] at i;obtain⟨c1,c2,c3⟩:=h.ch (fY y) j f g i;exact⟨fY y,f,by rw[aaK.1 a,l],c1.trans m,c2.trans n,DH (h.rt _ k) (h.rt _ g) (h.rt _ f) o c3⟩
    .exact h1 x a
  .intro p hp;unfold eW at hp;split at hp
   .rename_i q;split at hp
    .rcases aaO.1 hp with hp|hp
     .exact d p hp
     .rw[aaK.1 hp];have e:fY y=i0:=h.inj _ _ f k (by rw[<-l];exact q);exact⟨c y aT,by rw[e],by rw[e],by rw[e];exact hid, .inl e⟩
    .exact d p hp
   .split at hp
    .rename_i b;rcases aaO.1 hp with hp|hp
     .exact d p hp
     .rw[aaK.1 hp];obtain⟨j,g,i,m,n,o⟩:=h1 _ b;rw[l] at i;obtain⟨c1,c2,c3⟩:=h.ch (fY y) j f g i;refine⟨c y aT,c1.trans m,c2.trans n,DH (h.rt _ k) (h.rt _ g) (h.rt _ f) o c3, .inr ?_⟩;rw[i];exact(h.nu _ g).1
    .exact d p hp
theorem rN(hl:C.S.length=128)(e s kd ob rt pf:Int):((cY C e s kd ob rt pf).2=C/\(cY C e s kd ob rt pf).1≠0)\/
 ∃i:Nat,(cY C e s kd ob rt pf).1=0/\i<128/\e=((i /16:Nat):Int)/\s=((i%16:Nat):Int)/\¬Oc C i/\(1<=kd/\kd<=4/\0<=ob/\ob<32/\0<=rt/\rt<=15)/\
  (cY C e s kd ob rt pf).2.S.length=128/\(cY C e s kd ob rt pf).2.n=C.n+1/\bJ (cY C e s kd ob rt pf).2 i=⟨kd,ob,rt,C.n+1,pf⟩/\∀j,j≠i->bJ (cY C e s kd ob rt pf).2 j=bJ C j:=by
 unfold cY;by_cases f:iT kd ob rt=false
 .rw[Zz f];exact .inl ⟨rfl,aT⟩
 rw[aaA f];cases hi:oC e s with
 |none=>exact .inl ⟨rfl,aT⟩
 |some i=>
  simp only;by_cases d:(bJ C i).nu≠0
  .rw[Zz d];exact .inl ⟨rfl,aT⟩
  .rw[aaA d];obtain⟨h1,a,b,ha,hb,h,g,hk⟩:=uF hi;have c:iT kd ob rt=true:=by cases l:iT kd ob rt <;> simp_all
   unfold iT at c;refine .inr ⟨i,rfl,h1,by rw[ha];omega,by rw[hb];omega,λho=>d ho.2,abQ c,by simp[hl],rfl,?_,λj k=>?_⟩
   .unfold bJ;rw[aaI,abF,Zz rfl,Zz aQ];rfl
   .unfold bJ;rw[aaI,aaI,abF,aaA (acT k)]
theorem CI.put{C:Cf}(h:CI C)(e s kd ob rt pf:Int)(hp:pf=0\/∃j,Oc C j/\(bJ C j).nu=pf/\kd=(bJ C j).kd/\ob=(bJ C j).ob/\fP (bJ C j).rt rt=rt):CI (cY C e s kd ob rt pf).2:=by
 rcases rN h.len e s kd ob rt pf with⟨h1,_⟩|⟨i,_,hi,_,_,p,l,hl,k,a,hold⟩
 .rw[h1];exact h
 generalize (cY C e s kd ob rt pf).2=C' at *;have q:=h.n0;have r:0<=pf/\pf<=C.n:=by
  rcases hp with hp|⟨j,t,e,_⟩
  .omega
  .have:=h.nu j t;omega
 have ho:∀j,Oc C' j->j≠i->Oc C j/\bJ C' j=bJ C j:=λj b f=>⟨⟨b.1,by rw[<-hold j f];exact b.2⟩,hold j f⟩
 refine⟨hl,aQ,λj b=>?_,λj m b hm he=>?_,λj b=>?_,λj b=>?_,λj m b hm he=>?_⟩
 .by_cases e:j=i
  .subst e;rw[a,k];simp only;omega
  .obtain⟨o,e⟩:=ho j b e;rw[e,k];have:=h.nu j o;omega
 .by_cases e:j=i
  .by_cases c:m=i
   .rw[e,c]
   .obtain⟨o,d⟩:=ho m hm c;have:=h.nu m o;subst e;rw[a,d] at he;simp only at he;omega
  .obtain⟨o,g⟩:=ho j b e;by_cases c:m=i
   .have:=h.nu j o;subst c;rw[a,g] at he;simp only at he;omega
   .obtain⟨o2,d⟩:=ho m hm c;rw[d,g] at he;exact h.inj j m o o2 he
 .by_cases e:j=i
  .subst e;rw[a];exact⟨l.2.2.2.2.1,l.2.2.2.2.2⟩
  .obtain⟨o,e⟩:=ho j b e;rw[e];exact h.rt j o
 .by_cases e:j=i
  .subst e;rw[a,k];simp only;omega
  .obtain⟨o,e⟩:=ho j b e;rw[e,k];have:=h.pf j o;omega
 .by_cases e:m=i
  .subst e;rw[a] at he;simp only at he;by_cases c:j=m
   .subst c;rw[a] at he;simp only at he;omega
   .obtain⟨o,d⟩:=ho j b c;rw[d] at he;have:=h.pf j o;omega
  .obtain⟨o,g⟩:=ho m hm e;by_cases c:j=i
   .subst c;rw[a,g] at he⊢;simp only at he⊢;rcases hp with hp|⟨z,u,A,v,x,y⟩
    .have:=h.nu m o;omega
    .obtain rfl:z=m:=h.inj z m u o aQ;exact⟨v,x,y⟩
   .obtain⟨o2,d⟩:=ho j b c;rw[d,g] at he⊢;exact h.ch j m o2 o he
theorem wJ{env from_ other to_ rights more:Int}:(gU C env from_ other to_ rights more=(23,C))\/∃i:Nat,Oc C i/\env=((i /16:Nat):Int)/\0<=rights/\fP (bJ C i).rt rights=rights/\gU C env from_ other to_ rights more=cY C other to_ (bJ C i).kd (bJ C i).ob rights (bJ C i).nu:=by
 cases hf:eO C env from_ with
 |none=>exact .inl (KB hf other to_ rights more)
 |some i=>
  by_cases hc:rights<0\/fP (bJ C i).rt rights≠rights\/fP (bJ C i).rt more≠more
  .exact .inl (PS hf other to_ hc)
  .obtain⟨h1,b,_⟩:=mO hf;have c:¬rights<0:=λe=>hc (.inl e)
   have a:fP (bJ C i).rt rights=rights:=aaW λe=>hc (.inr (.inl e))
   have d:fP (bJ C i).rt more=more:=aaW λe=>hc (.inr (.inr e))
   exact .inr ⟨i,h1,b,aQ,a,MY hf other to_ c a d⟩
end
variable{s':dX}{k':Kv}
section
theorem oU{s:dX}{o:Int}:dH s o=true↔∃i:Nat,o=i/\i<s.n/\s.T[i]?=some true:=by
 unfold dH AO;rw[aa6,acB];constructor
 .rintro⟨⟨h1,c⟩,a⟩;refine⟨o.toNat,aQ,aQ,?_⟩;cases h:s.T[o.toNat]? with
  |none=>rw[h] at a;cases a
  |some b=>rw[h] at a;simp at a;rw[a]
 .rintro⟨i,rfl,c,a⟩;refine⟨aQ,?_⟩;rw[aaG,a];rfl
theorem sH{s:dX}{o x:Int}:dH (tZ s o) x=true↔dH s x=true/\x≠o:=by
 unfold tZ;by_cases h:dH s o=true
 .rw[Zz h];obtain⟨i,rfl,f,g⟩:=oU.1 h;rw[oU,oU];simp only[aaG];constructor
  .rintro⟨j,rfl,d,a⟩;rw[abF] at a;split at a
   .split at a
    .cases a
    .cases a
   .rename_i b;exact⟨⟨j,rfl,d,a⟩,λe=>b aQ⟩
  .rintro⟨⟨j,rfl,d,a⟩,b⟩;refine⟨j,rfl,d,?_⟩;rw[abF,aaA (λe=>b aQ)];exact a
 .rw[aaA h];exact⟨λc=>⟨c,λe=>h (e ▸ c)⟩,λc=>c.1⟩
theorem JF(s:dX)(o:Int):(tZ s o).n=s.n/\(tZ s o).B=s.B/\(tZ s o).T.length=s.T.length:=by
 unfold tZ;split
 .exact⟨rfl,rfl,aT⟩
 .exact⟨rfl,rfl,rfl⟩
theorem vZ{s:dX}(h:jH s=some i):i<s.n/\dH s (i:Int)=false:=by
 unfold jH at h;obtain⟨h1,b,_⟩:=aaT.1 h;have c:i<s.n/\i<s.T.length:=by rw[abJ] at h1;omega
 refine⟨c.1,?_⟩;cases d:dH s (i:Int) with
 |false=>rfl
 |true=>
  obtain⟨j,e,_,a⟩:=oU.1 d;obtain rfl:j=i:=aQ;rw[List.getElem_take] at b;rw[Zv c.2] at a;injection a with a;rw[a] at b;cases b
theorem Kz(a:List Int):∀(B:List Int) (m j:Nat),(j<m\/m+a.length<=j)->(IX B m a)[j]?=B[j]?:=by
 induction a with
 |nil=>intro B m j _;rfl
 |cons v a b=>
  intro B m j h;rw[aa9] at h;show(IX (B.set m v) (m+1) a)[j]?=_;rw[b _ _ _ aQ,abF,aaA aQ]
theorem Cx(a:List Int):∀(B:List Int) (m:Nat),(IX B m a).length=B.length:=by
 induction a with
 |nil=>intro B m;rfl
 |cons v a b=>
  intro B m;show(IX (B.set m v) (m+1) a).length=_;rw[b,aaL]
theorem JS{s:dX}(d:s.T.length=32)(f:s.n<=32)(h:jH s=some i):(∀x,dH (fQ s) x=true↔dH s x=true\/x=i)/\(∀j,j≠i->IT (fQ s) j=IT s j)/\(fQ s).n=s.n/\(fQ s).T.length=s.T.length/\(fQ s).B.length=s.B.length:=by
 obtain⟨h1,g⟩:=vZ h;have e:fQ s={s with T:=s.T.set i true,B:=PV s.B i}:=by unfold fQ;rw[h]
 rw[e];refine⟨λx=>?_,λj b=>?_,rfl,aT,Cx _ _ _⟩
 .rw[oU,oU];simp only;constructor
  .rintro⟨j,rfl,c,a⟩;by_cases b:j=i
   .exact .inr (by rw[b])
   .rw[abF,aaA (λe=>b e.symm)] at a;exact .inl ⟨j,rfl,c,a⟩
  .rintro(⟨j,rfl,c,a⟩|rfl)
   .refine⟨j,rfl,c,?_⟩;rw[abF];split
    .split
     .rfl
     .omega
    .exact a
   .refine⟨i,rfl,h1,?_⟩;rw[abF,Zz rfl,Zz aQ]
 .unfold IT;apply adD;intro m;rw[aa7,aa7];split
  .rw[abY,abY];simp only[PV];rw[Kz _ _ _ _ (by simp only[aa9,abM];omega)]
  .rfl
theorem wD(s:dX)(o a v:Int):(iW s o a v).n=s.n/\(iW s o a v).T=s.T/\(iW s o a v).B.length=s.B.length/\∀j:Nat,(j:Int)≠o->IT (iW s o a v) j=IT s j:=by
 unfold iW;split
 .rename_i h;obtain⟨k,m,rfl,rfl,_,hm⟩:=MJ h;refine⟨rfl,rfl,aT,λj b=>?_⟩;unfold IT;apply adD;intro p;rw[aa7,aa7];split
  .rw[abY,abY];simp only[aaG];rw[abF,aaA aQ]
  .rfl
 .exact⟨rfl,rfl,rfl,λ_ _=>rfl⟩
theorem EP{s:dX}(a:s'.n=s.n)(b:s'.T=s.T)(x:Int):dH s' x=dH s x:=by
 unfold dH AO;rw[a,b]
theorem YG{t:List En}{e o:Int}{x:En}(h:x∈FM t e o):x∈t/\¬(x.frame=o/\x.env=e):=by
 unfold FM at h;rw[abZ] at h;refine⟨h.1,λhc=>?_⟩;have:=h.2;rw[aa2 hc] at this;cases this
theorem MM(G:List cM):∀(t:List En) (x:En),x∈iF t G->x∈t/\∀p∈G,p.h.kd=1->¬(x.frame=p.h.ob/\x.env=p.e):=by
 induction G with
 |nil=>intro t x h;exact⟨h,λp hp=>by cases hp⟩
 |cons p G c=>
  intro t x h;have e:iF t (p::G)=iF (xX t p) G:=rfl;rw[e] at h;obtain⟨h1,b⟩:=c _ _ h;unfold xX at h1;split at h1
  .obtain⟨d,f⟩:=YG h1;refine⟨d,λq hq hk=>?_⟩;rcases acQ.1 hq with hq|hq
   .rw[hq];exact f
   .exact b q hq hk
  .rename_i a;refine⟨h1,λq hq hk=>?_⟩;rcases acQ.1 hq with hq|hq
   .rw[hq] at hk;exact absurd hk a
   .exact b q hq hk
theorem Ku{t:List En}{X x:En}(h:x∈xK t X):x∈t\/x=X:=by
 unfold xK at h;split at h
 .unfold ld at h;rcases aaO.1 h with h|h
  .unfold mD at h;split at h
   .exact .inl (acU h)
   .split at h
    .exact .inl (acU h)
    .exact .inl h
  .exact .inr (aaK.1 h)
 .exact .inl h
def Xp(C:Cf)(o:Int):Prop:=∃i,Oc C i/\(bJ C i).kd=1/\(bJ C i).ob=o/\(bJ C i).rt=15/\(bJ C i).pf=0
def NU(C:Cf)(o:Int):Prop:=∃i,Oc C i/\(bJ C i).kd=1/\(bJ C i).ob=o
structure KJ(k:Kv):Prop where
 ci:CI k.c
 fT:k.f.T.length=32
 fn:k.f.n=6
 pl:∀i,Oc k.c i->(bJ k.c i).pf<(bJ k.c i).nu/\((bJ k.c i).pf≠0->∃j,Oc k.c j/\(bJ k.c j).nu=(bJ k.c i).pf)
 un:∀i j,Oc k.c i->Oc k.c j->(bJ k.c i).kd=1->(bJ k.c j).kd=1->(bJ k.c i).ob=(bJ k.c j).ob->(bJ k.c i).pf=0->(bJ k.c j).pf=0->i=j
 tk:∀i,Oc k.c i->(bJ k.c i).kd=1->dH k.f (bJ k.c i).ob=true
 ro:∀o,dH k.f o=true->NU k.c o->Xp k.c o
 tb:∀x∈k.t,∃i,Oc k.c i/\x.env=((i /16:Nat):Int)/\(bJ k.c i).kd=1/\(bJ k.c i).ob=x.frame/\(x.write=true->fP (bJ k.c i).rt 2=2)
inductive Mv (A:Int->Int->Int->Prop) (k:Kv):Kv->Prop
 |gI {o:Int} (h:(∃i,Oc k.c i/\A ((i /16:Nat):Int) 1 o/\(bJ k.c i).kd=1/\(bJ k.c i).ob=o/\fP (bJ k.c i).rt 8=8)\/¬NU k.c o) {k':Kv} (r:kC k o k'):Mv A k k'
 |nO {i:Nat} (ho:Oc k.c i) (ha:A ((i /16:Nat):Int) (bJ k.c i).kd (bJ k.c i).ob) (self:Bool) {L:List cM} (hL:xI k L):Mv A k (iR k (bJ k.c i).nu self L)
 |alloc {i:Nat} (h:jH k.f=some i) {e s:Int} (h2:(cY k.c e s 1 i 15 0).1=0):Mv A k {k with f:=fQ k.f,c:=(cY k.c e s 1 i 15 0).2}
 |pass {i:Nat} (ho:Oc k.c i) (ha:A ((i /16:Nat):Int) (bJ k.c i).kd (bJ k.c i).ob) {rights:Int} (h0:0<=rights) (h1:fP (bJ k.c i).rt rights=rights) (e s:Int):Mv A k {k with c:=(cY k.c e s (bJ k.c i).kd (bJ k.c i).ob rights (bJ k.c i).nu).2}
 |write {i:Nat} (ho:Oc k.c i) (ha:A ((i /16:Nat):Int) 1 (bJ k.c i).ob) (hk:(bJ k.c i).kd=1) (h2:fP (bJ k.c i).rt 2=2) (a v:Int):Mv A k {k with f:=iW k.f (bJ k.c i).ob a v}
 |load {i:Nat} (ho:Oc k.c i) (hk:(bJ k.c i).kd=1) {x:En} (he:x.env=((i /16:Nat):Int)) (hf:(bJ k.c i).ob=x.frame) (h2:x.write=true->fP (bJ k.c i).rt 2=2):Mv A k {k with t:=xK k.t x}
 |tl {t:List En} (h:∀x∈t,x∈k.t):Mv A k {k with t:=t}
 |xO (b:List Nt) (v:List Vc) (s:Sd) (n:Nat):Mv A k {k with b:=b,v:=v,s:=s,n:=n}
theorem J6(num:Int)(self:Bool)(st:List Int×List cM)(p:cM):(∀x∈st.1,x∈(eW num self st p).1)/\(∀q∈st.2,q∈(eW num self st p).2)/\∀q∈(eW num self st p).2,q∈st.2\/q=p:=by
 unfold eW;split
 .split
  .exact⟨λx a=>a,λq hq=>adB _ hq,λq hq=>by rcases aaO.1 hq with h|h;exact .inl h;exact .inr (aaK.1 h)⟩
  .exact⟨λx a=>a,λq hq=>hq,λq hq=> .inl hq⟩
 .split
  .exact⟨λx a=>adB _ a,λq hq=>adB _ hq,λq hq=>by rcases aaO.1 hq with h|h;exact .inl h;exact .inr (aaK.1 h)⟩
  .exact⟨λx a=>a,λq hq=>hq,λq hq=> .inl hq⟩
theorem K7(num:Int)(self:Bool)(L:List cM):∀st:List Int×List cM,(∀x∈st.1,x∈(L.foldl (eW num self) st).1)/\(∀q∈st.2,q∈(L.foldl (eW num self) st).2)/\∀q∈(L.foldl (eW num self) st).2,q∈st.2\/q∈L:=by
 induction L with
 |nil=>intro st;exact⟨λx a=>a,λq hq=>hq,λq hq=> .inl hq⟩
 |cons y L b=>
  intro st;obtain⟨c,a2,a3⟩:=J6 num self st y;obtain⟨b1,b2,b3⟩:=b (eW num self st y);rw[acY];refine⟨λx a=>b1 x (c x a),λq hq=>b2 q (a2 q hq),λq hq=>?_⟩;rcases b3 q hq with h|h
  .rcases a3 q h with h|h
   .exact .inl h
   .exact .inr (by simp[h])
  .exact .inr (by simp[h])
theorem Ar(num:Int)(self:Bool)(L:List cM):∀st:List Int×List cM,(∀q∈st.2,q.h.nu∈st.1\/q.h.nu=num)->∀q∈(L.foldl (eW num self) st).2,q.h.nu∈(L.foldl (eW num self) st).1\/q.h.nu=num:=by
 induction L with
 |nil=>intro st h;exact h
 |cons y L b=>
  intro st h;rw[acY];refine b _ (λq hq=>?_);unfold eW at hq⊢;split at hq
  .rename_i a;rw[Zz a];split at hq
   .rename_i hs;rw[Zz hs];rcases aaO.1 hq with hq|hq
    .exact h q hq
    .rw[aaK.1 hq];exact .inr a
   .rename_i hs;rw[aaA hs];exact h q hq
  .rename_i a;rw[aaA a];split at hq
   .rename_i hs;rw[Zz hs];rcases aaO.1 hq with hq|hq
    .rcases h q hq with h|h
     .exact .inl (adB _ h)
     .exact .inr h
    .rw[aaK.1 hq];exact .inl (List.mem_append_right _ aT)
   .rename_i hs;rw[aaA hs];exact h q hq
theorem SI{num:Int}{self:Bool}{L:List cM}(g:L.Pairwise λx y=>x.h.nu<=y.h.nu){q:cM}(hq:q∈L)(j:q.h.nu≠num)(h:q.h.pf=num\/∃p∈(cP num self L).2,p.h.nu=q.h.pf/\p.h.nu<q.h.nu):q∈(cP num self L).2:=by
 obtain⟨pre,post,rfl⟩:=List.append_of_mem hq;unfold cP at h⊢;rw[acC,acY] at h⊢;obtain⟨b1,b2,b3⟩:=K7 num self post (eW num self (pre.foldl (eW num self) ([num], [])) q);refine b2 q ?_;have a:q.h.pf∈(pre.foldl (eW num self) ([num], [])).1:=by
  obtain⟨i,a2,a3⟩:=K7 num self pre ([num], []);rcases h with h|⟨p,hp,he,b⟩
  .rw[h];exact i num aT
  .rw[acZ] at g;have c:=adK.1 g.2.1;have d:p∈(pre.foldl (eW num self) ([num], [])).2:=by
    rcases b3 p hp with h1|h1
    .rcases(J6 num self (pre.foldl (eW num self) ([num], [])) q).2.2 p h1 with e|e
     .exact e
     .rw[e] at b;omega
    .have:=c.1 p h1;omega
   rcases Ar num self pre ([num], []) (λq hq=>by cases hq) p d with f|f
   .rw[<-he];exact f
   .rw[<-he,f];exact i num aT
 generalize pre.foldl (eW num self) ([num], [])=st at *;unfold eW;rw[aaA j,Zz a];exact List.mem_append_right _ aT
theorem II{L:List cM}(a:L.Perm (lC C)){o:Int}(hi:Oc C i):(∃p∈L.filter (nU 1 o),fY p=i)↔((bJ C i).kd=1/\(bJ C i).ob=o):=by
 constructor
 .rintro⟨p,hp,rfl⟩;obtain⟨h1,b⟩:=abZ.1 hp;obtain⟨_,c,_,_⟩:=pT (a.mem_iff.1 h1);have:=abQ b;rw[c] at this;exact this
 .rintro hk;exact⟨_,abZ.2 ⟨a.mem_iff.2 (TP hi),aa2 hk⟩,YT i _⟩
theorem KJ.gI{k k':Kv}{o:Int}(h:KJ k)(r:kC k o k'):KJ k'/\oN k'.c k.c/\(∀i,Oc k'.c i↔Oc k.c i/\¬((bJ k.c i).kd=1/\(bJ k.c i).ob=o))/\k'.f=tZ k.f o:=by
 obtain⟨L,n,rfl⟩:=r;have hs:oN (FP k o L).c k.c:=sY k.c (L.filter (nU 1 o));have a:∀i,Oc (FP k o L).c i↔Oc k.c i/\¬((bJ k.c i).kd=1/\(bJ k.c i).ob=o):=λi=>by
  show Oc (gZ k.c (L.filter (nU 1 o))) i↔_;rw[vG];exact⟨λ⟨h1,d⟩=>⟨h1,λhk=>d ((II n h1).2 hk)⟩,λ⟨h1,d⟩=>⟨h1,λhk=>d ((II n h1).1 hk)⟩⟩
 have hf:(FP k o L).f=tZ k.f o:=rfl;have F:(FP k o L).t=iF k.t (L.filter (nU 1 o)):=rfl;refine⟨?_,hs,a,hf⟩;generalize FP k o L=k' at *;obtain⟨f1,f2,f3⟩:=JF k.f o;refine⟨h.ci.sub hs,by rw[hf,f3];exact h.fT,by rw[hf,f1];exact h.fn,λi hi=>?_,λi j hi u=>?_,λi hi hk=>?_,λx b G=>?_,λx b=>?_⟩
 .obtain⟨o1,q⟩:=hs.s i hi;rw[q];refine⟨(h.pl i o1).1,λhp=>?_⟩;obtain⟨j,v,y⟩:=(h.pl i o1).2 hp;obtain⟨c1,c2,_⟩:=h.ci.ch i j o1 v y.symm;have g:Oc k'.c j:=(a j).2 ⟨v,λhk=>((a i).1 hi).2 ⟨c1.trans hk.1,c2.trans hk.2⟩⟩;exact⟨j,g,by rw[(hs.s j g).2];exact y⟩
 .rw[(hs.s i hi).2,(hs.s j u).2];exact h.un i j (hs.s i hi).1 (hs.s j u).1
 .rw[(hs.s i hi).2] at hk⊢;rw[hf,sH];exact⟨h.tk i (hs.s i hi).1 hk,λe=>((a i).1 hi).2 ⟨hk,e⟩⟩
 .rw[hf,sH] at b;obtain⟨i,l,z,A⟩:=G;rw[(hs.s i l).2] at z A;obtain⟨r,or,r1,B,H,I⟩:=h.ro x b.1 ⟨i,(hs.s i l).1,z,A⟩;have or':Oc k'.c r:=(a r).2 ⟨or,λhc=>b.2 (B.symm.trans hc.2)⟩;exact⟨r,or',by rw[(hs.s r or').2];exact⟨r1,B,H,I⟩⟩
 .rw[F] at b;obtain⟨h1,d⟩:=MM _ _ _ b;obtain⟨i,l,q,C,D,J⟩:=h.tb x h1;have m:Oc k'.c i:=(a i).2 ⟨l,λhc=>by
   obtain⟨p,hp,hid⟩:=(II n l).2 hc;obtain⟨_,q2,E,_⟩:=pT (n.mem_iff.1 (abZ.1 hp).1);rw[hid] at q2 E;exact d p hp (by rw[q2];exact C) ⟨by rw[q2];exact D.symm,by rw[E];exact q⟩⟩
  exact⟨i,m,by rw[(hs.s i m).2];exact⟨q,C,D,J⟩⟩
theorem KJ.nO(h:KJ k)(U:Oc k.c i0)(self:Bool){L:List cM}(I:xI k L):KJ (iR k (bJ k.c i0).nu self L):=by
 have u:∀p∈L,p∈lC k.c:=λp hp=>I.1.mem_iff.1 hp
 have b:=LJ h.ci U (self:=self) u;have hs:oN (iR k (bJ k.c i0).nu self L).c k.c:=sY k.c _;have v:∀i,Oc (iR k (bJ k.c i0).nu self L).c i↔Oc k.c i/\¬∃p∈(cP (bJ k.c i0).nu self L).2,fY p=i:=λi=>vG
 have z:∀i j,Oc k.c i->Oc k.c j->(bJ k.c i).pf=(bJ k.c j).nu->i≠i0->(∃p∈(cP (bJ k.c i0).nu self L).2,fY p=j)->∃p∈(cP (bJ k.c i0).nu self L).2,fY p=i:=λi j g d he J ⟨p,hp,hid⟩=>by
  refine⟨_,SI I.2 (I.1.mem_iff.2 (TP g)) (λe=>J (h.ci.inj i i0 g U e)) (.inr ⟨p,hp,?_,?_⟩),YT i _⟩
  .rw[(pT (b p hp).1).2.1,hid];exact he.symm
  .rw[(pT (b p hp).1).2.1,hid,<-he];exact(h.pl i g).1
 have K:∀p∈(cP (bJ k.c i0).nu self L).2,(bJ k.c i0).nu<=p.h.nu:=by
  suffices key:∀(L:List cM) (st:List Int×List cM),(∀p∈L,p∈lC k.c)->(∀x∈st.1,(bJ k.c i0).nu<=x)->(∀p∈st.2,(bJ k.c i0).nu<=p.h.nu)->∀p∈(L.foldl (eW (bJ k.c i0).nu self) st).2,(bJ k.c i0).nu<=p.h.nu by
   exact key L ([(bJ k.c i0).nu], []) u (λx a=>by rw[aaK.1 a];exact ab3 _) (λp hp=>by cases hp)
  intro L;induction L with
  |nil=>intro st _ _ l;exact l
  |cons y L M=>
   intro st u h1 l;obtain⟨oy,hy,_,_⟩:=pT (u y aT);have A:=(h.pl _ oy).1;rw[<-hy] at A;rw[acY];refine M _ (λp hp=>u p (by simp[hp])) (λx a=>?_) (λp hp=>?_)
   .unfold eW at a;split at a
    .split at a <;> exact h1 x a
    .split at a
     .rename_i o;rcases aaO.1 a with a|a
      .exact h1 x a
      .rw[aaK.1 a];have:=h1 _ o;omega
     .exact h1 x a
   .unfold eW at hp;split at hp
    .rename_i N;split at hp
     .rcases aaO.1 hp with hp|hp
      .exact l p hp
      .rw[aaK.1 hp,N];exact ab3 _
     .exact l p hp
    .split at hp
     .rename_i o;rcases aaO.1 hp with hp|hp
      .exact l p hp
      .rw[aaK.1 hp];have:=h1 _ o;omega
     .exact l p hp
 have ht:(iR k (bJ k.c i0).nu self L).t=iF k.t (cP (bJ k.c i0).nu self L).2:=rfl;have hf:(iR k (bJ k.c i0).nu self L).f=k.f:=rfl;generalize iR k (bJ k.c i0).nu self L=k' at *;generalize (cP (bJ k.c i0).nu self L).2=G at *;refine⟨h.ci.sub hs,by rw[hf];exact h.fT,by rw[hf];exact h.fn,λi hi=>?_,λi j hi B=>?_,λi hi hk=>?_,λx a hh=>?_,λx a=>?_⟩
 .obtain⟨o1,F⟩:=hs.s i hi;rw[F];refine⟨(h.pl i o1).1,λhp=>?_⟩;obtain⟨j,d,O⟩:=(h.pl i o1).2 hp;have C:Oc k'.c j:=(v j).2 ⟨d,λB=>by
   by_cases D:i=i0
   .subst D;obtain⟨p,hp,hid⟩:=B;have h1:=K p hp;rw[(pT (b p hp).1).2.1,hid,O] at h1;have:=(h.pl i o1).1;omega
   .exact((v i).1 hi).2 (z i j o1 d O.symm D B)⟩
  exact⟨j,C,by rw[(hs.s j C).2];exact O⟩
 .rw[(hs.s i hi).2,(hs.s j B).2];exact h.un i j (hs.s i hi).1 (hs.s j B).1
 .rw[(hs.s i hi).2] at hk⊢;rw[hf];exact h.tk i (hs.s i hi).1 hk
 .rw[hf] at a;obtain⟨i,g,P,Q⟩:=hh;obtain⟨q,e0⟩:=hs.s i g;rw[e0] at P Q;obtain⟨r,or,r1,V,r3,H⟩:=h.ro x a ⟨i,q,P,Q⟩;by_cases R:∃p∈G,fY p=r
  .exfalso
   have S:r=i0:=by
    obtain⟨p,hp,hid⟩:=R;rcases(b p hp).2.2.2.2 with e|e
    .rw[<-hid];exact e
    .rw[hid,H] at e;omega
   have all:∀(n:Nat) (j:Nat),Oc k.c j->(bJ k.c j).kd=1->(bJ k.c j).ob=x->(bJ k.c j).nu<=n->∃p∈G,fY p=j:=by
    intro n;induction n with
    |zero=>intro j d _ _ hn;have:=(h.ci.nu j d).1;omega
    |succ n M=>
     intro j d W X hn;by_cases hp:(bJ k.c j).pf=0
     .rw[h.un j r d or W r1 (X.trans V.symm) hp H];exact R
     .obtain⟨m,T,em⟩:=(h.pl j d).2 hp;obtain⟨c1,c2,_⟩:=h.ci.ch j m d T em.symm;have A:=(h.pl j d).1;refine z j m d T em.symm (λe=>?_) (M m T (c1.symm.trans W) (c2.symm.trans X) aQ);rw[e,<-S] at hp;exact hp H
   have:=h.ci.nu i q;exact((v i).1 g).2 (all (bJ k.c i).nu.toNat i q P Q aQ)
  .have or':Oc k'.c r:=(v r).2 ⟨or,R⟩;exact⟨r,or',by rw[(hs.s r or').2];exact⟨r1,V,r3,H⟩⟩
 .rw[ht] at a;obtain⟨h1,l⟩:=MM _ _ _ a;obtain⟨i,g,F,Y,Z,e4⟩:=h.tb x h1;have E:Oc k'.c i:=(v i).2 ⟨g,λ⟨p,hp,hid⟩=>by
   obtain⟨_,q2,q3,_⟩:=pT (b p hp).1;rw[hid] at q2 q3;exact l p hp (by rw[q2];exact Y) ⟨by rw[q2];exact Z.symm,by rw[q3];exact F⟩⟩
  exact⟨i,E,by rw[(hs.s i E).2];exact⟨F,Y,Z,e4⟩⟩
theorem KJ.same(h:KJ k)(hc:k'.c=k.c)(hf:k'.f=k.f)(a:∀x∈k'.t,x∈k.t):KJ k':=by
 obtain⟨b,d,g,i,j,s',l⟩:=k';obtain rfl:b=k.c:=hc;obtain rfl:d=k.f:=hf;exact⟨h.ci,h.fT,h.fn,h.pl,h.un,h.tk,h.ro,λx e=>h.tb x (a x e)⟩
theorem KJ.alloc(h:KJ k)(hi:jH k.f=some i){e s:Int}(H:(cY k.c e s 1 i 15 0).1=0):KJ {k with f:=fQ k.f,c:=(cY k.c e s 1 i 15 0).2}:=by
 have y:=h.ci.put e s 1 i 15 0 (.inl rfl);obtain⟨t1,t2,t3,t4,t5⟩:=JS h.fT (by rw[h.fn];omega) hi;have A:=(vZ hi).2;rcases rN h.ci.len e s 1 i 15 0 with⟨_,I⟩|⟨m,_,hm,_,_,B,_,_,M,a,hold⟩
 .exact absurd H I
 generalize (cY k.c e s 1 i 15 0).2=C' at *;have ho:∀j,Oc C' j->j≠m->Oc k.c j/\bJ C' j=bJ k.c j:=λj b d=>⟨⟨b.1,by rw[<-hold j d];exact b.2⟩,hold j d⟩
 have hb:∀j,Oc k.c j->Oc C' j/\bJ C' j=bJ k.c j:=λj b=>by
  have d:j≠m:=λe=>B (e ▸ b)
  exact⟨⟨b.1,by rw[hold j d];exact b.2⟩,hold j d⟩
 have J:=h.ci.n0;have K:Oc C' m:=⟨hm,by rw[a];simp only;omega⟩
 refine⟨y,t4.trans h.fT,t3.trans h.fn,λj b=>?_,λj l b hl=>?_,λj b hk=>?_,λx p F=>?_,λx p=>?_⟩
 .simp only at b⊢;by_cases e:j=m
  .subst e;rw[a];simp only;exact⟨aQ,λhc=>absurd rfl hc⟩
  .obtain⟨o1,g⟩:=ho j b e;rw[g];refine⟨(h.pl j o1).1,λhp=>?_⟩;obtain⟨z,t,L⟩:=(h.pl j o1).2 hp;exact⟨z,(hb z t).1,by rw[(hb z t).2];exact L⟩
 .simp only at b hl⊢;have AE:∀z,Oc k.c z->(bJ k.c z).kd=1->(bJ k.c z).ob≠i:=λz t hk e=>by
   have:=h.tk z t hk;rw[e,A] at this;cases this
  by_cases g:j=m
  .by_cases q:l=m
   .intro _ _ _ _ _;rw[g,q]
   .obtain⟨o2,C⟩:=ho l hl q;rw[g,a,C];intro _ o D _ _;exact absurd D.symm (AE l o2 o)
  .obtain⟨o1,G⟩:=ho j b g;by_cases q:l=m
   .rw[q,a,G];intro u _ D _ _;exact absurd D (AE j o1 u)
   .obtain⟨o2,C⟩:=ho l hl q;rw[C,G];exact h.un j l o1 o2
 .simp only at b hk⊢;by_cases e:j=m
  .rw[e,a,t1];exact .inr rfl
  .obtain⟨o1,g⟩:=ho j b e;rw[g] at hk⊢;rw[t1];exact .inl (h.tk j o1 hk)
 .simp only at p F⊢;rw[t1] at p;by_cases n:x=i
  .exact⟨m,K,by rw[a];exact⟨rfl,n.symm,rfl,rfl⟩⟩
  .obtain⟨j,v,u,o⟩:=F;have E:j≠m:=λe=>by rw[e,a] at o;exact n o.symm
   obtain⟨o1,g⟩:=ho j v E;rw[g] at u o;obtain⟨r,or,r1⟩:=h.ro x (p.resolve_right n) ⟨j,o1,u,o⟩;exact⟨r,(hb r or).1,by rw[(hb r or).2];exact r1⟩
 .obtain⟨j,v,g⟩:=h.tb x p;exact⟨j,(hb j v).1,by simp only;rw[(hb j v).2];exact g⟩
theorem KJ.pass(h:KJ k)(g:Oc k.c i){rights:Int}(h1:fP (bJ k.c i).rt rights=rights)(e s:Int):KJ {k with c:=(cY k.c e s (bJ k.c i).kd (bJ k.c i).ob rights (bJ k.c i).nu).2}:=by
 have t:=h.ci.put e s (bJ k.c i).kd (bJ k.c i).ob rights (bJ k.c i).nu (.inr ⟨i,g,rfl,rfl,rfl,h1⟩);rcases rN h.ci.len e s (bJ k.c i).kd (bJ k.c i).ob rights (bJ k.c i).nu with⟨C,_⟩|⟨m,_,hm,_,_,u,_,_,J,a,hold⟩
 .rw[C];exact h
 generalize (cY k.c e s (bJ k.c i).kd (bJ k.c i).ob rights (bJ k.c i).nu).2=C' at *;have ho:∀j,Oc C' j->j≠m->Oc k.c j/\bJ C' j=bJ k.c j:=λj b d=>⟨⟨b.1,by rw[<-hold j d];exact b.2⟩,hold j d⟩
 have hb:∀j,Oc k.c j->Oc C' j/\bJ C' j=bJ k.c j:=λj b=>by
  have d:j≠m:=λe=>u (e ▸ b)
  exact⟨⟨b.1,by rw[hold j d];exact b.2⟩,hold j d⟩
 have D:=h.ci.nu i g;refine⟨t,h.fT,h.fn,λj b=>?_,λj l b hl=>?_,λj b hk=>?_,λx n y=>?_,λx n=>?_⟩
 .simp only at b⊢;by_cases e:j=m
  .subst e;rw[a];simp only;exact⟨aQ,λ_=>⟨i,(hb i g).1,by rw[(hb i g).2]⟩⟩
  .obtain⟨o1,f⟩:=ho j b e;rw[f];refine⟨(h.pl j o1).1,λhp=>?_⟩;obtain⟨z,A,E⟩:=(h.pl j o1).2 hp;exact⟨z,(hb z A).1,by rw[(hb z A).2];exact E⟩
 .simp only at b hl⊢;by_cases f:j=m
  .rw[f,a];intro _ _ _ F _;simp only at F;omega
  .obtain⟨o1,G⟩:=ho j b f;by_cases B:l=m
   .rw[B,a];intro _ _ _ _ H;simp only at H;omega
   .obtain⟨o2,I⟩:=ho l hl B;rw[I,G];exact h.un j l o1 o2
 .simp only at b hk⊢;by_cases e:j=m
  .rw[e,a] at hk⊢;exact h.tk i g hk
  .obtain⟨o1,f⟩:=ho j b e;rw[f] at hk⊢;exact h.tk j o1 hk
 .simp only at n y⊢;obtain⟨j,o,p,q⟩:=y;have v:NU k.c x:=by
   by_cases e:j=m
   .rw[e,a] at p q;exact⟨i,g,p,q⟩
   .obtain⟨o1,f⟩:=ho j o e;rw[f] at p q;exact⟨j,o1,p,q⟩
  obtain⟨r,or,r1⟩:=h.ro x n v;exact⟨r,(hb r or).1,by rw[(hb r or).2];exact r1⟩
 .obtain⟨j,o,f⟩:=h.tb x n;exact⟨j,(hb j o).1,by simp only;rw[(hb j o).2];exact f⟩
theorem KJ.mv{A:Int->Int->Int->Prop}(h:KJ k)(m:Mv A k k'):KJ k':=by
 cases m with
 |gI _ r=>exact(h.gI r).1
 |nO ho _ self o=>exact h.nO ho self o
 |alloc hi g=>exact h.alloc hi g
 |pass ho _ _ h1 e s=>exact h.pass ho h1 e s
 | @write i ho _ hk g a v=>
  obtain⟨f1,f2,f3,_⟩:=wD k.f (bJ k.c i).ob a v;have ft:∀x,dH (iW k.f (bJ k.c i).ob a v) x=dH k.f x:=λx=>EP f1 f2 x
  exact⟨h.ci,by simp only;rw[f2];exact h.fT,by simp only;rw[f1];exact h.fn,h.pl,h.un,λj p hk=>by simp only;rw[ft];exact h.tk j p hk,λx d q=>h.ro x (by simp only at d;rw[ft] at d;exact d) q,h.tb⟩
 |load ho hk he hf g=>
  refine⟨h.ci,h.fT,h.fn,h.pl,h.un,h.tk,h.ro,λy l=>?_⟩;rcases Ku l with l|rfl
  .exact h.tb y l
  .exact⟨_,ho,he,hk,hf,g⟩
 |tl t=>exact h.same rfl rfl t
 |xO b v s n=>exact h.same rfl rfl (λx d=>d)
end
variable{k1 k2:Kv}{op D N E:Int}
section
theorem Yq{r:Int}(h:0<=r/\r<=15)(a:fP r 10=0):fP r 8≠8/\fP r 2≠2:=by
 rw[(vW h aQ).1] at a;rw[(vW h aQ).1,(vW h aQ).1];obtain⟨x,rfl⟩:=aaB h.1;have key:∀y:Fin 16,(y.val &&& 10=0)->(y.val &&& 8≠8/\y.val &&& 2≠2):=cC;have:=key ⟨x,aQ⟩ (by simp only[aaG] at a;show x &&& 10=0;exact_mod_cast a);simp only[aaG] at this⊢;exact⟨λe=>this.1 (by exact_mod_cast e),λe=>this.2 (by exact_mod_cast e)⟩
theorem Ph{r:Int}(h:0<=r/\r<=15)(a:fP r 3=3):fP r 2=2:=DH h aQ aQ a cC
inductive uU (A:Int->Int->Int->Prop):Kv->Kv->Prop
 |nil (k:Kv):uU A k k
 |cons {k k1 k2:Kv} (m:Mv A k k1) (r:uU A k1 k2):uU A k k2
theorem uU.one{A:Int->Int->Int->Prop}(m:Mv A k k'):uU A k k':= .cons m (.nil _)
theorem uU.trans{A:Int->Int->Int->Prop}(h:uU A k k1)(a:uU A k1 k2):uU A k k2:=by
 induction h with
 |nil _=>exact a
 |cons m _ b=>exact .cons m (b a)
theorem KJ.C6{A:Int->Int->Int->Prop}(h:KJ k)(m:uU A k k'):KJ k':=by
 induction m with
 |nil _=>exact h
 |cons m _ a=>exact a (h.mv m)
def HD(k:Kv):Prop:=∀o,dH k.f o=true->NU k.c o
theorem RB{o:Int}(h:kY k o=false):¬NU k.c o:=λa=>by
 rw[I7.2 a] at h;cases h
theorem HD.gI{k k':Kv}{o:Int}(h:KJ k)(d:HD k)(r:kC k o k'):HD k':=by
 obtain⟨_,hs,f,hf⟩:=h.gI r;intro x b;rw[hf,sH] at b;obtain⟨i,g,j,e⟩:=d x b.1;have a:Oc k'.c i:=(f i).2 ⟨g,λhk=>b.2 (e.symm.trans hk.2)⟩;exact⟨i,a,by rw[(hs.s i a).2];exact⟨j,e⟩⟩
theorem XX{num:Int}{L:List cM}:∀p∈(cP num false L).2,p.h.nu≠num:=by
 suffices key:∀(L:List cM) (st:List Int×List cM),(∀p∈st.2,p.h.nu≠num)->∀p∈(L.foldl (eW num false) st).2,p.h.nu≠num from key L ([num], []) (λp hp=>by cases hp)
 intro L;induction L with
 |nil=>intro st h;exact h
 |cons y L a=>
  intro st h;rw[acY];refine a _ (λp hp=>?_);unfold eW at hp;split at hp
  .simp only[aaZ,aaY] at hp;exact h p hp
  .rename_i b;split at hp
   .rcases aaO.1 hp with hp|hp
    .exact h p hp
    .rw[aaK.1 hp];exact b
   .exact h p hp
theorem fX.C6{A:Int->Int->Int->Prop}{l:List cM}(r:fX l k k'):uU A k k':=by
 induction r with
 |nil _=>exact .nil _
 |skip _ _ a=>exact a
 |gI h r1 _ a=>exact .cons (.gI (.inr (RB h.2.1)) r1) a
theorem fX.hd{l:List cM}(r:fX l k k'):KJ k->(∀x,dH k.f x=true->NU k.c x\/∃p∈l,p.h.kd=1/\p.h.ob=x)->HD k':=by
 induction r with
 |nil _=>exact λ_ h x a=>(h x a).resolve_right (λ⟨p,hp,_⟩=>by cases hp)
 | @skip p l k k' hs _ ih=>
  intro d h;refine ih d (λx a=>?_);rcases h x a with h1|⟨q,hq,q1,q2⟩
  .exact .inl h1
  .rcases acQ.1 hq with e|hq
   .subst e;refine .inl ?_;by_cases j:kY k x=true
    .exact I7.1 j
    .exact absurd ⟨q1,by rw[q2];simpa using j,by rw[q2];exact a⟩ hs
   .exact .inr ⟨q,hq,q1,q2⟩
 | @gI p l k m k' hs r1 _ ih=>
  intro d h;obtain⟨g,o,t,hf⟩:=d.gI r1;refine ih g (λx a=>?_);rw[hf,sH] at a;rcases h x a.1 with⟨i,u,m,n⟩|⟨q,hq,q1,q2⟩
  .have b:=(t i).2 ⟨u,λhk=>a.2 (n.symm.trans hk.2)⟩;exact .inl ⟨i,b,by rw[(o.s i b).2];exact⟨m,n⟩⟩
  .rcases acQ.1 hq with e|hq
   .subst e;exact absurd q2.symm a.2
   .exact .inr ⟨q,hq,q1,q2⟩
theorem PG(h:KJ k){e s:Int}(he:0<=e/\e<8)(hs:0<=s/\s<16)(a:(mH k.c e s).isSome=false)(hi:jH k.f=some i):(cY k.c e s 1 i 15 0).1=0:=by
 have b:=(vZ hi).1;rw[h.fn] at b;have hid:oC e s=some (e.toNat *16+s.toNat):=by unfold oC;rw[Zz aQ]
 have d:iT 1 i 15=true:=by unfold iT;exact aa2 aQ
 unfold cY;rw[d,hid];simp only[adJ,aaY];rw[aaA ?_];intro g;unfold mH eO at a;rw[hid] at a;simp only at a;rw[aaA g] at a;cases a
def I4(e:Int):Int->Int->Int->Prop:=λw _ _=>w=e
theorem lF.C6{e A B C:Int}(h:KJ k)(he:0<=e/\e<8)(F:0<=A)(r:lF k e op A B C D N E k'):uU (I4 e) k k':=by
 have b:∀other to_ rights more from_,uU (I4 e) k {k with c:=(gU k.c e from_ other to_ rights more).2}:=λother to_ rights more from_=>by
  rcases wJ (C:=k.c) (env:=e) (from_:=from_) (other:=other) (to_:=to_) (rights:=rights) (more:=more) with a|⟨i,d,a,n,t,g⟩
  .rw[a];exact .nil _
  .rw[g];exact .one (.pass d a.symm n t _ _)
 cases r with
 |alloc _=>
  unfold lH;split
  .exact .nil _
  .rename_i hs;split
   .exact .nil _
   .rename_i u;split
    .rename_i hf;have:fQ k.f=k.f:=by unfold fQ;rw[hf]
     rw[this];exact .nil _
    .rename_i i hf;have q:=PG h he (s:=A) aQ (by simpa using u) hf;split
     .rename_i v;exact absurd q v
     .exact .one (.alloc hf q)
 |free _ r=>
  unfold rH at r;split at r
  .rw[r.2];exact .nil _
  .rename_i x l;obtain⟨i,d,a,n,rfl,g,m⟩:=LK l;exact .one (.gI (.inl ⟨i,d,a.symm,g,rfl,m⟩) r.2)
 |read _=>exact .nil _
 |write _=>
  unfold nZ;split
  .exact .nil _
  .rename_i x l;obtain⟨i,d,a,n,rfl,g,m⟩:=LK l;split
   .exact .nil _
   .exact .one (.write d a.symm g m _ _)
 |load _=>
  unfold mP;split
  .exact .nil _
  .split
   .exact .nil _
   .rename_i x l;obtain⟨i,d,a,n,rfl,g,m⟩:=LK l;refine .one (.load d g a rfl (λhw=>?_));have hw:=abQ hw;rw[Zz hw] at m;exact Ph (h.ci.rt i d) m
 |yR _=>exact .one (.tl (λx l=>(abZ.1 l).1))
 |hand _ r=>
  unfold gS at r;split at r
  .injection r with _ r;rw[r];exact b _ _ _ _ _
  .split at r
   .split at r
    .injection r with _ r;rw[r];exact b _ _ _ _ _
    .rw[r.2];exact .nil _
   .split at r
    .unfold pV at r;split at r
     .rw[r.2];exact .nil _
     .rename_i i hi;obtain⟨_,L,p,rfl⟩:=r;unfold rY at hi;split at hi
      .cases hi
      .rename_i j y;split at hi
       .cases hi
       .injection hi with hi;subst hi;obtain⟨o1,a,_⟩:=mO y;exact .one (.nO o1 a.symm false p)
    .unfold wC at r;split at r
     .rw[r.2];exact .nil _
     .rename_i i hi;obtain⟨_,L,p,z⟩:=r;obtain⟨o1,a,_⟩:=mO hi;exact .cons (.nO o1 a.symm true p) z.C6
 |line _=>exact .nil _
 |p7 _ _=>exact .one (.xO _ _ _ _)
 |time _ r=>
  unfold mR at r;split at r
  .rw[r.2];exact .one (.xO _ _ _ _)
  .split at r
   .rw[r.2];exact .one (.xO _ _ _ _)
   .rcases r with rfl|rfl
    .exact .nil _
    .exact .one (.xO _ _ _ _)
 |send _ r=>
  rcases r with rfl|⟨o,rfl⟩
  .exact .nil _
  .unfold dL;split
   .exact .one (.xO _ _ _ _)
   .exact .nil _
 |next _ _=>exact .nil _
 |null _=>exact .nil _
theorem HD.same(h:HD k)(hc:k'.c=k.c)(hf:k'.f=k.f):HD k':=λx a=>by rw[hc];rw[hf] at a;exact h x a
theorem HD.pass(h:KJ k)(d:HD k)(env from_ other to_ rights more:Int):HD {k with c:=(gU k.c env from_ other to_ rights more).2}:=by
 intro x o;obtain⟨i,a,e,f⟩:=d x o;rcases wJ (C:=k.c) (env:=env) (from_:=from_) (other:=other) (to_:=to_) (rights:=rights) (more:=more) with g|⟨j,r,_,_,_,p⟩
 .rw[g];exact⟨i,a,e,f⟩
 .simp only;rw[p];rcases rN h.ci.len other to_ (bJ k.c j).kd (bJ k.c j).ob rights (bJ k.c j).nu with⟨q,_⟩|⟨m,_,hm,_,_,l,_,_,s,n,hold⟩
  .rw[q];exact⟨i,a,e,f⟩
  .have b:i≠m:=λg=>l (g ▸ a)
   exact⟨i,⟨a.1,by rw[hold i b];exact a.2⟩,by rw[hold i b];exact⟨e,f⟩⟩
theorem lF.hd{e A B C:Int}(h:KJ k)(d:HD k)(he:0<=e/\e<8)(R:0<=A)(r:lF k e op A B C D N E k'):HD k':=by
 cases r with
 |alloc _=>
  unfold lH;split
  .exact d
  .rename_i hs;split
   .exact d
   .rename_i O;split
    .rename_i hf;have:fQ k.f=k.f:=by unfold fQ;rw[hf]
     rw[this];exact d
    .rename_i i hf;have t:=PG h he (s:=A) aQ (by simpa using O) hf;split
     .rename_i K;exact absurd t K
     .intro x a;obtain⟨t1,_⟩:=JS h.fT (by rw[h.fn];omega) hf;simp only at a⊢;rw[t1] at a;rcases rN h.ci.len e A 1 i 15 0 with⟨_,G⟩|⟨m,_,hm,_,_,I,_,_,K,g,hold⟩
      .exact absurd t G
      rcases a with a|a
      .obtain⟨j,u,l,n⟩:=d x a;have v:j≠m:=λJ=>I (J ▸ u)
       exact⟨j,⟨u.1,by rw[hold j v];exact u.2⟩,by rw[hold j v];exact⟨l,n⟩⟩
      .have:=h.ci.n0;exact⟨m,⟨hm,by rw[g];simp only;omega⟩,by rw[g];exact⟨rfl,a.symm⟩⟩
 |free _ r=>
  unfold rH at r;split at r
  .rw[r.2];exact d
  .exact d.gI h r.2
 |read _=>exact d
 |write _=>
  unfold nZ;split
  .exact d
  .split
   .exact d
   .intro x a;simp only at a;obtain⟨f1,f2,_,_⟩:=wD k.f (by assumption:Hd).ob B (C%256);rw[EP f1 f2] at a;exact d x a
 |load _=>
  unfold mP;split
  .exact d
  .split
   .exact d
   .exact d.same rfl rfl
 |yR _=>exact d.same rfl rfl
 |hand _ r=>
  unfold gS at r;split at r
  .injection r with _ r;rw[r];exact d.pass h _ _ _ _ _ _
  .split at r
   .split at r
    .injection r with _ r;rw[r];exact d.pass h _ _ _ _ _ _
    .rw[r.2];exact d
   .split at r
    .unfold pV at r;split at r
     .rw[r.2];exact d
     .rename_i i hi;obtain⟨_,L,y,rfl⟩:=r;unfold rY at hi;split at hi
      .cases hi
      .rename_i j H;split at hi
       .cases hi
       .injection hi with hi;subst hi;obtain⟨o1,J,_⟩:=mO H;have hs:oN (iR k (bJ k.c j).nu false L).c k.c:=sY k.c _;intro x a;obtain⟨i,P,l,n⟩:=d x a;by_cases hi:∃p∈(cP (bJ k.c j).nu false L).2,fY p=i
        .obtain⟨p,hp,hid⟩:=hi;obtain⟨h1,t,G,_,_⟩:=LJ h.ci o1 (self:=false) (λp hp=>y.1.mem_iff.1 hp) p hp;rw[hid] at t G;have b:Oc (iR k (bJ k.c j).nu false L).c j:=vG.2 ⟨o1,λ⟨q,hq,z⟩=>by
          have M:=XX q hq;rw[(pT (y.1.mem_iff.1 ((wO _ _ _).2 q hq))).2.1,z] at M;exact M rfl⟩
         exact⟨j,b,by rw[(hs.s j b).2];exact⟨t.symm.trans l,G.symm.trans n⟩⟩
        .have F:Oc (iR k (bJ k.c j).nu false L).c i:=vG.2 ⟨P,hi⟩;exact⟨i,F,by rw[(hs.s i F).2];exact⟨l,n⟩⟩
    .unfold wC at r;split at r
     .rw[r.2];exact d
     .rename_i i hi;obtain⟨_,L,y,Q⟩:=r;obtain⟨o1,J,_⟩:=mO hi;have hs:oN (iR k (bJ k.c i).nu true L).c k.c:=sY k.c _;refine Q.hd (h.nO o1 true y) (λx a=>?_);obtain⟨j,u,l,n⟩:=d x a;by_cases H:∃p∈(cP (bJ k.c i).nu true L).2,fY p=j
      .obtain⟨p,hp,hid⟩:=H;have:=(pT (y.1.mem_iff.1 ((wO _ _ _).2 p hp))).2.1;rw[hid] at this;exact .inr ⟨p,hp,by rw[this];exact⟨l,n⟩⟩
      .have b:Oc (iR k (bJ k.c i).nu true L).c j:=vG.2 ⟨u,H⟩;exact .inl ⟨j,b,by rw[(hs.s j b).2];exact⟨l,n⟩⟩
 |line _=>exact d
 |p7 _ _=>exact d.same rfl rfl
 |time _ r=>
  unfold mR at r;split at r
  .rw[r.2];exact d.same rfl rfl
  .split at r
   .rw[r.2];exact d.same rfl rfl
   .rcases r with rfl|rfl
    .exact d
    .exact d.same rfl rfl
 |send _ r=>
  rcases r with rfl|⟨o,rfl⟩
  .exact d
  .unfold dL;split
   .exact d.same rfl rfl
   .exact d
 |next _ _=>exact d
 |null _=>exact d
def RJ(e o:Int):Int->Int->Int->Prop:=λw d x=>w=e/\d=1/\x=o
theorem X7{e s:Int}(hs:oN C' C)(h:eO C' e s=some i):eO C e s=some i/\bJ C' i=bJ C i:=by
 obtain⟨o1,a,b⟩:=mO h;obtain⟨o2,c⟩:=hs.s i o1;exact⟨by rw[a,b];exact IP o2,c⟩
theorem iZ.C6{e o:Int}{l:List Int}(r:iZ e l k k'):KJ k->(∀s i,eO k.c e s=some i->s∈l->(bJ k.c i).kd=1/\(bJ k.c i).ob=o)->uU (RJ e o) k k'/\oN k'.c k.c/\k'.f=k.f/\∀x,x≠o->NU k.c x->NU k'.c x:=by
 induction r with
 |nil _=>exact λ_ _=>⟨.nil _,oN.refl _,rfl,λ_ _ h=>h⟩
 | @no s l k k' hn _ ih=>exact λb h=>ih b (λs' i h1 g=>h s' i h1 (by simp[g]))
 | @drop s l k k' i hf L m _ ih=>
  intro b h;obtain⟨o1,u,_⟩:=mO hf;obtain⟨v,n⟩:=h s i hf aT;have hs:oN (iR k (bJ k.c i).nu true L).c k.c:=sY k.c _;obtain⟨y,a2,a3,a4⟩:=ih (b.nO o1 true m) (λs' j h1 g=>by
   obtain⟨d,z⟩:=X7 hs h1;rw[z];exact h s' j d (by simp[g]))
  refine⟨.cons (.nO o1 ⟨u.symm,v,n⟩ true m) y,a2.trans hs,a3,λx q ⟨j,A,B,t⟩=>a4 x q ?_⟩;have a:Oc (iR k (bJ k.c i).nu true L).c j:=vG.2 ⟨A,λ⟨p,hp,hid⟩=>by
   obtain⟨_,_,d,_,_⟩:=LJ b.ci o1 (self:=true) (λp hp=>m.1.mem_iff.1 hp) p hp;rw[hid,t,n] at d;exact q d⟩
  exact⟨j,a,by rw[(hs.s j a).2];exact⟨B,t⟩⟩
theorem J4{e o s:Int}(h1:eO k.c e s=some i)(a:s∈eK k e o):(bJ k.c i).kd=1/\(bJ k.c i).ob=o:=by
 obtain⟨j,b,d,f,g,h⟩:=CK.1 a;rw[d,f,IP b] at h1;injection h1 with h1;subst h1;exact⟨g,h⟩
theorem nH.C6{e o:Int}(h:KJ k)(r:nH e o k k'):uU (RJ e o) k k'/\(HD k->HD k'):=by
 cases r with
 |no _ m=>rw[m];exact⟨.nil _,λd=>d⟩
 |keep _ r a=>
  obtain⟨f,a2,a3,a4⟩:=r.C6 (o:=o) h (λs i h1 a=>J4 h1 a);refine⟨f,λd x b=>?_⟩;by_cases g:x=o
  .rw[g];exact I7.1 a
  .rw[a3] at b;exact a4 x g (d x b)
 |gI _ r a j=>
  obtain⟨f,a2,a3,a4⟩:=r.C6 (o:=o) h (λs i h1 a=>J4 h1 a);have h1:=h.C6 f;refine⟨f.trans (.one (.gI (.inr (RB a)) j)),λd x b=>?_⟩;obtain⟨_,hs,n,hf⟩:=h1.gI j;rw[hf,sH,a3] at b;obtain⟨i,p,q,l⟩:=a4 x b.2 (d x b.1);have c:=(n i).2 ⟨p,λhk=>b.2 (l.symm.trans hk.2)⟩;exact⟨i,c,by rw[(hs.s i c).2];exact⟨q,l⟩⟩
end
end
end Go.Proofs.YtacgiflhgdaeaaaGreat
