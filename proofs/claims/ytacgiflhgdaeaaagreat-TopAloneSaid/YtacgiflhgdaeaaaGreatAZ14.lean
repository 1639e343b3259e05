/- Texts laid as one. -/
import Derived.Laws.CopyOwn
import Derived.Deep.DeepCutAuto
import Derived.Deep.CutBlock
import Derived.Test.YtacgiflhgdaeaaaGreatAZ2
import Derived.Test.YtacgiflhgdaeaaaGreatAZ5
import Derived.Test.YtacgiflhgdaeaaaGreatAZ8
import Derived.Test.YtacgiflhgdaeaaaGreatAZ13
set_option linter.unusedVariables false
set_option linter.unusedSimpArgs false
set_option maxRecDepth 100000
set_option maxHeartbeats 20000000
namespace Go.Proofs.YtacgiflhgdaeaaaGreat
open Go.Proofs.Tryz
open Go renaming World->aA,Value->aC,Addr->aJ,TypeId->aN,Calls->aG
open Go.RowKit renaming Below->aD,Hid->aH,intOf->aL
open Go.Obj renaming cells->aI
section
open Go.RowKit Go.Lib
namespace Nt
theorem WQ(B q c n:Nat)(T:List Nt)(w:aA)(h:Rw B w q c T)(x:aH (T.length=n))(y:n<=1000):
 aG prog 190 #[.slice q n c,n, .func (.func 146) #[] #[]] w (B9 B q c T w):=by
 have i:=aP (fG.refl h);clear h;go_enter func190,ntmps190
 go_wp2_with fail
 go_loopw [7,8] (λv v8 wr=>∃a b:Nat,v= .int .i64 a/\v8= .int .i64 b/\b=a+20/\a<=n/\aH (fG B q c T w wr)) (λv _ _=>n - (aL v).toNat)
 case atStart=>exact⟨0,20,rfl,rfl,rfl,aaH _,i⟩
 case round=>
  clear i;obtain⟨a,b,rfl,rfl,hb,z,i⟩:=hrel;have A:b<=n+20:=aQ;by_cases l:b<=n
  .have C:(b:Int)<=(n:Int):=aQ;have I:=aP hb;clear hb;obtain⟨p,r,hp,t⟩:=i.o;have f:aH (p.length=n):=hp.length_eq.trans x.o;have k:=bN hp t;have u:=aP (KE B q c n a b p wr r f l y aQ);clear r hp t f i;go_wp2_with fail
   refine aR u ?_;rintro e D ⟨rfl,g⟩;have j:=aP (fG.trans k.o.1 k.o.2 g);clear g u k;go_wp2_with fail
   go_roundw
   case rel=>exact⟨b,b+20,rfl,by go_num,rfl,l,j⟩
   case measure=>have:=I.o;simp[aL];omega
  .have C:¬(b:Int)<=(n:Int):=aQ;clear hb;obtain⟨p,r,hp,t⟩:=i.o;have f:aH (p.length=n):=hp.length_eq.trans x.o;have k:=bN hp t;have u:=aP (KE B q c n a n p wr r f (Zw _) y aQ);clear r hp t f i;go_wp2_with fail
   refine aR u ?_;rintro e D ⟨rfl,g⟩;have j:=aP (fG.trans k.o.1 k.o.2 g);clear g u k;go_wp2_with fail
   go_loopw [6,7,8,9] (λv6 v v8 v9 ws=>∃s:Nat,v6= .int .i64 s/\0<s/\s<=2000/\aH (fG B q c T w ws)) (λv6 _ _ _ _=>4000 - (aL v6).toNat)
   case atStart=>exact⟨20,rfl,aQ,aQ,j⟩
   case round=>
    clear j;obtain⟨s,rfl,J,K,i⟩:=hrel;by_cases L:s<n
    .have M:(s:Int)<(n:Int):=aQ;obtain⟨d,hd⟩:∃d,d=2 *s:=⟨_,rfl⟩
     have Q:(2:Int) *(s:Int)=(d:Int):=aQ;have N:d<=4000:=aQ;have HD:=aP hd;clear hd;go_wp2_with fail
     go_loopw [7,8] (λv v8 wt=>∃a b:Nat,v= .int .i64 a/\v8= .int .i64 b/\aH (b=a+2 *s)/\a<=n/\aH (fG B q c T w wt)) (λv _ _=>n - (aL v).toNat)
     case atStart=>exact⟨0,d,rfl,rfl,by have:=HD.o;unfold aH;omega,aaH _,i⟩
     case round=>
      clear i;obtain⟨a,b,rfl,rfl,hb,z,i⟩:=hrel;have A:b<=n+4000:=by have:=hb.o;omega
      obtain⟨m,hm⟩:∃m,m=a+s:=⟨_,rfl⟩
      have R:(a:Int)+(s:Int)=(m:Int):=aQ;have E:=aP hm;have O:m<=3000:=aQ;clear hm;by_cases l:b<=n
      .have C:(b:Int)<=(n:Int):=aQ;have eB:(b:Int)+(d:Int)=((b+d:Nat):Int):=aQ;have F:=aP eB;clear eB;obtain⟨p,r,hp,t⟩:=i.o;have f:aH (p.length=n):=hp.length_eq.trans x.o;have k:=bN hp t;have u:=aP (LH (b - a) B q c n a m b p wr (Zw _) r f (by have:=E.o;omega) (by have:=E.o;have:=hb.o;omega) l y);clear r hp t f i;go_wp2_with fail
       refine aR u ?_;rintro e D ⟨rfl,g⟩;have j:=aP (fG.trans k.o.1 k.o.2 g);clear g u k;go_wp2_with fail
       go_roundw
       case rel=>exact⟨b,b+d,rfl,by rw[F.o],by have:=HD.o;unfold aH;omega,l,j⟩
       case measure=>have:=hb.o;simp[aL];omega
      .have C:¬(b:Int)<=(n:Int):=aQ;go_upto_if 54 with(fail)
       go_cut [] (λP=>aH (fG B q c T w P))
       case first=>
        by_cases G:m<n
        .have c1:(m:Int)<(n:Int):=aQ;obtain⟨p,r,hp,t⟩:=i.o;have f:aH (p.length=n):=hp.length_eq.trans x.o;have k:=bN hp t;have u:=aP (LH (n - a) B q c n a m n p wr (Zw _) r f (by have:=E.o;omega) G (Zw _) y);clear r hp t f i;go_wp2_with fail
         refine aR u ?_;rintro e D ⟨rfl,g⟩;have j:=aP (fG.trans k.o.1 k.o.2 g);clear g u k;go_wp2_with fail
         go_meet
         exact j
        .have c1:¬(m:Int)<(n:Int):=aQ;go_wp2_with fail
         go_meet
         exact i
       case rest=>
       have H:=hcut;clear i hcut;have S:(s:Int) *2=(d:Int):=by have:=HD.o;omega
       go_wp2_with fail
       go_roundw
       case rel=>exact⟨d,rfl,by have:=HD.o;omega,by have:=HD.o;omega,H⟩
       case measure=>have:=HD.o;simp[aL];omega
    .have M:¬(s:Int)<(n:Int):=aQ;go_wp2_with fail
     go_end0
     exact⟨rfl,i.o⟩
theorem Ek(B q c n:Nat)(T:List Nt)(w:aA)(h:Rw B w q c T)(a:aH (T.length=n))(b:n<=1000):
 aG prog 145 #[.slice q n c, .func (.func 146) #[] #[]] w (B9 B q c T w):=by
 have hc:=aP (WQ B q c n T w h a b);clear h;go_enter func145,ntmps145
 go_wp2_with fail
 refine aR hc ?_;rintro e d ⟨rfl,h1⟩;go_wp2_with fail
 go_end0
 exact⟨rfl,h1⟩
theorem R2(w:aA)(a:aC):aG prog 232 #[bH,aU,aU,a] w λe w'=>e= .returned (.tuple #[])/\w=w':=by
 go_enter func232,ntmps232
 go_wp2_with fail
 refine wp_loop_rounds 1 ?_;rw[rounds_succ];go_wp2_with fail
 go_end0
 exact⟨rfl,rfl⟩
theorem SK(w:aA)(a:aC):aG prog 190 #[bH,aU,a] w λe w'=>e= .returned (.tuple #[])/\w=w':=by
 go_enter func190,ntmps190
 go_wp2_with fail
 refine wp_loop_rounds 1 ?_;rw[rounds_succ];go_wp2_with fail
 refine(R2 w a).mono ?_;rintro e b ⟨rfl,rfl⟩;go_wp2_with fail
 refine wp_loop_rounds 1 ?_;rw[rounds_succ];go_wp2_with fail
 go_end0
 exact⟨rfl,rfl⟩
theorem Bc(w:aA)(a:aC):aG prog 145 #[bH,a] w λe w'=>e= .returned (.tuple #[])/\w=w':=by
 go_enter func145,ntmps145
 go_wp2_with fail
 refine(SK w a).mono ?_;rintro e b ⟨rfl,rfl⟩;go_wp2_with fail
 go_end0
 exact⟨rfl,rfl⟩
end Nt
section
namespace Nt
theorem T6:(prog.info? 96).map (λi=>(i.zero,i.size,i.bytes))=some (some (.agg #[aU,aU,aU]),3,24):=aV
theorem Ep:jS prog 91 96 3 24:=fU underlying91 T6 rfl aQ
theorem kX:∀w,(zeroValue 96).run prog w= .ok (.agg #[aU,aU,aU]) w:=λw=>by kernel_rfl
variable{A:Option aJ}{n m:Nat}
theorem fH{c:Nat}(h:n=m):Ending.returned (.slice A n c)= .returned (.slice A m c):=by rw[h]
theorem lX(g c i k base:Nat)(L:List Nt)(w:aA)(own:bI jM 3 w base 96 g c L)(r:L.length=i+1+k)(hl:L.length<=1000):
 aG prog 238 #[.slice g L.length c,i, .int .i64 ((i:Int)+1)] w λe w'=>e= .returned (.slice g (L.eraseIdx i).length c)/\bI jM 3 w' base 96 g c (L.eraseIdx i)/\w.grownBy w' (some g):=by
 obtain⟨i0,n,G,p,H⟩:=info_parts T6;have s:(L.eraseIdx i).length=i+k:=by rw[ab2,Zz aQ];omega
 obtain⟨_,_,_,v,x,_,_⟩:=eV own;simp only[maxLen] at x;obtain⟨news,b⟩:∃news,news=(L.drop (i+1)).flatMap jM:=⟨_,rfl⟩
 have s1:aH (news.length=k *3):=by unfold aH;rw[b,eZ jO.len,acM];omega
 have s2:aH (∀u∈news,u.oneCell'=true):=λu hu=>qX jO _ u (by rw[<-b];exact hu)
 have D:aH (∀t,t<news.length->(w.drew.cell? ⟨g,0+i *3+t,none⟩).isSome=true/\w.drew.frozen? ⟨g,0+i *3+t,none⟩=false):=λt E=>by
  rw[s1.o] at E;exact cZ own _ aQ
 have I:aH (∀t u,news[t]?=some u->w.drew.cell? ((⟨g,(i+1) *3,none⟩:aJ).add t)=some u):=λt u hu=>by
  have E:t<k *3:=by rw[<-s1.o];exact(aaN.1 hu).1
  have hF:=oE jO.len L (i+1);rw[b,hF,abY] at hu;rw[Addr.add_lit];obtain⟨cur,_,J,_,_,_,K⟩:=eV own;show w.cell? _=_;rw[cell_of_row w g _ cur _ (0,0) J,<-hu,<-K,aa7,Zz aQ,aaX]
 obtain⟨m,h⟩:∃m,m=w.drew.setCells g (0+i *3) news:=⟨_,rfl⟩
 have F:=aP h;have y:=tG (w:=w.drew) jO.len own.drew i k r [.int .i64 0, .int .i64 0, .int .i64 0] rfl;rw[<-b,show i *3=0+i *3 by omega,<-h] at y;have a:=aP y;have d:∀j,j<c *3->(m.cell? ⟨g,j,none⟩).isSome=true/\m.frozen? ⟨g,j,none⟩=false:=λj z=>by
  rw[h];have:=cZ own j z;exact⟨Go.World.isSome_setCells g _ _ _ _ this.1,by rw[World.frozen?_setCells];exact this.2⟩
 have l:∀ty q A,q=1->(Builtin.clear_ #[91] ty #[.slice (some ⟨g,(i+k) *3,none⟩) q A]).run prog m= .ok (.tuple #[]) (m.setCells g ((i+k) *3) [.int .i64 0, .int .i64 0, .int .i64 0]):=λty q A B=>
  lE m _ 96 ty _ underlying91 kX [.int .i64 0, .int .i64 0, .int .i64 0] aV cC g ((i+k) *3) q A B (λj z=>d _ (by simp at z;omega))
 clear h y d b;rw[r];rw[r] at v;have M:i<=c:=aQ;have N:i+1<=c:=aQ;have O:(0:Int)<=i+1:=aQ;have P:(i:Int)+1<=(i:Int)+1+(k:Int):=aQ;by_cases hce:c=i+1
 .obtain rfl:k=0:=aQ;obtain rfl:news= []:=aa5 (by rw[s1.o]);have C:aH (∀t u,([]:List aC)[t]?=some u->w.drew.cell? ((⟨g,0,none⟩:aJ).add t)=some u):=λt u hu=>by simp at hu
  subst hce;have f:=λty=>l ty (i+1 - i) (i+1 - i) aQ
  simp only[aaU] at f s⊢;have Q:(i:Int)<=(i:Int)+1:=aQ;have R:i+1 - i=1:=aQ;rw[R] at f;clear l;go_enter func238,ntmps238
  go_wp2_with fail
  go_region_law (refine step_append_room rfl (.tmp 22) (.tmp 25) 91 rfl 96 i0 3 underlying91 n p g 0 i (i+1) (by simp[Act.eval,Act.put]) ⟨g,0,none⟩ 0 0 [] (by simp[Act.eval,Act.put]) s1.o C.o s2.o aQ D.o ?_;rw[<-F.o])
  go_wp2
  go_ret
  exact⟨fH aQ,a.o.1,⟨a.o.2.os,a.o.2.tape,a.o.2.output,a.o.2.size,a.o.2.block⟩⟩
 .have f:=λty=>l ty (i+1+k - (i+k)) (c - (i+k)) aQ
  clear l;go_enter func238,ntmps238
  go_wp2_with fail
  go_region_law (refine step_append_room rfl (.tmp 22) (.tmp 25) 91 rfl 96 i0 3 underlying91 n p g 0 i c (by simp[Act.eval,Act.put]) ⟨g,(i+1) *3,none⟩ k (c - (i+1)) news (by simp[Act.eval,Act.put]) s1.o I.o s2.o aQ D.o ?_;rw[<-F.o])
  go_wp2
  go_ret
  exact⟨fH aQ,a.o.1,⟨a.o.2.os,a.o.2.tape,a.o.2.output,a.o.2.size,a.o.2.block⟩⟩
def sX(a p:Int)(e:Nt):Bool:=(e.dM==a)&&(e.eY==p)
def OB(L:List Nt)(a p:Int):Option Nat:=L.findIdx? (sX a p)
def qR(L:List Nt)(a p:Int):Int:=match OB L a p with|some i=>i|none=> -1
variable{w:aA}{i:Nat}
theorem _root_.Go.Proofs.YtacgiflhgdaeaaaGreat.Sl.Jp{xs:List Nt}(h:Sl jM 3 w A xs)(hi:i<xs.length):
 ∃b off,A=some ⟨b,off,none⟩/\w.cell? ⟨b,off+i *3,none⟩=some (.int .i64 xs[i].dM)/\w.cell? ⟨b,off+i *3+1,none⟩=some (.int .i64 xs[i].eY)/\w.cell? ⟨b,off+i *3+1+1,none⟩=some (.int .i64 xs[i].dD):=by
 obtain⟨b,off,a,hc⟩:=h.at_ hi;refine⟨b,off,a,?_,?_,?_⟩
 .simpa using hc 0 _ (show(jM xs[i])[0]?=some (.int .i64 xs[i].dM) from rfl)
 .simpa[abD] using hc 1 _ (show(jM xs[i])[1]?=some (.int .i64 xs[i].eY) from rfl)
 .simpa[abD] using hc 2 _ (show(jM xs[i])[2]?=some (.int .i64 xs[i].dD) from rfl)
theorem tH(a p:Int)(e:Nt)(b1 b2:Nat)(w:aA)(c1:w.cell? (b1,0)=some (.int .i64 a))(c2:w.cell? (b2,0)=some (.int .i64 p)):
 aG prog 186 #[.agg #[e.dM,e.eY,e.dD], .pointer b1, .pointer b2] w λr w'=>r= .returned (.bool (sX a p e))/\aD w w w':=by
 have h1:=bG (aX w (aI #[e.dM,e.eY,e.dD] 96)) c1;have d:=bG (aX w (aI #[e.dM,e.eY,e.dD] 96)) c2;clear c1 c2;cases c:(e.dM==a)
 .have b:aH (sX a p e=false):=by unfold aH sX;rw[c];rfl
  go_enter func186,ntmps186
  go_wp2
  go_ret
  exact⟨jL b.o.symm,aX _ _⟩
 .have b:aH (sX a p e=(e.eY==p)):=by unfold aH sX;rw[c];rfl
  go_enter func186,ntmps186
  go_wp2
  go_ret
  exact⟨jL b.o.symm,aX _ _⟩
theorem CN:∀args w,(callFunc 186 args).run prog w= .ok (.enter 186 args) w:=enters_of func186 aV rfl
variable{p:Int}
theorem BX{L:List Nt}{a:Int}{k:Nat}(hk:k<L.length)(h:sX a p L[k]=true)(c:∀j,(b:j<k)->sX a p L[j]=false):qR L a p=k:=by
 unfold qR OB;rw[aaT.2 ⟨hk,h,λj b=>by rw[c j b];simp⟩]
theorem yL{L:List Nt}{a:Int}(h:∀j,(b:j<L.length)->sX a p L[j]=false):qR L a p= -1:=by
 unfold qR OB;rw[abH.2 (λx c=>by obtain⟨j,b,rfl⟩:=aa1 c;exact h j b)]
theorem tU(A:Option aJ)(L:List Nt)(c:Nat)(a p:Int)(b1 b2:Nat)(w:aA)(hs:Sl jM 3 w A L)(hl:L.length<=1000)(c1:w.cell? (b1,0)=some (.int .i64 a))(c2:w.cell? (b2,0)=some (.int .i64 p)):
 aG prog 185 #[(A,L.length,c), .func (.func 186) #[] #[.pointer b1, .pointer b2]] w λe w'=>e= .returned (.int .i64 (qR L a p))/\aD w w w':=by
 have t:=CN;go_enter func185,ntmps185
 go_wp2
 go_loopw [5,8] (λ_ q wr=>∃k:Nat,k<=L.length/\q= .int .i64 k/\aD w w wr/\aH (∀j,(d:j<L.length)->j<k->sX a p L[j]=false)) (λ_ i _=>L.length - (aL i).toNat)
 case atStart=>exact⟨0,aaH _,rfl,Below.refl _ w,λj d h=>absurd h (acH _)⟩
 case round=>
  obtain⟨k,hk,rfl,f,l⟩:=hrel;by_cases g:k<L.length
  .obtain⟨b,off,rfl,u,v,x⟩:=(hs.keep f).Jp g;have z:(0:Int)<=k:=aQ;have B:(k:Int)<(L.length:Int):=aQ;have hc:=tH a p L[k] b1 b2 wr (bG f c1) (bG f c2);have HQ:aH (sX a p L[k]=true->qR L a p=k):=λh=>BX g h (λj d=>l.o j aQ d)
   have r:aH (sX a p L[k]=false->∀j,(d:j<L.length)->j<k+1->sX a p L[j]=false):=λh j d s=>by
    by_cases he:j=k
    .subst he;exact h
    .exact l.o j d aQ
   clear l;generalize L[k]=y at *;cases hq:sX a p y with
   |true=>
    rw[hq] at hc;have m:=aP (HQ.o hq);go_wp2_with(go_at_fn 186;(with_reducible refine hc.mono ?_);rintro e w' ⟨rfl,hb⟩)
    go_ret
    exact⟨lT m.o.symm,fK f (Zw _) hb⟩
   |false=>
    rw[hq] at hc;have n:=aP (r.o hq);go_wp2_with(go_at_fn 186;(with_reducible refine hc.mono ?_);rintro e w' ⟨rfl,hb⟩)
    go_roundw
    case rel=>exact⟨k+1,aQ,by go_num,fK f (Zw _) hb,n.o⟩
    case measure=>simp[aL];omega
  .obtain rfl:k=L.length:=aQ;go_wp2
   go_ret
   exact⟨lT (yL (λj d=>l.o j d d)).symm,f⟩
end Nt
end
section
namespace Nt
structure Vc where
 vF:List Int
 vS:Nat
def mG(v:Vc):List aC:=v.vF.map (Value.int .i64 ·)++ [.int .i64 v.vS]
def zP(A:Option aJ)(n c:Nat)(VS:List Vc):List aC:= .slice A n c::VS.flatMap mG
structure Bd(w:aA)(g:Nat)(A:Option aJ)(c:Nat)(L:List Nt)(VS:List Vc):Prop where
 b:bF w g 179 (zP A L.length c VS).toArray
 o:bI jM 3 w (g+1) 96 A c L
 v8:VS.length=8
 ok:∀v∈VS,v.vF.length=16/\v.vS<=16
variable{A':Option aJ}{c':Nat}{Y:List Nt}{w1:aA}
section
variable{g c:Nat}{w w' w'':aA}{A:Option aJ}{L:List Nt}{VS:List Vc}
theorem Bd.lt(h:Bd w g A c L VS):g<w.heap.size:=h.b.lt
theorem Bd.keep(h:Bd w g A c L VS)(hb:aD w w w'):Bd w' g A c L VS:=⟨h.b.keep hb,h.o.keep hb,h.v8,h.ok⟩
theorem Bd.c0(h:Bd w g A c L VS):w.cell? (g,0)=some (.slice A L.length c):=h.b.cell 0 _ (by simp[zP])
theorem Bd.ne(h:Bd w g A c L VS):∀q,aY A=some q->q≠g:=λq hq=>by
 have:=(h.o.lt q hq).1;omega
theorem Bd.store(hb:bF w1 g 179 (zP A L.length c VS).toArray)(ho:bI jM 3 w1 (g+1) 96 A' c' Y)(b:VS.length=8)(a:∀v∈VS,v.vF.length=16/\v.vS<=16):Bd (w1.setCell (g,0) (.slice A' Y.length c')) g A' c' Y VS:=by
 refine⟨?_,ho.kept (aZ (bK w1 g) 0 _) ?_,b,a⟩
 .have:=hb.bX 0 (.slice A' Y.length c');simpa[zP] using this
 .cases hb:aY A' with
  |none=>exact .inl rfl
  |some q=>right;intro e;injection e with e;have:=(ho.lt q hb).1;omega
end
variable{g:Nat}{A:Option aJ}{VS:List Vc}
theorem rA{c:Nat}{L:List Nt}(env a:Int)(w:aA)(h:Bd w g A c L VS)(hl:L.length<=1000):
 aG prog 143 #[.pointer g,env,a] w λe w'=>e= .returned (.int .i64 (qR L env a))/\aD w w w':=by
 have b:aD w w ((w.alloc (aI #[env] 3)).alloc (aI #[a] 3)):=(aX _ _).alloc aT _;have b1:=(bF.new w 3 #[env]).alloc (aI #[a] 3);have b2:=bF.fI (w.alloc (aI #[env] 3)) 3 #[a] (g:=w.heap.size+1) aT;have h1:=h.keep b;have c0:=h1.c0;have d:=aP (tU A L c env a w (w.heap.size+1) _ (h1.o.sl jO) hl (b1.cell 0 _ rfl) (b2.cell 0 _ rfl));clear h h1 b1 b2;go_enter func143,ntmps143
 go_wp2_with fail
 refine aR d ?_;rintro e f ⟨rfl,hb⟩;go_wp2_with fail
 go_ret
 exact⟨rfl,fK b (Zw _) hb⟩
def wM(e f n k:Int):Prop:=(0<=e/\e<8)/\(0<=f/\f<32)/\(0<=n/\n<=1048576)/\(1<=k/\k<=65536)
instance (e f n k:Int):Decidable (wM e f n k):=by unfold wM;infer_instance
theorem Ee(env a now k:Int)(w:aA)(h:¬wM env a now k):
 aG prog 105 #[.pointer g,env,a,now,k] w λe w'=>e= .returned (.int .i64 1)/\w=w':=by
 have b:=aP h;clear h;by_cases d:env<0
 .go_enter func105,ntmps105
  go_wp2_with fail
  go_ret
  exact⟨rfl,rfl⟩
 by_cases f:8<=env
 .go_enter func105,ntmps105
  go_wp2_with fail
  go_ret
  exact⟨rfl,rfl⟩
 by_cases i:a<0
 .go_enter func105,ntmps105
  go_wp2_with fail
  go_ret
  exact⟨rfl,rfl⟩
 by_cases j:32<=a
 .go_enter func105,ntmps105
  go_wp2_with fail
  go_ret
  exact⟨rfl,rfl⟩
 by_cases l:now<0
 .go_enter func105,ntmps105
  go_wp2_with fail
  go_ret
  exact⟨rfl,rfl⟩
 by_cases m:1048576<now
 .go_enter func105,ntmps105
  go_wp2_with fail
  go_ret
  exact⟨rfl,rfl⟩
 by_cases n:k<1
 .go_enter func105,ntmps105
  go_wp2_with fail
  go_ret
  exact⟨rfl,rfl⟩
 by_cases p:65536<k
 .go_enter func105,ntmps105
  go_wp2_with fail
  go_ret
  exact⟨rfl,rfl⟩
 exact absurd (by unfold wM;omega) b.o
end Nt
end
namespace Nt
def cY(v:Vc)(x:Int):Vc:=if v.vS=16 then⟨v.vF.tail++ [x],16⟩ else⟨v.vF.set v.vS x,v.vS+1⟩
structure VB(w:aA)(g o:Nat)(t:aN)(pre post:List aC)(v:Vc):Prop where
 b:bF w g t (pre++mG v++post).toArray
 p:pre.length=o
 l:v.vF.length=16
 s:v.vS<=16
variable{i n:Nat}
section
variable{w w':aA}{g o:Nat}{t:aN}{pre post:List aC}{v:Vc}
theorem VB.size(h:VB w g o t pre post v):w.cell? (g,o+16)=some (.int .i64 v.vS):=by
 refine h.b.cell (o+16) _ ?_;have:=h.p;have:=h.l;rw[aaR,abN,aaJ aQ,show o+16 - pre.length=16 by omega];unfold mG;rw[abN,aaJ bT];simp[this]
theorem VB.fr(h:VB w g o t pre post v)(hi:i<16):w.cell? (g,o+i)=some (.int .i64 (v.vF.getD i 0)):=by
 refine h.b.cell (o+i) _ ?_;have:=h.p;have:=h.l;rw[aaR,abN,aaJ aQ,show o+i - pre.length=i by omega];unfold mG;rw[abN,aaV bT];simp[this,hi]
theorem VB.Qa(h:VB w g o t pre post v)(hi:i<16)(x:Int):VB (w.setCell (g,o+i) x) g o t pre post ⟨v.vF.set i x,v.vS⟩:=by
 have h1:=h.p;have a:=h.l;refine⟨?_,h1,by simp[a],h.s⟩;have:=h.b.bX (o+i) (.int .i64 x);rw[Zx,abN,aaQ _ _ aQ,show o+i - pre.length=i by omega] at this;unfold mG at this⊢;rw[abN,acA _ _ bT,<-abN,<-abN,<-ab6] at this;simpa[abN] using this
theorem VB.CJ(h:VB w g o t pre post v)(c:n<=16):VB (w.setCell (g,o+16) n) g o t pre post ⟨v.vF,n⟩:=by
 have h1:=h.p;have a:=h.l;refine⟨?_,h1,a,c⟩;have:=h.b.bX (o+16) (.int .i64 n);rw[Zx,abN,aaQ _ _ aQ,show o+16 - pre.length=16 by omega] at this;unfold mG at this⊢;rw[abN,aaQ _ _ bT] at this;simpa[abN,a] using this
theorem VB.lt(h:VB w g o t pre post v):g<w.heap.size:=h.b.lt
theorem VB.keep(h:VB w g o t pre post v)(k:aD w w w'):VB w' g o t pre post v:=⟨h.b.keep k,h.p,h.l,h.s⟩
theorem VB.fz(h:VB w g o t pre post v)(i:Nat):w.frozen? (g,i)=false:=h.b.frozen i
end
theorem Ip(g o:Nat)(t:aN)(pre post:List aC)(v:Vc)(x:Int)(w:aA)(h:VB w g o t pre post v)(hs:v.vS<16):
 aG prog 148 #[.pointer (some ⟨g,o,none⟩),x] w λe w'=>e= .returned (.tuple #[])/\VB w' g o t pre post ⟨v.vF.set v.vS x,v.vS+1⟩/\w.grownBy w' (some g):=by
 have c0:=h.size;obtain⟨n,q⟩:∃n,v.vS=n:=⟨_,rfl⟩
 rw[q] at c0 hs⊢;have A:¬(n:Int)=16:=aQ;have i:=aP h;have y:=aP q;clear h q;go_enter func148,ntmps148
 go_upto_region 3 with(fail)
 have r:aH (∀z,aD w w z->z.there g (o+n) 1):=λz m=>bF.one (i.o.keep m).b (by have h1:=i.o.p;have B:=i.o.l;simp[mG];omega)
 have c:=bD c0;refine bO (bS _) (λ_=>bS) [] (λ_ _ _=>True) [9] [] 41 (bY _) (λ_ _ _ h m=>bU h m) (λ_ d hd _ v w w' _ h m=>by cases hd) aV aV bL ?_;repeat refine eA ?_
 refine dC ?_;intro γ w8 f hT;clear c;simp only[cO,Act.put,Zx,aaE,aaD];refine dP ?_;refine dS _ rfl 3 (.tmp 33) (.tmp 30) rfl g (o+n) (.int .i64 x) rfl rfl aV rfl (r.o _ f) ?_;refine cI ?_;simp only[Act.put];refine rG (F:=Exit.then _ _ _ _) (λW=>VB W g o t pre post ⟨v.vF.set n x,v.vS⟩/\w.grownBy W (some g)) ⟨(i.o.keep f).Qa hs x,aZ (oR (bK w g) f) _ _⟩ ?_;rintro C ⟨a,j⟩;have d0:=a.size;have f0:=a.fz (o+16);have hl:=a.lt;have k:=y.o;simp only[k] at d0;have s:((n+1:Nat):Int)=(n:Int)+1:=aQ;have u:=aP (And.intro (a.CJ (n:=n+1) aQ) (aZ j (o+16) (.int .i64 ((n+1:Nat):Int))));rw[s] at u;clear r i c0 f a j k s;go_wp2_with fail
 go_end0
 exact⟨rfl,u.o⟩
theorem YL(pre post:List aC)(v:Vc)(o:Nat)(hp:pre.length=o)(hl:v.vF.length=16):
 ((pre++mG v++post).take o++(v.vF.tail.map (Value.int .i64 ·)++(pre++mG v++post).drop (o+15)))=pre++mG ⟨v.vF.tail++ [v.vF.getD 15 0],v.vS⟩++post:=by
 subst hp;have a:pre++mG v++post=pre++(mG v++post):=abN _ _ _;have b:(pre++(mG v++post)).take pre.length=pre:=List.take_left;have c:(pre++(mG v++post)).drop (pre.length+15)=(mG v++post).drop 15:=by rw[<-List.drop_drop,List.drop_left]
 have d:v.vF.drop 15= [v.vF.getD 15 0]:=by
  rw[acR aQ,List.drop_eq_nil_of_le aQ];simp[hl]
 have e:(mG v++post).drop 15= [.int .i64 (v.vF.getD 15 0), .int .i64 v.vS]++post:=by
  unfold mG;rw[adS bT,adS bT,<-List.map_drop,d];rfl
 rw[a,b,c,e];unfold mG;simp
theorem Ix(g o:Nat)(t:aN)(pre post:List aC)(v:Vc)(x:Int)(w:aA)(h:VB w g o t pre post v)(hs:v.vS=16):
 aG prog 148 #[.pointer (some ⟨g,o,none⟩),x] w λe w'=>e= .returned (.tuple #[])/\VB w' g o t pre post ⟨v.vF.tail++ [x],16⟩/\w.grownBy w' (some g):=by
 have c0:=h.size;rw[hs] at c0;have c:=aP h;have N:=aP hs;clear h hs;go_enter func148,ntmps148
 go_upto_region 1 with(fail)
 have f:=bD c0;refine bO (bS _) (λ_=>bS) [] (λ_ _ _=>True) [8] [] 41 (bY _) (λ_ _ _ h A=>bU h A) (λ_ d hd _ v w w' _ h A=>by cases hd) aV aV bL ?_;repeat refine eA ?_
 refine dC ?_;intro γ w8 a hT;clear f;simp only[cO,Act.put,Zx,aaE,aaD];refine dP ?_;have q:aH ((v.vF.tail.map (Value.int .i64 ·)).length=15):=by unfold aH;simp[c.o.l]
 refine wpList_copy_own rfl (.tmp 12) (.tmp 16) 35 35 rfl 3 underlying35 aV g o 16 16 ⟨g,o+1,none⟩ 15 15 rfl rfl (pre++mG v++post).toArray t (c.o.keep a).b (v.vF.tail.map (Value.int .i64 ·)) (by rw[q.o];rfl) (λj u hu=>?_) (by have h1:=c.o.p;have I:=c.o.l;rw[q.o];simp[mG];omega) (λu hu=>by obtain⟨z,_,rfl⟩:=acL.1 hu;rfl) ?_
 .have O:j<15:=by rw[<-q.o];exact(aaN.1 hu).1
  have I:=c.o.l;rw[acS,List.getElem?_tail,Zv aQ] at hu;injection hu with hu;have:=(c.o.keep a).fr (i:=j+1) aQ;rw[Addr.add_lit,<-hu];rw[show o+1+j=o+(j+1) by omega,this];simp[Zv (show j+1<v.vF.length by omega)]
 refine cI ?_;rw[q.o];have J:=aP (YL pre post v o c.o.p c.o.l);simp only[List.toList_toArray];rw[J.o];refine rG (F:=Exit.then _ _ _ _) (λW=>VB W g o t pre post ⟨v.vF.tail++ [v.vF.getD 15 0],v.vS⟩/\w.grownBy W (some g)) ⟨⟨?_,c.o.p,by have:=c.o.l;simp;omega,c.o.s⟩,?_⟩ ?_
 .exact setRow_heap w8 g _ _ t _ (c.o.keep a).b
 .have h:=oR (bK w g) a;exact⟨h.os,h.tape,h.output,by simpa[World.setRow] using h.size,λi hi B=>(setRow_other _ g i _ (λe=>B (by rw[e]))).trans (h.block i hi B)⟩
 rintro P ⟨r,C⟩;have d0:=r.size;have f0:=r.fz (o+16);have hl:=r.lt;have D:=N.o;simp only[D] at d0;have m:=r.CJ (n:=15) aQ;have y:=aZ C (o+16) (.int .i64 ((15:Nat):Int));have H:=bN m y;clear r C m y c J q c0 a;simp only[Act.put];go_upto_region 3 with(fail)
 refine rG (F:=Code.wp _ _ _ _) (λW=>VB W g o t pre post ⟨v.vF.tail++ [v.vF.getD 15 0],15⟩/\w.grownBy W (some g)) H.o ?_;rintro K ⟨m,y⟩;clear d0 f0 hl D H;have c0:=m.size;have c:=bN m y;have L:aH (∀z,aD K K z->z.there g (o+15) 1):=λz A=>bF.one (c.o.1.keep A).b (by have h1:=c.o.1.p;have I:=c.o.1.l;simp[mG] at I⊢;omega)
 clear m y;have f:=bD c0;refine bO (bS _) (λ_=>bS) [] (λ_ _ _=>True) [9] [] 41 (bY _) (λ_ _ _ h A=>bU h A) (λ_ d hd _ v w w' _ h A=>by cases hd) aV aV bL ?_;repeat refine eA ?_
 refine dC ?_;intro γ w8 a hT;clear f;simp only[cO,Act.put,Zx,aaE,aaD];refine dP ?_;refine dS _ rfl 3 (.tmp 33) (.tmp 30) rfl g (o+15) (.int .i64 x) rfl rfl aV rfl (L.o _ a) ?_;refine cI ?_;simp only[Act.put];refine rG (F:=Exit.then _ _ _ _) (λW=>VB W g o t pre post ⟨(v.vF.tail++ [v.vF.getD 15 0]).set 15 x,15⟩/\w.grownBy W (some g)) ⟨(c.o.1.keep a).Qa aQ x,aZ (oR c.o.2 a) _ _⟩ ?_;rintro Q ⟨k,E⟩;clear L c c0 a;have G:=k.l;have M:(v.vF.tail++ [v.vF.getD 15 0]).set 15 x=v.vF.tail++ [x]:=by
  simp at G;rw[aaQ _ _ bT];congr 1
  rw[show 15 - v.vF.tail.length=0 by simp;omega];rfl
 rw[M] at k;have d0:=k.size;have f0:=k.fz (o+16);have hl:=k.lt;have H:=aP (And.intro (k.CJ (n:=16) aQ) (aZ E (o+16) (.int .i64 ((16:Nat):Int))));clear k E G M;go_wp2_with fail
 go_end0
 exact⟨rfl,H.o⟩
theorem FV(g o:Nat)(t:aN)(pre post:List aC)(v:Vc)(x:Int)(w:aA)(h:VB w g o t pre post v):
 aG prog 148 #[.pointer (some ⟨g,o,none⟩),x] w λe w'=>e= .returned (.tuple #[])/\VB w' g o t pre post (cY v x)/\w.grownBy w' (some g):=by
 unfold cY;have:=h.s;by_cases hs:v.vS=16
 .rw[Zz hs];exact Ix g o t pre post v x w h hs
 .rw[aaA hs];exact Ip g o t pre post v x w h aQ
end Nt
section
namespace Nt
def lO:Nat->List Nt->List Nt
 |_, []=> []
 |k,x::xs=>⟨x.dM,x.eY,x.dD,k⟩::lO (k+1) xs
theorem zU(xs:List Nt):∀k,(lO k xs).length=xs.length:=by
 induction xs with
 |nil=>intro k;rfl
 |cons x xs a=>intro k;simp[lO,a]
theorem VW(xs:List Nt):∀k,(lO k xs).flatMap jM=xs.flatMap jM:=by
 induction xs with
 |nil=>intro k;rfl
 |cons x xs a=>intro k;simp only[lO,aa0,a];rfl
theorem AF{xs:List Nt}:∀{k:Nat} {y:Nt},y∈lO k xs->∃x∈xs,y.dM=x.dM/\y.eY=x.eY/\y.dD=x.dD:=by
 induction xs with
 |nil=>intro k y h;simp[lO] at h
 |cons x xs a=>
  intro k y h;simp only[lO,acQ] at h;rcases h with rfl|h
  .exact⟨x,aT,rfl,rfl,rfl⟩
  .obtain⟨z,b,h1⟩:=a h;exact⟨z,by simp[b],h1⟩
def mQ(VS:List Vc)(x:Nt):List Vc:=VS.set x.dM.toNat (cY (VS.getD x.dM.toNat ⟨[],0⟩) x.eY)
theorem Mm{v:Vc}(h:v.vF.length=16/\v.vS<=16)(x:Int):(cY v x).vF.length=16/\(cY v x).vS<=16:=by
 unfold cY;split <;> simp <;> omega
variable{VS:List Vc}
theorem Ed(b:VS.length=8)(h:∀v∈VS,v.vF.length=16/\v.vS<=16){x:Nt}(d:0<=x.dM/\x.dM<8):(mQ VS x).length=8/\∀v∈mQ VS x,v.vF.length=16/\v.vS<=16:=by
 refine⟨by simp[mQ,b],λv a=>?_⟩;have he:x.dM.toNat<VS.length:=aQ;rcases abC a with a|rfl
 .exact h v a
 .refine Mm (h _ ?_) _;simp[he]
theorem SQ(A:Option aJ)(n c:Nat)(VS:List Vc){e:Nat}(he:e<VS.length)(v:Vc):zP A n c (VS.set e v)=(.slice A n c::(VS.take e).flatMap mG)++mG v++(VS.drop (e+1)).flatMap mG:=by
 unfold zP;rw[List.set_eq_take_append_cons_drop,Zz he];simp
theorem GV:∀(VS:List Vc),(∀v∈VS,v.vF.length=16/\v.vS<=16)->(VS.flatMap mG).length=VS.length *17
 | [],_=>rfl
 |v::VS,h=>by
  have:=GV VS (λx a=>h x (by simp[a]));have h1:=(h v aT).1;simp only[aa0,aaM,this,mG,abB,h1,aa9,abM];omega
section
variable{w w':aA}{g c:Nat}{A:Option aJ}{L:List Nt}{VS:List Vc}
theorem Bd.vec(h:Bd w g A c L VS){e:Nat}(he:e<8):VB w g (1+e *17) 179 (.slice A L.length c::(VS.take e).flatMap mG) ((VS.drop (e+1)).flatMap mG) (VS.getD e ⟨[],0⟩):=by
 have f:=h.v8;have a:VS.getD e ⟨[],0⟩=VS[e]'(by omega):=by simp[show e<VS.length by omega]
 have h1:=h.ok _ (aaF (show e<VS.length by omega));refine⟨?_,?_,by rw[a];exact h1.1,by rw[a];exact h1.2⟩
 .rw[<-SQ A L.length c VS aQ (VS.getD e ⟨[],0⟩),a,List.set_getElem_self];exact h.b
 .simp only[aa9];rw[GV _ (λv d=>h.ok v (adQ d)),abJ];omega
theorem Bd.Ry(h:Bd w g A c L VS){x:Nt}(a:0<=x.dM/\x.dM<8)(d:VB w' g (1+x.dM.toNat *17) 179 (.slice A L.length c::(VS.take x.dM.toNat).flatMap mG) ((VS.drop (x.dM.toNat+1)).flatMap mG) (cY (VS.getD x.dM.toNat ⟨[],0⟩) x.eY))(f:w.grownBy w' (some g)):Bd w' g A c L (mQ VS x):=by
 have i:=h.v8;obtain⟨p1,p2⟩:=Ed i h.ok a;refine⟨?_,h.o.kept f ?_,p1,p2⟩
 .unfold mQ;rw[SQ A L.length c VS aQ];exact d.b
 .cases hb:aY A with
  |none=>exact .inl rfl
  |some q=>right;intro e;injection e with e;exact h.ne q hb e
end
end Nt
end
namespace Nt
end Nt
end
section
open Go.RowKit Go.Lib Go.Shelf Nt
variable{F:Nat->Prop}{w:aA}{g:Nat}{VS:List Vc}
section
def uZ(F:Nat->Prop)(w:aA)(g:Nat)(L:List Nt)(VS:List Vc):Prop:=∃A c,Bd w g A c L VS/\Ol F w/\¬F g/\∀q,aY A=some q->¬F q
theorem uZ.cD(g:Nat)(L:List Nt)(f:List Vc):dN (λF w=>uZ F w g L f):=λ_ _ _ _ _ ⟨A,c,h,_,a,d⟩ k e fl hH=>
 ⟨A,c,⟨k.aY h.b (e g h.lt a),h.o.kp k (λq hq=>e q (h.o.lt q hq).2 (d q hq)),h.v8,h.ok⟩,fl,hH g h.lt a,λq hq=>hH q (h.o.lt q hq).2 (d q hq)⟩
def Tq(F:Nat->Prop)(g:Nat)(L:List Nt)(VS:List Vc)(v:aC)(w:aA)(e:Ending)(w':aA):Prop:=e= .returned v/\uZ F w' g L VS/\Kp F w w'
def gT(L:List Nt)(env frm now k:Int):Int×List Nt:=if wM env frm now k then(if 0<=qR L env frm then(7,L) else(0,L++ [⟨env,frm,now+k,0⟩])) else(1,L)
def qH(L:List Nt)(env frm:Int):List Nt:=match OB L env frm with|some i=>L.eraseIdx i|none=>L
theorem Hb{L:List Nt}(env a now k:Int)(hd:uZ F w g L VS)(hl:L.length<=500)(h:wM env a now k):
 aG prog 105 #[.pointer g,env,a,now,k] w (Tq F g (if 0<=qR L env a then L else L++ [⟨env,a,now+k,0⟩]) VS (.int .i64 (if 0<=qR L env a then 7 else 0)) w):=by
 obtain⟨A,c,hd,E,r,s⟩:=hd;obtain⟨⟨O,P⟩,⟨Q,R⟩,⟨S,T⟩,⟨U,V⟩⟩:=h;have n1:¬env<0:=aQ;have W:¬a<0:=aQ;have n5:¬now<0:=aQ;have n7:¬k<1:=aQ;have y:=aP (rA env a w hd aQ);obtain⟨pl,t⟩:∃pl,qR L env a=pl:=⟨_,rfl⟩
 rw[t] at y⊢;have HD:=aP hd;have f:=dA E r s;clear hd t E r s;by_cases hp:0<=pl
 .go_enter func105,ntmps105
  go_wp2_with fail
  refine aR y ?_;rintro e B ⟨rfl,hb⟩;go_wp2_with fail
  go_ret
  exact⟨rfl,⟨A,c,HD.o.keep hb,f.o.1.kp (f.o.1.below hb),f.o.2.1,f.o.2.2⟩,f.o.1.below hb⟩
 .go_enter func105,ntmps105
  go_wp2_with fail
  refine aR y ?_;rintro e B ⟨rfl,hb⟩;have j:=HD.o.keep hb;have u:=f.o.1.below hb;have c0:=j.c0;have G:=j.lt;have d:=bN j u;clear j u y HD hb;go_wp2_with(at_builtin;refine bP _ rfl _ _ rfl Ep jO (d.o.1.o.alloc _) (n:=L.length) rfl rfl (m:=1) rfl (ys:= [⟨env,a,now+k,0⟩]) rfl (Sl.new jO B ⟨env,a,now+k,0⟩ _ rfl _) dI aQ bT _ rfl (L.length+1) rfl ?_;intro H c5 C l p v;(have i:bF C g 179 (zP A L.length c VS).toArray:=(d.o.1.b.alloc _).grown p (λe=>d.o.1.ne g e.symm rfl));(have f0:=i.frozen 0);(have d0:C.cell? (g,0)=some (.slice A L.length c):=i.cell 0 _ (by simp[zP]));(have N:=i.lt);(have z:=dA l p (And.intro v i));clear l p v i)
  go_ret
  have I:=f.o.1.kp d.o.2;have J:=I.below (aX B (aI #[env,a, .int .i64 (now+k)] 96));have D:=I.kp J;have K:=Kp.grown z.o.2.1 (F:=F) (λb hb=>⟨D b hb,λe=>f.o.2.2 b e.symm hb⟩);have O4:=D.kp K;have M:=O4.self f.o.2.1 (aZ (bK C g) 0 (.slice H (L.length+1) c5));refine⟨rfl,⟨H,c5,?_,O4.kp M,f.o.2.1,λq hq x=>?_⟩,((d.o.2.trans J).trans K).trans M⟩
  .have:=Bd.store z.o.2.2.2 z.o.1 d.o.1.v8 d.o.1.ok;simpa using this
  .rcases z.o.2.2.1 with e|e
   .exact f.o.2.2 q (e ▸ hq) x
   .rw[e] at hq;injection hq with hq;have:=D q x;omega
theorem VT{L:List Nt}(env a:Int)(hd:uZ F w g L VS)(hl:L.length<=500):
 aG prog 198 #[.pointer g,env,a] w (Tq F g (qH L env a) VS (.bool (OB L env a).isSome) w):=by
 obtain⟨A,c,hd,B,r,s⟩:=hd;have p:=rA env a w hd aQ;have HD:=aP hd;have f:=dA B r s;clear hd B r s;cases hf:OB L env a with
 |none=>
  have hp:qR L env a= -1:=by unfold qR;rw[hf]
  have x:aH (qH L env a=L):=by unfold aH qH;rw[hf]
  rw[hp] at p;have v:=aP p;clear p hp hf;go_enter func198,ntmps198
  go_wp2_with fail
  refine aR v ?_;rintro e C ⟨rfl,hb⟩;go_wp2_with fail
  go_ret
  rw[x.o];exact⟨rfl,⟨A,c,HD.o.keep hb,f.o.1.kp (f.o.1.below hb),f.o.2.1,f.o.2.2⟩,f.o.1.below hb⟩
 |some i=>
  have hp:qR L env a=(i:Int):=by unfold qR;rw[hf]
  have x:aH (qH L env a=L.eraseIdx i):=by unfold aH qH;rw[hf]
  have hi:i<L.length:=(aaT.1 hf).1;rw[hp] at p;have v:=aP p;clear p hp hf;obtain⟨q,rfl⟩:∃q,A=some ⟨q,0,none⟩:=by
   rcases HD.o.o.shape with⟨_,h,_⟩|h
   .rw[h] at hi;simp at hi
   .exact h
  obtain⟨k,hk⟩:∃k,L.length=i+1+k:=⟨L.length - (i+1),aQ⟩
  have H:=aP hk;clear hk;go_enter func198,ntmps198
  go_wp2_with fail
  refine aR v ?_;rintro e C ⟨rfl,hb⟩;have j:=HD.o.keep hb;have t:=f.o.1.below hb;have c0:=j.c0;have m:=aP (lX q c i k (g+1) L C j.o H.o aQ);have d:=bN j t;clear j t v HD hb;go_wp2_with fail
  refine aR m ?_;rintro e y ⟨rfl,u,n⟩;have l:bF y g 179 (zP (some ⟨q,0,none⟩) L.length c VS).toArray:=d.o.1.b.grown n (λe=>d.o.1.ne q rfl (by injection e with e;exact e.symm));have f0:=l.frozen 0;have d0:y.cell? (g,0)=some (.slice (some ⟨q,0,none⟩) L.length c):=l.cell 0 _ (by simp[zP]);have z:=dA u n l;clear u n l c0 m;go_wp2_with fail
  go_ret
  rw[x.o];have D:=f.o.1.kp d.o.2;have E:=D.self (f.o.2.2 q rfl) z.o.2.1;have O4:=D.kp E;have G:=O4.self f.o.2.1 (aZ (bK y g) 0 (.slice (some ⟨q,0,none⟩) (L.eraseIdx i).length c));exact⟨rfl,⟨some ⟨q,0,none⟩,c,Bd.store z.o.2.2 z.o.1 d.o.1.v8 d.o.1.ok,O4.kp G,f.o.2.1,f.o.2.2⟩,(d.o.2.trans E).trans G⟩
end
variable{w':aA}{d:Nat}{O:Option aJ}{Y:List Nt}
section
theorem uZ.YP{R:Option aJ}(e:Ol F w)(k:Kp F w w')(c:¬F g)(i:g<w.heap.size)(hb:Bd w' g R d Y VS)(h1:∀q,aY O=some q->w.heap.size<=q/\q<w'.heap.size)(f:∀q,aY R=some q->w.heap.size<=q)(h:∀q,aY O=some q->aY R≠some q):uZ (λb=>F b\/aY O=some b) w' g Y VS:=by
 refine⟨R,d,hb,λb a=>?_,λhc=>?_,λq hq hc=>?_⟩
 .rcases a with a|a
  .exact Zy (e b a) k.size
  .exact(h1 b a).2
 .rcases hc with hc|hc
  .exact c hc
  .have:=(h1 g hc).1;omega
 .rcases hc with hc|hc
  .have:=e q hc;have:=f q hq;omega
  .exact h q hc hq
def Pc(F:Nat->Prop)(g:Nat)(L:List Nt)(VS:List Vc)(now:Int)(w:aA)(e:Ending)(w':aA):Prop:=
 ∃(O:Option aJ) (d:Nat) (T:List Nt),e= .returned (.slice O T.length d)/\bI jM 3 w' w.heap.size 96 O d T/\T.Perm (lO 0 (L.filter λx=>decide (x.dD<=now)))/\uZ (λb=>F b\/aY O=some b) w' g (L.filter λx=>decide (now<x.dD)) (T.foldl mQ VS)/\Kp F w w'
theorem ZY{L:List Nt}(now:Int)(hdF:uZ F w g L VS)(hl:L.length<=500)(hE:∀x∈L,0<=x.dM/\x.dM<8):
 aG prog 107 #[.pointer g,now] w (Pc F g L VS now w):=by
 obtain⟨A,c,hd,hO0,hFg,hFA⟩:=hdF;have p:=dA hO0 hFg hFA;clear hO0 hFg hFA;have c0:=hd.c0;have hgs:=hd.lt;have HD:=aP hd;have HE:=aP hE;obtain⟨n,E⟩:∃n,n=L.length:=⟨_,rfl⟩
 rw[<-E] at c0;have HN:=aP E;have W:n<=500:=aQ;clear hd hE E hl;go_enter func107,ntmps107
 go_wp2_with fail
 go_loopw [5,6,18] (λv5 v6 Z wr=>∃(k:Nat) (X Y:List Nt) (O R:Option aJ) (C G:Nat),Z= .int .i64 k/\v5= .slice O X.length C/\v6= .slice R Y.length G/\k<=n/\X.length<=k/\Y.length<=k/\aH (X=(L.take k).filter λx=>decide (x.dD<=now))/\aH (Y=(L.take k).filter λx=>decide (now<x.dD))/\bI jM 3 wr w.heap.size 96 O C X/\bI jM 3 wr w.heap.size 96 R G Y/\aH (∀q,aY O=some q->aY R≠some q)/\aD w w wr) (λ_ _ Z _=>n - (aL Z).toNat)
 case atStart=>exact⟨0, [], [],none,none,0,0,rfl,rfl,rfl,aaH _,Zw _,Zw _,rfl,rfl,bI.nil _ _ _,bI.nil _ _ _,(λq h=>by simp[aY] at h),Below.refl _ _⟩
 case round=>
  clear c0;obtain⟨k,X,Y,O,R,C,G,rfl,rfl,rfl,hk,hx,hy,hX,hY,hO,hR,f,D⟩:=hrel;have hws:=D.size;by_cases hlt:k<n
  .have hkL:k<L.length:=by have:=HN.o;omega
   obtain⟨b,off,rfl,y0,y1,y2⟩:=((HD.o.keep D).o.sl jO).Jp hkL;have k0:(0:Int)<=k:=aQ;have k1:(k:Int)<(n:Int):=aQ;have HT:=aP (show L.take (k+1)=L.take k++ [L[k]] by rw[abE];simp[hkL]);generalize L[k]=x at *;have N:=bF.new wr 96 #[x.dM,x.eY,x.dD];have x0:=N.cell 0 x.dM rfl;have x1:=N.cell 1 x.eY rfl;have x2:=N.cell 2 x.dD rfl;clear N;by_cases ht:x.dD<=now
   .have H1:aH (X++ [x]=(L.take (k+1)).filter λx=>decide (x.dD<=now)):=by unfold aH;rw[HT.o,acP,<-hX.o];simp[ht]
    have H2:aH (Y=(L.take (k+1)).filter λx=>decide (now<x.dD)):=by unfold aH;rw[HT.o,acP,<-hY.o];simp[show ¬now<x.dD by omega]
    go_wp2_with(at_builtin;refine bP _ rfl _ _ rfl Ep jO ((hO.alloc _).alloc _) (n:=X.length) rfl rfl (m:=1) rfl (ys:= [x]) rfl (Sl.fI jO _ x _ rfl _ aT) dI aQ bT _ rfl (X.length+1) rfl ?_;intro A5 c5 w6 d s t;(have H:=dA d s t);clear d s t)
    go_roundw
    case rel=>
     refine⟨k+1,X++ [x],Y,A5,R,c5,G,by go_num,aT,rfl,aQ,bT,aQ,H1,H2,H.o.1,((hR.alloc _).alloc _).kept H.o.2.1 ?_,?_,?_⟩
     .cases hb:aY R with
      |none=>exact .inl rfl
      |some q=>right;intro e;exact f.o q e.symm hb
     .intro q hq e;rcases H.o.2.2 with h5|h5
      .exact f.o q (h5 ▸ hq) e
      .rw[h5] at hq;injection hq with hq;have:=(hR.lt q e).2;simp at hq;omega
     .exact K0 ((D.alloc D.size _).alloc bT _) H.o.2.1 (λq hq=>(hO.lt q hq).1)
    case measure=>simp[aL];omega
   .have H1:aH (X=(L.take (k+1)).filter λx=>decide (x.dD<=now)):=by unfold aH;rw[HT.o,acP,<-hX.o];simp[ht]
    have H2:aH (Y++ [x]=(L.take (k+1)).filter λx=>decide (now<x.dD)):=by unfold aH;rw[HT.o,acP,<-hY.o];simp[show now<x.dD by omega]
    go_wp2_with(at_builtin;refine bP _ rfl _ _ rfl Ep jO ((hR.alloc _).alloc _) (n:=Y.length) rfl rfl (m:=1) rfl (ys:= [x]) rfl (Sl.fI jO _ x _ rfl _ aT) dI aQ bT _ rfl (Y.length+1) rfl ?_;intro A5 c5 w6 d s t;(have H:=dA d s t);clear d s t)
    go_roundw
    case rel=>
     refine⟨k+1,X,Y++ [x],O,A5,C,c5,by go_num,rfl,aT,aQ,aQ,bT,H1,H2,((hO.alloc _).alloc _).kept H.o.2.1 ?_,H.o.1,?_,?_⟩
     .cases hb:aY O with
      |none=>exact .inl rfl
      |some q=>right;intro e;exact f.o q hb e.symm
     .intro q hq e;rcases H.o.2.2 with h5|h5
      .exact f.o q hq (h5 ▸ e)
      .rw[h5] at e;injection e with e;have:=(hO.lt q hq).2;simp at e;omega
     .exact K0 ((D.alloc D.size _).alloc bT _) H.o.2.1 (λq hq=>(hR.lt q hq).1)
    case measure=>simp[aL];omega
  .obtain rfl:k=n:=aQ;have k1:¬(k:Int)<(k:Int):=aQ;have i:=HD.o.keep D;have d0:wr.cell? (g,0)=some (.slice A L.length c):=i.c0;have f0:=i.b.frozen 0;have hlg:=i.lt;have l:=Bd.store i.b (hR.from_ (show g+1<=w.heap.size by omega)) i.v8 i.ok;have u:Kp F w (wr.setCell (g,0) (.slice R Y.length G)):=(p.o.1.below D).trans ((p.o.1.kp (p.o.1.below D)).self p.o.2.1 (aZ (bK wr g) 0 _));have I:aH ((∀q,aY R=some q->w.heap.size<=q)/\∀q,aY O=some q->aY R≠some q):=⟨λq hq=>(hR.lt q hq).1,f.o⟩
   have hO1:bI jM 3 (wr.setCell (g,0) (.slice R Y.length G)) w.heap.size 96 O C X:=hO.kept (aZ (bK wr g) 0 _) (by
    cases hb:aY O with
    |none=>exact .inl rfl
    |some q=>right;intro e;injection e with e;have:=(hO.lt q hb).1;omega)
   have hXL:X=L.filter λx=>decide (x.dD<=now):=by rw[hX.o,HN.o,ab9]
   have hYL:Y=L.filter λx=>decide (now<x.dD):=by rw[hY.o,HN.o,ab9]
   have v:=bN hXL hYL;have a:=dA l u hO1;clear i l u hO1 hXL hYL hX hY hO hR D hlt;rcases a.o.2.2.shape with⟨rfl,rfl,rfl⟩|⟨q,rfl⟩
   .go_upto_region 12 with(fail)
    go_wp2_with fail
    refine aS (Bc _ _) ?_;rintro e w2 ⟨rfl,rfl⟩;go_wp2_with fail
    refine wp_loop_rounds 1 ?_;rw[rounds_succ];go_wp2_with fail
    go_ret
    refine⟨none,0, [],rfl,bI.nil _ _ _,?_,?_,a.o.2.1⟩
    .rw[<-v.o.1];exact List.Perm.refl _
    .rw[<-v.o.2];exact uZ.YP p.o.1 a.o.2.1 p.o.2.1 hgs a.o.1 (λq hq=>by cases hq) I.o.1 I.o.2
   .have hT0:Rw w (wr.setCell (g,0) (.slice R Y.length G)) q C (lO 0 X):=by
     have:=a.o.2.2;unfold Rw bI at *;rw[VW,zU];exact this
    have hS:=aP (Ek w q C X.length (lO 0 X) _ hT0 (zU X 0) aQ);have hX5:X.length<=500:=aQ;obtain⟨m,hm⟩:∃m,m=X.length:=⟨_,rfl⟩
    rw[<-hm] at hS hX5;have HM:=aP hm;have hqg:q≠g:=λe=>by have:=(a.o.2.2.lt q rfl).1;omega
    clear hT0;go_upto_region 12 with(fail)
    simp only[<-hm];clear hm;go_wp2_with fail
    refine aR hS ?_;rintro e w2 ⟨rfl,T,P,hP,J⟩;have hmT:T.length=m:=by rw[hP.length_eq,zU];exact HM.o.symm
    have Q:Bd w2 g R G Y VS:=⟨J.aY a.o.1.b ⟨a.o.1.lt,acT hqg⟩,a.o.1.o.kp J (λk hk=>⟨(a.o.1.o.lt k hk).2,λe=>f.o q rfl (e ▸ hk)⟩),a.o.1.v8,a.o.1.ok⟩
    have hn2:Kp F w w2:=a.o.2.1.trans (J.mono λb hb=>⟨Zy (p.o.1 b hb) a.o.2.1.size,λe=>by have:=p.o.1 b hb;have:=(a.o.2.2.lt q rfl).1;omega⟩);have hTE:aH (∀x∈T,0<=x.dM/\x.dM<8):=λx hx=>by
     obtain⟨z,hz,h1,_⟩:=AF (hP.mem_iff.1 hx);rw[h1];refine HE.o z ?_;rw[v.o.1] at hz;exact(abZ.1 hz).1
    have HSP:=aP hP;clear hP J hS a d0 f0 hlg f;go_wp2_with fail
    go_loopw [43] (λv43 ws=>∃j:Nat,v43= .int .i64 j/\j<=m/\Bd ws g R G Y ((T.take j).foldl mQ VS)/\Rw w ws q C T/\Kp F w ws) (λv43 _=>m - (aL v43).toNat)
    case atStart=>exact⟨0,rfl,aaH _,Q,P,hn2⟩
    case round=>
     clear Q P hn2;obtain⟨j,rfl,hj,l,P,E⟩:=hrel;by_cases hlt:j<m
     .have K:j<T.length:=aQ;obtain⟨y0,y1,y2⟩:=mY P K;rw[FE K] at y0 y1 y2;have HTK:=aP (show T.take (j+1)=T.take j++ [T[j]] by rw[abE];simp[K]);have hx:=hTE.o T[j] (aaF K);have j1:(j:Int)<(m:Int):=aQ;generalize T[j]=x at *;obtain⟨e,he⟩:=aaB hx.1;have he8:e<8:=aQ;rw[he] at y0;have N:=bF.new wr 96 #[e,x.eY,x.dD];have S:=l.keep (aX wr (aI #[e,x.eY,x.dD] 96));have hT1:=P.alloc (aI #[e,x.eY,x.dD] 96);have u:=E.trans ((p.o.1.kp E).below (aX wr (aI #[e,x.eY,x.dD] 96)));have HX:=bN hx he;have HK:=dA S hT1 u;clear hx he l P E S hT1 u;go_upto_region 16 with(fail)
      generalize wr.alloc (aI #[e,x.eY,x.dD] 96)=w3 at *;generalize wr.heap.size=zb at *;have x0:=N.cell 0 (.int .i64 (e:Int)) rfl;have x1:=N.cell 1 x.eY rfl;have e0:(0:Int)<=e:=aQ;have y:=HK.o.1.keep (Below.refl w3 w3).drew;have U:=aP (FV g (1+e *17) _ _ _ _ x.eY _ (y.vec he8));have HB3:=aP y;clear y;go_region_with ((go_at_call 148;refine aR U ?_;rintro e9 w4 ⟨rfl,hv4,M⟩))
      all_goals
       have he:=HX.o.2;have het:x.dM.toNat=e:=aQ;have V:=HB3.o.Ry (w':=w4) HX.o.1 (by rw[het];exact hv4) M;have hT5:Rw w w4 q C T:=(HK.o.2.1.drew).kept M (.inr (by simp[aY];exact hqg));have W:Kp F w w4:=HK.o.2.2.trans (((p.o.1.kp HK.o.2.2).below (Below.refl w3 w3).drew).trans (Ol.self (w:=w3.drew) (p.o.1.kp HK.o.2.2.drew) p.o.2.1 M));have HZ:=dA V hT5 W;clear he het V hT5 W hv4 M HB3 HK U N x0 x1 y0 y1 y2;go_wp2_with fail
       go_roundw
       case rel=>exact⟨j+1,by go_num,aQ,by rw[HTK.o,acC];exact HZ.o.1,HZ.o.2.1,HZ.o.2.2⟩
       case measure=>simp[aL];omega
     .obtain rfl:j=m:=aQ;have j1:¬(j:Int)<(j:Int):=aQ;have B:=dA l P E;clear l P E;go_wp2_with fail
      go_ret
      refine⟨some ⟨q,0,none⟩,C,T,?_,B.o.2.1,?_,?_,B.o.2.2⟩
      .rw[hmT];rfl
      .rw[<-v.o.1];exact HSP.o
      .have:=B.o.1;rw[aaS aQ] at this;rw[<-v.o.2];exact uZ.YP p.o.1 B.o.2.2 p.o.2.1 hgs this (λr hr=>bI.lt B.o.2.1 r hr) I.o.1 I.o.2
end
end
section
open Go.RowKit Go.Lib Go.Shelf
variable{j g q:Nat}{F:Nat->Prop}{w W:aA}{z:aC}
section
structure Hd where
 kd:Int
 ob:Int
 rt:Int
 nu:Int
 pf:Int
structure Cf where
 S:List Hd
 n:Int
def DP:Hd:=⟨0,0,0,0,0⟩
def xM(h:Hd):List aC:= [.int .i64 h.kd, .int .i64 h.ob, .int .i64 h.rt, .int .i64 h.nu, .int .i64 h.pf]
theorem lV(h:Hd):(xM h).length=5:=rfl
theorem ZI:eL xM 5:=⟨λ_=>rfl,λx u hu=>by simp[xM] at hu;rcases hu with rfl|rfl|rfl|rfl|rfl <;> rfl⟩
def rX(C:Cf):List aC:=C.S.flatMap xM++ [.int .i64 C.n]
structure eG(F:Nat->Prop)(w:aA)(g:Nat)(C:Cf):Prop where
 b:bF w g 318 (rX C).toArray
 len:C.S.length=128
 fl:Ol F w
 fg:¬F g
def oC(e s:Int):Option Nat:=if 0<=e/\e<8/\0<=s/\s<16 then some (e.toNat *16+s.toNat) else none
def bJ(C:Cf)(k:Nat):Hd:=C.S.getD k DP
def pM(g:Nat)(o:Option Nat):aC:= .pointer (o.map λk=>⟨g,k *5,none⟩)
def eO(C:Cf)(e s:Int):Option Nat:=match oC e s with
 |none=>none
 |some k=>if(bJ C k).nu=0 then none else some k
def mH(C:Cf)(e s:Int):Option Hd:=(eO C e s).map (bJ C)
section
variable{F G H:Nat->Prop}{w w':aA}{g k:Nat}{C:Cf}
theorem eG.cD(g:Nat)(C:Cf):dN (λF w=>eG F w g C):=λ_ _ _ _ _ h k a fl hH=>⟨k.aY h.b (a g h.b.lt h.fg),h.len,fl,hH g h.b.lt h.fg⟩
theorem eG.keep(h:eG F w g C)(hb:aD w w w'):eG F w' g C:=⟨h.b.keep hb,h.len,h.fl.kp (h.fl.below hb),h.fg⟩
theorem eG.kp(h:eG F w g C)(hb:aD w w w'):Kp F w w':=h.fl.below hb
theorem uF{e s:Int}{k:Nat}(h:oC e s=some k):k<128/\∃a b:Nat,e=a/\s=b/\a<8/\b<16/\k=a *16+b:=by
 unfold oC at h;split at h
 .injection h with h;rename_i hc;exact⟨aQ,e.toNat,s.toNat,aQ,aQ,aQ,aQ,h.symm⟩
 .cases h
theorem Cv(h:C.S.length=128):(rX C).length=641:=by unfold rX;rw[aaM,eZ lV,h];rfl
theorem SX(h:C.S.length=128)(hk:k<128)(a:j<5):(rX C)[k *5+j]?=(xM (bJ C k))[j]?:=by
 have hl:=eZ lV C.S;unfold rX;rw[aaV (by rw[hl,h];omega)];refine kM lV C.S k (bJ C k) j ?_ a;unfold bJ;rw[aaI,Zv aQ];rfl
theorem eG.at_(h:eG F w g C)(hk:k<128):w.cell? (g,k *5)=some (.int .i64 (bJ C k).kd)/\w.cell? (g,k *5+1)=some (.int .i64 (bJ C k).ob)/\w.cell? (g,k *5+2)=some (.int .i64 (bJ C k).rt)/\w.cell? (g,k *5+3)=some (.int .i64 (bJ C k).nu)/\w.cell? (g,k *5+4)=some (.int .i64 (bJ C k).pf):=by
 have hc:∀(j:Nat) (v:aC),j<5->(xM (bJ C k))[j]?=some v->w.cell? (g,k *5+j)=some v:=λj v a c=>h.b.cell _ _ (by rw[aaR,SX h.len hk a];exact c)
 exact⟨hc 0 _ cC rfl,hc 1 _ cC rfl,hc 2 _ cC rfl,hc 3 _ cC rfl,hc 4 _ cC rfl⟩
theorem eG.cn(h:eG F w g C):w.cell? (g,640)=some (.int .i64 C.n):=h.b.cell _ _ (by
 have hl:=eZ lV C.S;rw[aaR];unfold rX;rw[aaJ (by rw[hl,h.len];omega),hl,h.len];rfl)
theorem eG.fz(h:eG F w g C)(i:Nat):w.frozen? (g,i)=false:=h.b.frozen i
end
theorem Bx(e:Int)(w:aA):aG prog 184 #[e] w λx w'=>x= .returned (.bool (decide (0<=e/\e<8)))/\w=w':=by
 by_cases a:0<=e
 .have h1:decide (0<=e/\e<8)=decide (e<8):=by simp[a]
  rw[h1];go_enter func184,ntmps184
  go_wp2_with fail
  go_ret
  exact⟨rfl,rfl⟩
 .have h1:decide (0<=e/\e<8)=false:=by simp[a]
  rw[h1];go_enter func184,ntmps184
  go_wp2_with fail
  go_ret
  exact⟨rfl,rfl⟩
theorem NO(g:Nat)(e s:Int)(w:aA):aG prog 142 #[.pointer g,e,s] w λx w'=>x= .returned (pM g (oC e s))/\w=w':=by
 have c:=aP (Bx e w);cases hi:oC e s with
 |some k=>
  obtain⟨_,a,b,rfl,rfl,ha,hb,hk⟩:=uF hi;have h:=aP hk;have ho:decide ((0:Int)<=a/\(a:Int)<8)=true:=aa2 aQ;rw[ho] at c;have a0:(0:Int)<=a:=aQ;have j:(a:Int)<8:=aQ;have b2:(0:Int)<=b:=aQ;have b1:(b:Int)<16:=aQ;clear hi hk ho;go_enter func142,ntmps142
  go_wp2_with fail
  refine aR c ?_;rintro e d ⟨rfl,rfl⟩;go_wp2_with fail
  go_ret
  refine⟨?_,rfl⟩;show Ending.returned (.pointer (some ⟨g,a *80+b *5,none⟩))=Ending.returned (pM g (some k));rw[h.o];unfold pM;rw[show a *80+b *5=(a *16+b) *5 by omega];rfl
 |none=>
  have f:¬(0<=e/\e<8/\0<=s/\s<16):=by
   intro hc;unfold oC at hi;rw[Zz hc] at hi;cases hi
  clear hi;by_cases hw:0<=e/\e<8
  .rw[aa2 hw] at c;by_cases hs:s<0
   .clear f;go_enter func142,ntmps142
    go_wp2_with fail
    refine aR c ?_;rintro x d ⟨rfl,rfl⟩;go_wp2_with fail
    go_ret
    exact⟨rfl,rfl⟩
   .have i:(16:Int)<=s:=aQ;clear f;go_enter func142,ntmps142
    go_wp2_with fail
    refine aR c ?_;rintro x d ⟨rfl,rfl⟩;go_wp2_with fail
    go_ret
    exact⟨rfl,rfl⟩
  .rw[aaP hw] at c;clear f hw;go_enter func142,ntmps142
   go_wp2_with fail
   refine aR c ?_;rintro x d ⟨rfl,rfl⟩;go_wp2_with fail
   go_ret
   exact⟨rfl,rfl⟩
variable{C:Cf}
theorem zD(h:eG F w g C)(e s:Int):aG prog 101 #[.pointer g,e,s] w λx w'=>x= .returned (pM g (eO C e s))/\w=w':=by
 have a:=NO g e s w;unfold eO;cases hi:oC e s with
 |none=>
  rw[hi] at a;have a:=aP a;clear hi h;go_enter func101,ntmps101
  go_wp2_with fail
  refine aR a ?_;rintro x c ⟨rfl,rfl⟩;simp only[pM,abT];go_wp2_with fail
  go_ret
  exact⟨rfl,rfl⟩
 |some k=>
  rw[hi] at a;have a:=aP a;obtain⟨_,_,_,c3,_⟩:=h.at_ (uF hi).1;clear hi h;simp only;by_cases b:(bJ C k).nu=0
  .rw[Zz b];rw[b] at c3;clear b;go_enter func101,ntmps101
   go_wp2_with fail
   refine aR a ?_;rintro x c ⟨rfl,rfl⟩;simp only[pM,aa4];go_wp2_with fail
   go_ret
   exact⟨rfl,rfl⟩
  .rw[aaA b];generalize (bJ C k).nu=nu at *;go_enter func101,ntmps101
   go_wp2_with fail
   refine aR a ?_;rintro x c ⟨rfl,rfl⟩;simp only[pM,aa4];go_wp2_with fail
   go_ret
   exact⟨rfl,rfl⟩
theorem CV{e s:Int}{k:Nat}(h:eO C e s=some k):k<128/\oC e s=some k/\(bJ C k).nu≠0:=by
 unfold eO at h;split at h
 .cases h
 .rename_i j a;split at h
  .cases h
  .injection h with h;subst h;exact⟨(uF a).1,a,by assumption⟩
def mA(o:Option Hd):aC:=match o with
 |none=> .agg #[aU,aU,aU]
 |some h=> .agg #[h.kd,h.ob,h.rt]
theorem tQ{t:aN}{x y:aC}(h:bF w q t #[x,y,z])(a b c:aC):(((w.setCell (q,0) a).setCell (q,1) b).setCell (q,2) c).cell? (q,0)=some a/\(((w.setCell (q,0) a).setCell (q,1) b).setCell (q,2) c).cell? (q,1)=some b/\(((w.setCell (q,0) a).setCell (q,1) b).setCell (q,2) c).cell? (q,2)=some c:=by
 have h1:=((h.bX 0 a).bX 1 b).bX 2 c;exact⟨h1.cell 0 _ aT,h1.cell 1 _ aT,h1.cell 2 _ aT⟩
theorem pS{B:Nat}(h:aD B W w)(d:B<=w.heap.size)(hq:B<=q)(a b c:aC):aD B W (((w.setCell (q,0) a).setCell (q,1) b).setCell (q,2) c):=
 h.grown (aZ (aZ (aZ (bK w q) 0 a) 1 b) 2 c) d (λk hk=>by injection hk with hk;omega)
theorem LB(h:eG F w g C)(e s:Int):aG prog 73 #[.pointer g,e,s] w λx w'=>x= .returned (.tuple #[mA (mH C e s), .bool (mH C e s).isSome])/\aD w w w':=by
 have c:=aX w (aI #[aU,aU,aU] 154);have a:=bF.new w 154 #[aU,aU,aU];have h1:=h.keep c;have b:=zD h1 e s;have j:w.heap.size<(w.alloc (aI #[aU,aU,aU] 154)).heap.size:=aT;unfold mH;cases hi:eO C e s with
 |none=>
  rw[hi] at b;have b:=aP b;clear hi h h1;go_enter func73,ntmps73
  go_upto_region 1 with(fail)
  generalize w.alloc (aI #[aU,aU,aU] 154)=w1 at *;generalize hq:w.heap.size=q1 at *;have l:=a.cell 0 (.int .i64 0) rfl;have m:=a.cell 1 (.int .i64 0) rfl;have n:=a.cell 2 (.int .i64 0) rfl;have o:=a.frozen 0;have p:=a.frozen 1;have q:=a.frozen 2;go_wp2_with fail
  refine aR b ?_;rintro x r ⟨rfl,rfl⟩;simp only[pM,abT];go_wp2_with fail
  obtain⟨z0,f,z2⟩:=tQ a (.int .i64 0) (.int .i64 0) (.int .i64 0);have i:=pS c aQ (Zw q1) (.int .i64 0) (.int .i64 0) (.int .i64 0);generalize ((w1.setCell (q1,0) (.int .i64 0)).setCell (q1,1) (.int .i64 0)).setCell (q1,2) (.int .i64 0)=W at *;refine bodyPost_ret (v:= .tuple #[.agg #[aU,aU,aU],false]) ?_ rfl ⟨rfl,by rw[hq];exact i⟩;simp[z0,f,z2,results,results73,go_sem]
 |some k=>
  rw[hi] at b;have b:=aP b;obtain⟨c0,c1,c2,c3,c4⟩:=h1.at_ (CV hi).1;clear hi h h1;simp only[aa4];generalize bJ C k=x at *;obtain⟨r0,r1,d,t,u⟩:=x;simp only at c0 c1 c2 c3 c4;go_enter func73,ntmps73
  go_upto_region 1 with(fail)
  generalize w.alloc (aI #[aU,aU,aU] 154)=w1 at *;generalize hq:w.heap.size=q1 at *;have l:=a.cell 0 (.int .i64 0) rfl;have m:=a.cell 1 (.int .i64 0) rfl;have n:=a.cell 2 (.int .i64 0) rfl;have o:=a.frozen 0;have p:=a.frozen 1;have q:=a.frozen 2;go_wp2_with fail
  refine aR b ?_;rintro x r ⟨rfl,rfl⟩;simp only[pM,aa4];go_wp2_with fail
  obtain⟨z0,f,z2⟩:=tQ a (.int .i64 r0) (.int .i64 r1) (.int .i64 d);have i:=pS c aQ (Zw q1) (.int .i64 r0) (.int .i64 r1) (.int .i64 d);generalize ((w1.setCell (q1,0) r0).setCell (q1,1) r1).setCell (q1,2) d=W at *;refine bodyPost_ret (v:= .tuple #[.agg #[r0,r1,d],true]) ?_ rfl ⟨rfl,by rw[hq];exact i⟩;simp[z0,f,z2,results,results73,go_sem]
end
end
end Go.Proofs.YtacgiflhgdaeaaaGreat
