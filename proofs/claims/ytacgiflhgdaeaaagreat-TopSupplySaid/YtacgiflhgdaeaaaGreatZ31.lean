/- Texts laid as one. -/
import Derived.Test.YtacgiflhgdaeaaaGreatZ23
import Derived.Test.YtacgiflhgdaeaaaGreatZ30
set_option linter.unusedVariables false
set_option linter.unusedSimpArgs false
set_option maxRecDepth 100000
set_option maxHeartbeats 20000000
namespace Go.Proofs.YtacgiflhgdaeaaaGreat
open Go.Proofs.Tryz
open Go renaming World->aA,Calls->aG
open Go.RowKit renaming Below->aD,Hid->aH,intOf->aL
open Go.Obj renaming cells->aI
section
open Go.RowKit Go.Lib Go.Shelf dH Fr Up Nt
variable{AS:List Int}{A:Option Addr}
section
def Wi(bu pe since:Int)(bY:List Int):Prop:=∀k:Nat,k<bY.length->(bY.drop k).sum<=FI.qO bu pe ((bY.length - k:Nat):Int)/\(since<=k->FI.FY bu pe ((bY.length - k:Nat):Int)<=(bY.drop k).sum)
theorem QF(a:∀x∈AS,0<=x/\x<=1)(k:Nat):0<=(AS.drop k).sum/\(AS.drop k).sum<=AS.length:=by
 have key:∀l:List Int,(∀x∈l,0<=x/\x<=1)->0<=l.sum/\l.sum<=l.length:=λl=>by
  induction l with
  |nil=>intro _;simp
  |cons x l b=>
   intro h;have h1:=h x aT;have e:=b λy c=>h y (by simp[c])
   rw[adM,abM];omega
 have h:=key (AS.drop k) λx d=>a x (afM d)
 rw[abY] at h;omega
theorem S0(bu pe:Int)(hs:Bool)(c:Nat)(since:Int)(w:aA)(h:Sl eI 1 w A AS)(E:∀x∈AS,0<=x/\x<=1)(L:AS.length<=1048576)(a:1<=bu/\bu<=pe/\pe<=1048576)(hw:Wi bu pe since AS):
 aG prog 65 #[.agg #[bu,pe,hs,(A,AS.length,c),since]] w λr w'=>r= .returned (.bool true)/\aD w w w':=by
 have d:aH (bC (w.alloc (aI #[bu,pe,hs,(A,AS.length,c),since] 114)) w.heap.size 114 #[bu,pe,hs,(A,AS.length,c),since]/\aD w w (w.alloc (aI #[bu,pe,hs,(A,AS.length,c),since] 114))):=⟨bC.new w _ _,aX w _⟩
 have n:=cZ h E hw;have i:=aP a;have F:=d.o.1.cell 3 (.slice A AS.length c) rfl;clear h E hw a;go_enter func65,ntmps65
 go_upto_region 1 with(fail)
 generalize (w.alloc (aI #[bu,pe,hs,(A,AS.length,c),since] 114))=w1 at *;generalize hq:w.heap.size=q at *;have HQ:=aP hq;go_wp2_with fail
 clear F;go_loopw [3,4] (λv3 v4 wr=>∃k:Nat,v4= .int .i64 ((k:Int) - 1)/\k<=AS.length/\v3= .int .i64 (AS.drop k).sum/\aH (bC wr q 114 #[bu,pe,hs,(A,AS.length,c),since]/\aD w1 w1 wr)) (λ_ v4 _=>(aL v4+1).toNat)
 case atStart=>exact⟨AS.length,rfl,aaH _,by rw[List.drop_length];rfl,d.o.1,Below.refl _ _⟩
 case round=>
  obtain⟨k,rfl,hk,rfl,f⟩:=hrel;cases k with
  |zero=>
   have H:aH (aD w w wr):=by unfold aH;rw[HQ.o];exact d.o.2.trans (f.o.2.mono (by have:=d.o.2.size;have:=HQ.o;omega))
   clear f;go_wp2_with fail
   go_ret
   exact⟨rfl,H.o⟩
  |succ j=>
   have p:j<AS.length:=hk;have I:((j+1:Nat):Int) - 1=(j:Int):=aQ;rw[I];have G:=f.o.2;obtain⟨b,off,rfl,y⟩:=(n.o.1.keep (w':=wr) (by rw[HQ.o];exact d.o.2.trans (G.mono (by have:=d.o.2.size;have:=HQ.o;omega)))).EJ p;have HD:aH (AS.drop j=AS[j]::AS.drop (j+1)):=acG p;have J:aH (0<=AS[j]/\AS[j]<=1):=n.o.2.1 _ (aaM p);have z:=aP (QF n.o.2.1 (j+1));have B:aH ((AS.drop j).sum<=FI.qO bu pe ((AS.length:Int) - j)/\(since<=j->FI.FY bu pe ((AS.length:Int) - j)<=(AS.drop j).sum)):=by
    have:=n.o.2.2 j p;rw[show((AS.length - j:Nat):Int)=(AS.length:Int) - j by omega] at this;exact this
   have s:=f.o.1.cell 0 bu rfl;have t:=f.o.1.cell 1 pe rfl;have F:=f.o.1.cell 3 (.slice (some ⟨b,off,none⟩) AS.length c) rfl;have u:=f.o.1.cell 4 since rfl;have M:(0:Int)<=j:=aQ;have N:(j:Int)<(AS.length:Int):=aQ;have l:aH ((AS.drop (j+1)).sum+AS[j]=(AS.drop j).sum):=by unfold aH;rw[HD.o,adM];omega
   generalize AS[j]=v at *;generalize (AS.drop (j+1)).sum=sm at *;generalize m:(AS.drop j).sum=s2 at *;have K:IntKind.i64.wrap (sm+v)=s2:=by have:=J.o;have:=z.o;have:=l.o;rw[IntKind.wrap_i64];omega
   have C:=aP (λW=>FI.JE bu pe ((AS.length:Int) - j) W i.o.1 i.o.2.1 i.o.2.2 aQ aQ);have D:=aP (λW=>FI.ZF bu pe ((AS.length:Int) - j) W i.o.1 i.o.2.1 i.o.2.2 aQ aQ);have HEq:=aP m;clear G m HD;have g:aH (aD wr wr wr):=Below.refl _ _;go_wp2_with(first|(go_at_call 93;refine(C.o _).mono ?_;rintro e O ⟨rfl,a⟩;replace s:=bD a s;replace t:=bD a t;replace u:=bD a u;replace g:=aP (g.o.trans (a.mono g.o.size));clear a)|(go_at_call 94;refine(D.o _).mono ?_;rintro e P ⟨rfl,a⟩;replace s:=bD a s;replace t:=bD a t;replace u:=bD a u;replace g:=aP (g.o.trans (a.mono g.o.size));clear a))
   all_goals (first|(exfalso;have h1:=B.o;have Q:=h1.2;(try omega);done)|(exact⟨⟨j,rfl,aQ,congrArg _ HEq.o.symm,f.o.1.keep g.o,f.o.2.trans (g.o.mono f.o.2.size)⟩,by simp only[aL];omega⟩))
end
end
section
open Go.RowKit
namespace Pa
def Lz(n:Nat):ByteArray:=match n with
 |0=>⟨#[110,117,108,108]⟩
 |1=>⟨#[97,108,108,111,99]⟩
 |2=>⟨#[102,114,101,101]⟩
 |3=>⟨#[114,101,97,100]⟩
 |4=>⟨#[119,114,105,116,101]⟩
 |5=>⟨#[108,111,97,100]⟩
 |6=>⟨#[117,110,108,111,97,100]⟩
 |7=>⟨#[100,101,114,105,118,101]⟩
 |8=>⟨#[103,105,118,101]⟩
 |9=>⟨#[114,101,118,111,107,101]⟩
 |10=>⟨#[100,114,111,112]⟩
 |11=>⟨#[98,105,110,100]⟩
 |12=>⟨#[97,99,107]⟩
 |13=>⟨#[109,97,115,107]⟩
 |14=>⟨#[97,108,97,114,109]⟩
 |15=>⟨#[114,101,115,101,114,118,101]⟩
 |16=>⟨#[114,101,108,101,97,115,101]⟩
 |17=>⟨#[115,101,110,100]⟩
 |18=>⟨#[110,101,120,116]⟩
 |19=>⟨#[98,108,111,99,107]⟩
 |_=>⟨#[]⟩
def X4(n:Nat):ByteArray:=match n with
 |0=>⟨#[]⟩
 |1=>⟨#[65]⟩
 |2=>⟨#[65]⟩
 |3=>⟨#[65,66]⟩
 |4=>⟨#[65,66,67]⟩
 |5=>⟨#[65,66,67]⟩
 |6=>⟨#[65]⟩
 |7=>⟨#[65,66,67]⟩
 |8=>⟨#[65,66,67,68]⟩
 |9=>⟨#[65]⟩
 |10=>⟨#[65]⟩
 |11=>⟨#[65]⟩
 |12=>⟨#[65]⟩
 |13=>⟨#[65,66]⟩
 |14=>⟨#[65]⟩
 |15=>⟨#[67,68]⟩
 |16=>⟨#[]⟩
 |17=>⟨#[65,66]⟩
 |18=>⟨#[]⟩
 |19=>⟨#[]⟩
 |_=>⟨#[]⟩
theorem SZ(n:Nat)(w:aA)(h:n<=19):aG prog 132 #[n] w λe w'=>e= .returned (.string (Lz n))/\aD w w w':=by
 rcases(show n=0\/n=1\/n=2\/n=3\/n=4\/n=5\/n=6\/n=7\/n=8\/n=9\/n=10\/n=11\/n=12\/n=13\/n=14\/n=15\/n=16\/n=17\/n=18\/n=19 by omega) with rfl|rfl|rfl|rfl|rfl|rfl|rfl|rfl|rfl|rfl|rfl|rfl|rfl|rfl|rfl|rfl|rfl|rfl|rfl|rfl
 all_goals
  clear h;go_enter func132,ntmps132
  go_wp2
  go_ret
  exact⟨rfl,aX _ _⟩
theorem V8(n:Nat)(w:aA)(h:n<=19):aG prog 134 #[n] w λe w'=>e= .returned (.string (X4 n))/\aD w w w':=by
 rcases(show n=0\/n=1\/n=2\/n=3\/n=4\/n=5\/n=6\/n=7\/n=8\/n=9\/n=10\/n=11\/n=12\/n=13\/n=14\/n=15\/n=16\/n=17\/n=18\/n=19 by omega) with rfl|rfl|rfl|rfl|rfl|rfl|rfl|rfl|rfl|rfl|rfl|rfl|rfl|rfl|rfl|rfl|rfl|rfl|rfl|rfl
 all_goals
  clear h;go_enter func134,ntmps134
  go_wp2
  go_ret
  exact⟨rfl,aX _ _⟩
theorem XY(op:Int)(w:aA)(h:¬(0<=op/\op<=19)):aG prog 132 #[op] w λe w'=>e= .returned (.string ⟨#[]⟩)/\aD w w w':=by
 by_cases h1:op<0
 .go_enter func132,ntmps132
  go_wp2
  go_ret
  exact⟨rfl,aX _ _⟩
 .have a:19<op:=aQ;clear h;go_enter func132,ntmps132
  go_wp2
  go_ret
  exact⟨rfl,aX _ _⟩
end Pa
namespace Pa
theorem xX(w:aA):aG prog 133 #[.string ⟨#[]⟩,aU] w λe w'=>e= .returned (.bool false)/\w=w':=by
 go_enter func133,ntmps133
 go_wp2
 refine wp_loop_rounds 1 ?_;rw[rounds_succ];go_wp2
 go_ret
 exact⟨rfl,rfl⟩
theorem xW(w:aA):aG prog 133 #[.string ⟨#[]⟩, .int .i64 1] w λe w'=>e= .returned (.bool false)/\w=w':=by
 go_enter func133,ntmps133
 go_wp2
 refine wp_loop_rounds 1 ?_;rw[rounds_succ];go_wp2
 go_ret
 exact⟨rfl,rfl⟩
theorem yF(w:aA):aG prog 133 #[.string ⟨#[]⟩, .int .i64 2] w λe w'=>e= .returned (.bool false)/\w=w':=by
 go_enter func133,ntmps133
 go_wp2
 refine wp_loop_rounds 1 ?_;rw[rounds_succ];go_wp2
 go_ret
 exact⟨rfl,rfl⟩
theorem xY(w:aA):aG prog 133 #[.string ⟨#[]⟩, .int .i64 3] w λe w'=>e= .returned (.bool false)/\w=w':=by
 go_enter func133,ntmps133
 go_wp2
 refine wp_loop_rounds 1 ?_;rw[rounds_succ];go_wp2
 go_ret
 exact⟨rfl,rfl⟩
theorem mR(w:aA):aG prog 133 #[.string ⟨#[65]⟩,aU] w λe w'=>e= .returned (.bool true)/\w=w':=by
 have b0:((wrap64 (wrap64 ((⟨#[65]⟩:ByteArray)[0]'(by decide)).toNat - 65)==0)=true):=by decide+kernel
 go_enter func133,ntmps133
 go_wp2
 refine wp_loop_rounds 1 ?_;rw[rounds_succ];go_wp2
 go_ret
 exact⟨rfl,rfl⟩
theorem nI(w:aA):aG prog 133 #[.string ⟨#[65]⟩, .int .i64 1] w λe w'=>e= .returned (.bool false)/\w=w':=by
 have b0:((wrap64 (wrap64 ((⟨#[65]⟩:ByteArray)[0]'(by decide)).toNat - 65)==1)=false):=by decide+kernel
 go_enter func133,ntmps133
 go_wp2
 refine wp_loop_rounds 2 ?_;rw[rounds_succ];go_wp2
 rw[rounds_succ];go_wp2
 go_ret
 exact⟨rfl,rfl⟩
theorem mX(w:aA):aG prog 133 #[.string ⟨#[65]⟩, .int .i64 2] w λe w'=>e= .returned (.bool false)/\w=w':=by
 have b0:((wrap64 (wrap64 ((⟨#[65]⟩:ByteArray)[0]'(by decide)).toNat - 65)==2)=false):=by decide+kernel
 go_enter func133,ntmps133
 go_wp2
 refine wp_loop_rounds 2 ?_;rw[rounds_succ];go_wp2
 rw[rounds_succ];go_wp2
 go_ret
 exact⟨rfl,rfl⟩
theorem nE(w:aA):aG prog 133 #[.string ⟨#[65]⟩, .int .i64 3] w λe w'=>e= .returned (.bool false)/\w=w':=by
 have b0:((wrap64 (wrap64 ((⟨#[65]⟩:ByteArray)[0]'(by decide)).toNat - 65)==3)=false):=by decide+kernel
 go_enter func133,ntmps133
 go_wp2
 refine wp_loop_rounds 2 ?_;rw[rounds_succ];go_wp2
 rw[rounds_succ];go_wp2
 go_ret
 exact⟨rfl,rfl⟩
theorem C6(w:aA):aG prog 133 #[.string ⟨#[65,66]⟩,aU] w λe w'=>e= .returned (.bool true)/\w=w':=by
 have b0:((wrap64 (wrap64 ((⟨#[65,66]⟩:ByteArray)[0]'(by decide)).toNat - 65)==0)=true):=by decide+kernel
 have b1:((wrap64 (wrap64 ((⟨#[65,66]⟩:ByteArray)[1]'(by decide)).toNat - 65)==0)=false):=by decide+kernel
 go_enter func133,ntmps133
 go_wp2
 refine wp_loop_rounds 1 ?_;rw[rounds_succ];go_wp2
 go_ret
 exact⟨rfl,rfl⟩
theorem DP(w:aA):aG prog 133 #[.string ⟨#[65,66]⟩, .int .i64 1] w λe w'=>e= .returned (.bool true)/\w=w':=by
 have b0:((wrap64 (wrap64 ((⟨#[65,66]⟩:ByteArray)[0]'(by decide)).toNat - 65)==1)=false):=by decide+kernel
 have b1:((wrap64 (wrap64 ((⟨#[65,66]⟩:ByteArray)[1]'(by decide)).toNat - 65)==1)=true):=by decide+kernel
 go_enter func133,ntmps133
 go_wp2
 refine wp_loop_rounds 2 ?_;rw[rounds_succ];go_wp2
 rw[rounds_succ];go_wp2
 go_ret
 exact⟨rfl,rfl⟩
theorem CF(w:aA):aG prog 133 #[.string ⟨#[65,66]⟩, .int .i64 2] w λe w'=>e= .returned (.bool false)/\w=w':=by
 have b0:((wrap64 (wrap64 ((⟨#[65,66]⟩:ByteArray)[0]'(by decide)).toNat - 65)==2)=false):=by decide+kernel
 have b1:((wrap64 (wrap64 ((⟨#[65,66]⟩:ByteArray)[1]'(by decide)).toNat - 65)==2)=false):=by decide+kernel
 go_enter func133,ntmps133
 go_wp2
 refine wp_loop_rounds 3 ?_;rw[rounds_succ];go_wp2
 rw[rounds_succ];go_wp2
 rw[rounds_succ];go_wp2
 go_ret
 exact⟨rfl,rfl⟩
theorem DH(w:aA):aG prog 133 #[.string ⟨#[65,66]⟩, .int .i64 3] w λe w'=>e= .returned (.bool false)/\w=w':=by
 have b0:((wrap64 (wrap64 ((⟨#[65,66]⟩:ByteArray)[0]'(by decide)).toNat - 65)==3)=false):=by decide+kernel
 have b1:((wrap64 (wrap64 ((⟨#[65,66]⟩:ByteArray)[1]'(by decide)).toNat - 65)==3)=false):=by decide+kernel
 go_enter func133,ntmps133
 go_wp2
 refine wp_loop_rounds 3 ?_;rw[rounds_succ];go_wp2
 rw[rounds_succ];go_wp2
 rw[rounds_succ];go_wp2
 go_ret
 exact⟨rfl,rfl⟩
theorem V9(w:aA):aG prog 133 #[.string ⟨#[67,68]⟩,aU] w λe w'=>e= .returned (.bool false)/\w=w':=by
 have b0:((wrap64 (wrap64 ((⟨#[67,68]⟩:ByteArray)[0]'(by decide)).toNat - 65)==0)=false):=by decide+kernel
 have b1:((wrap64 (wrap64 ((⟨#[67,68]⟩:ByteArray)[1]'(by decide)).toNat - 65)==0)=false):=by decide+kernel
 go_enter func133,ntmps133
 go_wp2
 refine wp_loop_rounds 3 ?_;rw[rounds_succ];go_wp2
 rw[rounds_succ];go_wp2
 rw[rounds_succ];go_wp2
 go_ret
 exact⟨rfl,rfl⟩
theorem WS(w:aA):aG prog 133 #[.string ⟨#[67,68]⟩, .int .i64 1] w λe w'=>e= .returned (.bool false)/\w=w':=by
 have b0:((wrap64 (wrap64 ((⟨#[67,68]⟩:ByteArray)[0]'(by decide)).toNat - 65)==1)=false):=by decide+kernel
 have b1:((wrap64 (wrap64 ((⟨#[67,68]⟩:ByteArray)[1]'(by decide)).toNat - 65)==1)=false):=by decide+kernel
 go_enter func133,ntmps133
 go_wp2
 refine wp_loop_rounds 3 ?_;rw[rounds_succ];go_wp2
 rw[rounds_succ];go_wp2
 rw[rounds_succ];go_wp2
 go_ret
 exact⟨rfl,rfl⟩
theorem WM(w:aA):aG prog 133 #[.string ⟨#[67,68]⟩, .int .i64 2] w λe w'=>e= .returned (.bool true)/\w=w':=by
 have b0:((wrap64 (wrap64 ((⟨#[67,68]⟩:ByteArray)[0]'(by decide)).toNat - 65)==2)=true):=by decide+kernel
 have b1:((wrap64 (wrap64 ((⟨#[67,68]⟩:ByteArray)[1]'(by decide)).toNat - 65)==2)=false):=by decide+kernel
 go_enter func133,ntmps133
 go_wp2
 refine wp_loop_rounds 1 ?_;rw[rounds_succ];go_wp2
 go_ret
 exact⟨rfl,rfl⟩
theorem V6(w:aA):aG prog 133 #[.string ⟨#[67,68]⟩, .int .i64 3] w λe w'=>e= .returned (.bool true)/\w=w':=by
 have b0:((wrap64 (wrap64 ((⟨#[67,68]⟩:ByteArray)[0]'(by decide)).toNat - 65)==3)=false):=by decide+kernel
 have b1:((wrap64 (wrap64 ((⟨#[67,68]⟩:ByteArray)[1]'(by decide)).toNat - 65)==3)=true):=by decide+kernel
 go_enter func133,ntmps133
 go_wp2
 refine wp_loop_rounds 2 ?_;rw[rounds_succ];go_wp2
 rw[rounds_succ];go_wp2
 go_ret
 exact⟨rfl,rfl⟩
theorem CC(w:aA):aG prog 133 #[.string ⟨#[65,66,67]⟩,aU] w λe w'=>e= .returned (.bool true)/\w=w':=by
 have b0:((wrap64 (wrap64 ((⟨#[65,66,67]⟩:ByteArray)[0]'(by decide)).toNat - 65)==0)=true):=by decide+kernel
 have b1:((wrap64 (wrap64 ((⟨#[65,66,67]⟩:ByteArray)[1]'(by decide)).toNat - 65)==0)=false):=by decide+kernel
 have b2:((wrap64 (wrap64 ((⟨#[65,66,67]⟩:ByteArray)[2]'(by decide)).toNat - 65)==0)=false):=by decide+kernel
 go_enter func133,ntmps133
 go_wp2
 refine wp_loop_rounds 1 ?_;rw[rounds_succ];go_wp2
 go_ret
 exact⟨rfl,rfl⟩
theorem CE(w:aA):aG prog 133 #[.string ⟨#[65,66,67]⟩, .int .i64 1] w λe w'=>e= .returned (.bool true)/\w=w':=by
 have b0:((wrap64 (wrap64 ((⟨#[65,66,67]⟩:ByteArray)[0]'(by decide)).toNat - 65)==1)=false):=by decide+kernel
 have b1:((wrap64 (wrap64 ((⟨#[65,66,67]⟩:ByteArray)[1]'(by decide)).toNat - 65)==1)=true):=by decide+kernel
 have b2:((wrap64 (wrap64 ((⟨#[65,66,67]⟩:ByteArray)[2]'(by decide)).toNat - 65)==1)=false):=by decide+kernel
 go_enter func133,ntmps133
 go_wp2
 refine wp_loop_rounds 2 ?_;rw[rounds_succ];go_wp2
 rw[rounds_succ];go_wp2
 go_ret
 exact⟨rfl,rfl⟩
theorem DL(w:aA):aG prog 133 #[.string ⟨#[65,66,67]⟩, .int .i64 2] w λe w'=>e= .returned (.bool true)/\w=w':=by
 have b0:((wrap64 (wrap64 ((⟨#[65,66,67]⟩:ByteArray)[0]'(by decide)).toNat - 65)==2)=false):=by decide+kernel
 have b1:((wrap64 (wrap64 ((⟨#[65,66,67]⟩:ByteArray)[1]'(by decide)).toNat - 65)==2)=false):=by decide+kernel
 have b2:((wrap64 (wrap64 ((⟨#[65,66,67]⟩:ByteArray)[2]'(by decide)).toNat - 65)==2)=true):=by decide+kernel
 go_enter func133,ntmps133
 go_wp2
 refine wp_loop_rounds 3 ?_;rw[rounds_succ];go_wp2
 rw[rounds_succ];go_wp2
 rw[rounds_succ];go_wp2
 go_ret
 exact⟨rfl,rfl⟩
theorem DM(w:aA):aG prog 133 #[.string ⟨#[65,66,67]⟩, .int .i64 3] w λe w'=>e= .returned (.bool false)/\w=w':=by
 have b0:((wrap64 (wrap64 ((⟨#[65,66,67]⟩:ByteArray)[0]'(by decide)).toNat - 65)==3)=false):=by decide+kernel
 have b1:((wrap64 (wrap64 ((⟨#[65,66,67]⟩:ByteArray)[1]'(by decide)).toNat - 65)==3)=false):=by decide+kernel
 have b2:((wrap64 (wrap64 ((⟨#[65,66,67]⟩:ByteArray)[2]'(by decide)).toNat - 65)==3)=false):=by decide+kernel
 go_enter func133,ntmps133
 go_wp2
 refine wp_loop_rounds 4 ?_;rw[rounds_succ];go_wp2
 rw[rounds_succ];go_wp2
 rw[rounds_succ];go_wp2
 rw[rounds_succ];go_wp2
 go_ret
 exact⟨rfl,rfl⟩
theorem VO(w:aA):aG prog 133 #[.string ⟨#[65,66,67,68]⟩,aU] w λe w'=>e= .returned (.bool true)/\w=w':=by
 have b0:((wrap64 (wrap64 ((⟨#[65,66,67,68]⟩:ByteArray)[0]'(by decide)).toNat - 65)==0)=true):=by decide+kernel
 have b1:((wrap64 (wrap64 ((⟨#[65,66,67,68]⟩:ByteArray)[1]'(by decide)).toNat - 65)==0)=false):=by decide+kernel
 have b2:((wrap64 (wrap64 ((⟨#[65,66,67,68]⟩:ByteArray)[2]'(by decide)).toNat - 65)==0)=false):=by decide+kernel
 have b3:((wrap64 (wrap64 ((⟨#[65,66,67,68]⟩:ByteArray)[3]'(by decide)).toNat - 65)==0)=false):=by decide+kernel
 go_enter func133,ntmps133
 go_wp2
 refine wp_loop_rounds 1 ?_;rw[rounds_succ];go_wp2
 go_ret
 exact⟨rfl,rfl⟩
theorem W8(w:aA):aG prog 133 #[.string ⟨#[65,66,67,68]⟩, .int .i64 1] w λe w'=>e= .returned (.bool true)/\w=w':=by
 have b0:((wrap64 (wrap64 ((⟨#[65,66,67,68]⟩:ByteArray)[0]'(by decide)).toNat - 65)==1)=false):=by decide+kernel
 have b1:((wrap64 (wrap64 ((⟨#[65,66,67,68]⟩:ByteArray)[1]'(by decide)).toNat - 65)==1)=true):=by decide+kernel
 have b2:((wrap64 (wrap64 ((⟨#[65,66,67,68]⟩:ByteArray)[2]'(by decide)).toNat - 65)==1)=false):=by decide+kernel
 have b3:((wrap64 (wrap64 ((⟨#[65,66,67,68]⟩:ByteArray)[3]'(by decide)).toNat - 65)==1)=false):=by decide+kernel
 go_enter func133,ntmps133
 go_wp2
 refine wp_loop_rounds 2 ?_;rw[rounds_succ];go_wp2
 rw[rounds_succ];go_wp2
 go_ret
 exact⟨rfl,rfl⟩
theorem WC(w:aA):aG prog 133 #[.string ⟨#[65,66,67,68]⟩, .int .i64 2] w λe w'=>e= .returned (.bool true)/\w=w':=by
 have b0:((wrap64 (wrap64 ((⟨#[65,66,67,68]⟩:ByteArray)[0]'(by decide)).toNat - 65)==2)=false):=by decide+kernel
 have b1:((wrap64 (wrap64 ((⟨#[65,66,67,68]⟩:ByteArray)[1]'(by decide)).toNat - 65)==2)=false):=by decide+kernel
 have b2:((wrap64 (wrap64 ((⟨#[65,66,67,68]⟩:ByteArray)[2]'(by decide)).toNat - 65)==2)=true):=by decide+kernel
 have b3:((wrap64 (wrap64 ((⟨#[65,66,67,68]⟩:ByteArray)[3]'(by decide)).toNat - 65)==2)=false):=by decide+kernel
 go_enter func133,ntmps133
 go_wp2
 refine wp_loop_rounds 3 ?_;rw[rounds_succ];go_wp2
 rw[rounds_succ];go_wp2
 rw[rounds_succ];go_wp2
 go_ret
 exact⟨rfl,rfl⟩
theorem WH(w:aA):aG prog 133 #[.string ⟨#[65,66,67,68]⟩, .int .i64 3] w λe w'=>e= .returned (.bool true)/\w=w':=by
 have b0:((wrap64 (wrap64 ((⟨#[65,66,67,68]⟩:ByteArray)[0]'(by decide)).toNat - 65)==3)=false):=by decide+kernel
 have b1:((wrap64 (wrap64 ((⟨#[65,66,67,68]⟩:ByteArray)[1]'(by decide)).toNat - 65)==3)=false):=by decide+kernel
 have b2:((wrap64 (wrap64 ((⟨#[65,66,67,68]⟩:ByteArray)[2]'(by decide)).toNat - 65)==3)=false):=by decide+kernel
 have b3:((wrap64 (wrap64 ((⟨#[65,66,67,68]⟩:ByteArray)[3]'(by decide)).toNat - 65)==3)=true):=by decide+kernel
 go_enter func133,ntmps133
 go_wp2
 refine wp_loop_rounds 4 ?_;rw[rounds_succ];go_wp2
 rw[rounds_succ];go_wp2
 rw[rounds_succ];go_wp2
 rw[rounds_succ];go_wp2
 go_ret
 exact⟨rfl,rfl⟩
theorem ZQ(n i:Nat)(w:aA)(h:n<=19)(hi:i<4):aG prog 133 #[.string (X4 n),i] w λe w'=>e= .returned (.bool (jN n i))/\w=w':=by
 rcases(show i=0\/i=1\/i=2\/i=3 by omega) with rfl|rfl|rfl|rfl
 .rcases(show n=0\/n=1\/n=2\/n=3\/n=4\/n=5\/n=6\/n=7\/n=8\/n=9\/n=10\/n=11\/n=12\/n=13\/n=14\/n=15\/n=16\/n=17\/n=18\/n=19 by omega) with rfl|rfl|rfl|rfl|rfl|rfl|rfl|rfl|rfl|rfl|rfl|rfl|rfl|rfl|rfl|rfl|rfl|rfl|rfl|rfl
  .exact xX w
  .exact mR w
  .exact mR w
  .exact C6 w
  .exact CC w
  .exact CC w
  .exact mR w
  .exact CC w
  .exact VO w
  .exact mR w
  .exact mR w
  .exact mR w
  .exact mR w
  .exact C6 w
  .exact mR w
  .exact V9 w
  .exact xX w
  .exact C6 w
  .exact xX w
  .exact xX w
 .rcases(show n=0\/n=1\/n=2\/n=3\/n=4\/n=5\/n=6\/n=7\/n=8\/n=9\/n=10\/n=11\/n=12\/n=13\/n=14\/n=15\/n=16\/n=17\/n=18\/n=19 by omega) with rfl|rfl|rfl|rfl|rfl|rfl|rfl|rfl|rfl|rfl|rfl|rfl|rfl|rfl|rfl|rfl|rfl|rfl|rfl|rfl
  .exact xW w
  .exact nI w
  .exact nI w
  .exact DP w
  .exact CE w
  .exact CE w
  .exact nI w
  .exact CE w
  .exact W8 w
  .exact nI w
  .exact nI w
  .exact nI w
  .exact nI w
  .exact DP w
  .exact nI w
  .exact WS w
  .exact xW w
  .exact DP w
  .exact xW w
  .exact xW w
 .rcases(show n=0\/n=1\/n=2\/n=3\/n=4\/n=5\/n=6\/n=7\/n=8\/n=9\/n=10\/n=11\/n=12\/n=13\/n=14\/n=15\/n=16\/n=17\/n=18\/n=19 by omega) with rfl|rfl|rfl|rfl|rfl|rfl|rfl|rfl|rfl|rfl|rfl|rfl|rfl|rfl|rfl|rfl|rfl|rfl|rfl|rfl
  .exact yF w
  .exact mX w
  .exact mX w
  .exact CF w
  .exact DL w
  .exact DL w
  .exact mX w
  .exact DL w
  .exact WC w
  .exact mX w
  .exact mX w
  .exact mX w
  .exact mX w
  .exact CF w
  .exact mX w
  .exact WM w
  .exact yF w
  .exact CF w
  .exact yF w
  .exact yF w
 .rcases(show n=0\/n=1\/n=2\/n=3\/n=4\/n=5\/n=6\/n=7\/n=8\/n=9\/n=10\/n=11\/n=12\/n=13\/n=14\/n=15\/n=16\/n=17\/n=18\/n=19 by omega) with rfl|rfl|rfl|rfl|rfl|rfl|rfl|rfl|rfl|rfl|rfl|rfl|rfl|rfl|rfl|rfl|rfl|rfl|rfl|rfl
  .exact xY w
  .exact nE w
  .exact nE w
  .exact DH w
  .exact DM w
  .exact DM w
  .exact nE w
  .exact DM w
  .exact WH w
  .exact nE w
  .exact nE w
  .exact nE w
  .exact nE w
  .exact DH w
  .exact nE w
  .exact V6 w
  .exact xY w
  .exact DH w
  .exact xY w
  .exact xY w
end Pa
namespace Pa
theorem Po(n:Nat)(h:n<=19):(Lz n).toList.isEmpty=false:=by
 rcases(show n=0\/n=1\/n=2\/n=3\/n=4\/n=5\/n=6\/n=7\/n=8\/n=9\/n=10\/n=11\/n=12\/n=13\/n=14\/n=15\/n=16\/n=17\/n=18\/n=19 by omega) with rfl|rfl|rfl|rfl|rfl|rfl|rfl|rfl|rfl|rfl|rfl|rfl|rfl|rfl|rfl|rfl|rfl|rfl|rfl|rfl
 all_goals decide+kernel
theorem RV(op a b c d:Int)(w:aA):aG prog 95 #[.agg #[op,a,b,c,d]] w λe w'=>e= .returned (.bool (dI op a b c d))/\aD w w w':=by
 have h:=aX w (aI #[op,a,b,c,d] 223);have c0:(w.alloc (aI #[op,a,b,c,d] 223)).cell? (w.heap.size,0)=some (.int .i64 op):=aT;by_cases B:0<=op/\op<=19
 .obtain⟨n,rfl⟩:=aaO B.1;have C:n<=19:=aQ;have L:=Po n C;have H:=aP (VP (a:=a) (b:=b) (c:=c) (d:=d) B);have I:=aP (λi hi hk=>XG (op:=n) (a:=a) (b:=b) (c:=c) (d:=d) i hi hk);have hc:∀i,i<4->(w.alloc (aI #[n,a,b,c,d] 223)).cell? ⟨w.heap.size,1+i,none⟩=some (.int .i64 (FM a b c d i)):=by
   intro i hi;rcases(show i=0\/i=1\/i=2\/i=3 by omega) with rfl|rfl|rfl|rfl <;> simp[FM]
  have J:=aP hc;clear hc;go_enter func95,ntmps95
  go_wp2_with fail
  generalize w.alloc (aI #[n,a,b,c,d] 223)=w1 at *;refine(SZ n _ C).mono ?_;rintro e D ⟨rfl,g⟩;replace c0:=bD g c0;have E:aH (∀i,i<4->D.cell? ⟨w.heap.size,1+i,none⟩=some (.int .i64 (FM a b c d i))):=λi hi=>bD g (J.o i hi)
  replace h:=h.trans (g.mono h.size);clear g J;go_wp2_with fail
  go_loopw [3] (λM wr=>∃k:Nat,k<=4/\M= .int .i64 k/\aH (∀i,i<k->QI n a b c d i=true)/\aD D D wr) (λi _=>4 - (aL i).toNat)
  case atStart=>exact⟨0,aQ,rfl,λi hi=>absurd hi aQ,Below.refl _ _⟩
  case round=>
   obtain⟨k,hk,rfl,F,g⟩:=hrel;by_cases u:k<4
   .replace c0:=bD g c0;have c1:=bD g (E.o k u);have N:(0:Int)<=k:=aQ;have O:(k:Int)<4:=aQ;have s:aH (QI n a b c d k=kT (FM a b c d k) (jN n k) (GL k)):=rfl;have p:=aP (λW=>ZQ n k W C u);have r:=aP (λW=>V8 n W C);have z:aH (GL k=if k<=1 then 255 else 1048575):=rfl;generalize FM a b c d k=x at *;generalize GL k=m at *;generalize jN n k=q at *;replace s:=s.o;have K:=z.o;clear z;have A:aH (kT x q m=true->∀i,i<k+1->QI n a b c d i=true):=λP i hi=>by
     by_cases G:i=k
     .rw[G,s,P]
     .exact F.o i aQ
    have t:aH (kT x q m=false->dI n a b c d=false):=λl=>I.o k u (by rw[s,l])
    clear s F H I;have Q:=h.trans (g.mono h.size);by_cases h1:k<=1
    all_goals simp only[h1,acY,ab4] at K
    all_goals subst K
    all_goals cases q
    all_goals simp only[kT,acY,ab4,abB] at t A
    .rcases Int.lt_trichotomy x 0 with l|l|l
     .go_wp2_with(first|(go_at_call 134;(refine aS (r.o _) ?_);rintro e j ⟨rfl,f⟩;replace c0:=bD f c0;replace c1:=bD f c1;replace g:=dQ g (aaH _) f;clear f)|(go_at_call 133;(refine aS (p.o _) ?_);rintro e j ⟨rfl,rfl⟩))
      go_ret
      exact⟨by rw[t.o bL];rfl,h.trans (g.mono h.size)⟩
     .subst l;go_wp2_with(first|(go_at_call 134;(refine aS (r.o _) ?_);rintro e j ⟨rfl,f⟩;replace c0:=bD f c0;replace c1:=bD f c1;replace g:=dQ g (aaH _) f;clear f)|(go_at_call 133;(refine aS (p.o _) ?_);rintro e j ⟨rfl,rfl⟩))
      go_roundw
      case rel=>exact⟨k+1,aQ,by go_num,A.o aT,g⟩
      case measure=>simp[aL];omega
     .have v:¬x<0:=aQ;go_wp2_with(first|(go_at_call 134;(refine aS (r.o _) ?_);rintro e j ⟨rfl,f⟩;replace c0:=bD f c0;replace c1:=bD f c1;replace g:=dQ g (aaH _) f;clear f)|(go_at_call 133;(refine aS (p.o _) ?_);rintro e j ⟨rfl,rfl⟩))
      go_ret
      exact⟨by rw[t.o bL];rfl,h.trans (g.mono h.size)⟩
    .rcases(show x<0\/(0<=x/\x<=255)\/255<x by omega) with l|⟨l,v⟩|l
     .go_wp2_with(first|(go_at_call 134;(refine aS (r.o _) ?_);rintro e j ⟨rfl,f⟩;replace c0:=bD f c0;replace c1:=bD f c1;replace g:=dQ g (aaH _) f;clear f)|(go_at_call 133;(refine aS (p.o _) ?_);rintro e j ⟨rfl,rfl⟩))
      go_ret
      exact⟨by rw[t.o bL];rfl,h.trans (g.mono h.size)⟩
     .have y:¬x<0:=aQ;go_wp2_with(first|(go_at_call 134;(refine aS (r.o _) ?_);rintro e j ⟨rfl,f⟩;replace c0:=bD f c0;replace c1:=bD f c1;replace g:=dQ g (aaH _) f;clear f)|(go_at_call 133;(refine aS (p.o _) ?_);rintro e j ⟨rfl,rfl⟩))
      go_roundw
      case rel=>exact⟨k+1,aQ,by go_num,A.o bL,g⟩
      case measure=>simp[aL];omega
     .have y:¬x<0:=aQ;go_wp2_with(first|(go_at_call 134;(refine aS (r.o _) ?_);rintro e j ⟨rfl,f⟩;replace c0:=bD f c0;replace c1:=bD f c1;replace g:=dQ g (aaH _) f;clear f)|(go_at_call 133;(refine aS (p.o _) ?_);rintro e j ⟨rfl,rfl⟩))
      go_ret
      exact⟨by rw[t.o bL];rfl,h.trans (g.mono h.size)⟩
    .rcases Int.lt_trichotomy x 0 with l|l|l
     .go_wp2_with(first|(go_at_call 134;(refine aS (r.o _) ?_);rintro e j ⟨rfl,f⟩;replace c0:=bD f c0;replace c1:=bD f c1;replace g:=dQ g (aaH _) f;clear f)|(go_at_call 133;(refine aS (p.o _) ?_);rintro e j ⟨rfl,rfl⟩))
      go_ret
      exact⟨by rw[t.o bL];rfl,h.trans (g.mono h.size)⟩
     .subst l;go_wp2_with(first|(go_at_call 134;(refine aS (r.o _) ?_);rintro e j ⟨rfl,f⟩;replace c0:=bD f c0;replace c1:=bD f c1;replace g:=dQ g (aaH _) f;clear f)|(go_at_call 133;(refine aS (p.o _) ?_);rintro e j ⟨rfl,rfl⟩))
      go_roundw
      case rel=>exact⟨k+1,aQ,by go_num,A.o aT,g⟩
      case measure=>simp[aL];omega
     .have v:¬x<0:=aQ;go_wp2_with(first|(go_at_call 134;(refine aS (r.o _) ?_);rintro e j ⟨rfl,f⟩;replace c0:=bD f c0;replace c1:=bD f c1;replace g:=dQ g (aaH _) f;clear f)|(go_at_call 133;(refine aS (p.o _) ?_);rintro e j ⟨rfl,rfl⟩))
      go_ret
      exact⟨by rw[t.o bL];rfl,h.trans (g.mono h.size)⟩
    .rcases(show x<0\/(0<=x/\x<=1048575)\/1048575<x by omega) with l|⟨l,v⟩|l
     .go_wp2_with(first|(go_at_call 134;(refine aS (r.o _) ?_);rintro e j ⟨rfl,f⟩;replace c0:=bD f c0;replace c1:=bD f c1;replace g:=dQ g (aaH _) f;clear f)|(go_at_call 133;(refine aS (p.o _) ?_);rintro e j ⟨rfl,rfl⟩))
      go_ret
      exact⟨by rw[t.o bL];rfl,h.trans (g.mono h.size)⟩
     .have y:¬x<0:=aQ;go_wp2_with(first|(go_at_call 134;(refine aS (r.o _) ?_);rintro e j ⟨rfl,f⟩;replace c0:=bD f c0;replace c1:=bD f c1;replace g:=dQ g (aaH _) f;clear f)|(go_at_call 133;(refine aS (p.o _) ?_);rintro e j ⟨rfl,rfl⟩))
      go_roundw
      case rel=>exact⟨k+1,aQ,by go_num,A.o bL,g⟩
      case measure=>simp[aL];omega
     .have y:¬x<0:=aQ;go_wp2_with(first|(go_at_call 134;(refine aS (r.o _) ?_);rintro e j ⟨rfl,f⟩;replace c0:=bD f c0;replace c1:=bD f c1;replace g:=dQ g (aaH _) f;clear f)|(go_at_call 133;(refine aS (p.o _) ?_);rintro e j ⟨rfl,rfl⟩))
      go_ret
      exact⟨by rw[t.o bL];rfl,h.trans (g.mono h.size)⟩
   .obtain rfl:k=4:=aQ;go_wp2_with fail
    go_ret
    exact⟨by rw[H.o F.o];rfl,h.trans (g.mono h.size)⟩
 .have R:dI op a b c d=false:=by unfold dI;simp[B]
  rw[R];go_enter func95,ntmps95
  go_wp2_with(go_at_call 132;refine(XY op _ B).mono ?_;rintro e D ⟨rfl,g⟩)
  go_ret
  exact⟨rfl,h.trans (g.mono h.size)⟩
theorem Q1(x n0 n1 b c d:Nat)(w:aA)(C:x<18446744073709551616)
 (m:n0=x%256) (n:n1=x /256%256) (p:b=x /65536%256) (r:c=x /16777216%1048576) (s:d=x /17592186044416) (q:Bool) (hq:dI n0 n1 b c d=q):
 aG prog 66 #[.int .u64 x] w λe w'=>e= .returned (if q then .tuple #[.agg #[n0,n1,b,c,d],true] else .tuple #[.agg #[aU,aU,aU,aU,aU],false])/\aD w w w':=by
 have j:=aP (λW=>RV n0 n1 b c d W);rw[hq] at j;have t:aH ((x:Int)%256=(n0:Int)):=by unfold aH;omega
 have u:aH ((x:Int) /256%256=(n1:Int)):=by unfold aH;omega
 have y:aH ((x:Int) /65536%256=(b:Int)):=by unfold aH;omega
 have z:aH ((x:Int) /16777216%1048576=(c:Int)):=by unfold aH;omega
 have A:aH ((x:Int) /17592186044416=(d:Int)):=by unfold aH;omega
 clear m n p r s;have f:=(aX w (aI #[aU,aU,aU,aU,aU] 223)).alloc aT (aI #[n0,n1,b,c,d] 223);have bk:=(bC.new w 223 #[aU,aU,aU,aU,aU]).alloc (aI #[n0,n1,b,c,d] 223);have a:=bC.gK (w.alloc (aI #[aU,aU,aU,aU,aU] 223)) 223 #[n0,n1,b,c,d] (g:=w.heap.size+1) aT;go_enter func66,ntmps66
 go_wp2_with fail
 simp only[t.o,u.o,y.o,z.o,A.o];generalize (w.alloc (aI #[aU,aU,aU,aU,aU] 223)).alloc (aI #[n0,n1,b,c,d] 223)=wa at *;refine(j.o _).mono ?_;rintro e l ⟨rfl,h⟩;replace bk:=bk.keep h;replace a:=a.keep h;replace f:=dQ f aT h;clear h;have B:=bk.lt;have D:=a.cell 0 n0 rfl;have E:=a.cell 1 n1 rfl;have F:=a.cell 2 b rfl;have G:=a.cell 3 c rfl;have H:=a.cell 4 d rfl;have z0:=bk.cell 0 (.int .i64 0) rfl;have I:=bk.cell 1 (.int .i64 0) rfl;have z2:=bk.cell 2 (.int .i64 0) rfl;have z3:=bk.cell 3 (.int .i64 0) rfl;have z4:=bk.cell 4 (.int .i64 0) rfl;have f0:=bk.frozen 0;have f1:=bk.frozen 1;have f2:=bk.frozen 2;have f3:=bk.frozen 3;have f4:=bk.frozen 4;cases q
 .go_wp2
  have i:=f.grown (zW l w (.int .i64 0) (.int .i64 0) (.int .i64 0) (.int .i64 0) (.int .i64 0)) f.size (λk hk=>by injection hk with hk;omega);exact bodyPost_ret (v:= .tuple #[.agg #[aU,aU,aU,aU,aU],false]) (by simp[results,results66,go_sem, *]) rfl ⟨rfl,i⟩
 .go_wp2
  have i:=f.grown (zW l w (.int .i64 n0) (.int .i64 n1) (.int .i64 b) (.int .i64 c) (.int .i64 d)) f.size (λk hk=>by injection hk with hk;omega);exact bodyPost_ret (v:= .tuple #[.agg #[n0,n1,b,c,d],true]) (by simp[results,results66,go_sem, *]) rfl ⟨rfl,i⟩
end Pa
end
section
open Go.RowKit Go.Lib Go.Shelf dH Fr Up Nt
theorem PU(x:Int)(a:0<=x/\x<18446744073709551616)(w:aA):aG prog 66 #[.int .u64 x] w λe w'=>e= .returned (if sR x then .tuple #[.agg #[.int .i64 (nJ x), .int .i64 (aW x), .int .i64 (bW x), .int .i64 (cW x), .int .i64 (dW x)],true] else .tuple #[.agg #[aU,aU,aU,aU,aU],false])/\aD w w w':=by
 obtain⟨n,rfl⟩:=aaO a.1;exact Pa.Q1 n _ _ _ _ _ w aQ rfl rfl rfl rfl rfl _ rfl
structure Gv where
 bu:Int
 pe:Int
 has:Bool
 s:uL
 since:Int
 bY:List Int
def oU(x:Gv):List Value:= [.int .i64 x.bu, .int .i64 x.pe, .bool x.has, .slice x.s.A x.s.n x.s.c, .int .i64 x.since]
theorem B0(x:Gv):(oU x).length=5:=rfl
def Zl:Gv:=⟨0,0,false,nU,0, []⟩
def BX(x:Gv):Pt:=PR eI 1 3 x.s.A x.s.c x.bY
def EC(q:Nat)(gs:List Gv):List Pt:=PB q 115 (gs.flatMap oU).toArray::gs.map BX
structure gO(F:Nat->Prop)(w:aA)(q:Nat)(gs:List Gv):Prop where
 l:gs.length=4
 ob:Ob (EC q gs) F w
 n:∀x∈gs,x.s.n=x.bY.length
variable{i j c9 n:Nat}{A9:Option Addr}
section
variable{F G:Nat->Prop}{w w' w9:aA}{q:Nat}{gs:List Gv}
theorem gO.fl(h:gO F w q gs):Ol F w:=h.ob.fl
theorem gO.less(h:gO F w q gs)(a:∀b,G b->F b):gO G w q gs:=⟨h.l,h.ob.PL a,h.n⟩
theorem gO.below(h:gO F w q gs)(b:aD w w w'):gO F w' q gs/\Kp F w w':=⟨⟨h.l,h.ob.below b,h.n⟩,h.ob.NH b⟩
theorem gO.box(h:gO F w q gs)(x:Obj):gO (Fb F w) (w.alloc x) q gs:=⟨h.l,(Ob.bX _).box h.ob h.ob.fl x,h.n⟩
theorem gO.bk(h:gO F w q gs):bC w q 115 (gs.flatMap oU).toArray:=Ob.Ju h.ob rfl
theorem gO.fz(h:gO F w q gs)(i:Nat):w.frozen? (q,i)=false:=h.bk.frozen i
theorem gO.c(h:gO F w q gs)(hi:i<4)(a:j<5){x:Gv}(b:gs[i]?=some x){v:Value}(d:(oU x)[j]?=some v):w.cell? (q,i *5+j)=some v:=h.bk.cell _ _ (by
 rw[aaY,jG B0 gs i x j b a,d])
theorem gO.row(h:gO F w q gs){x:Gv}(a:gs[i]?=some x):Sl eI 1 w x.s.A x.bY:=by
 obtain⟨b,h1⟩:=h.ob;have d:fT eI 1 3 x.s.A x.s.c x.bY (Fo w b (i+1+1)) w:=h1.get (i+1) (p:=BX x) (by simp[EC,a]);exact d.o.sl fX
theorem gO.own(h:gO F w q gs){x:Gv}(a:gs[i]?=some x):bB eI 1 w 0 3 x.s.A x.s.c x.bY:=by
 obtain⟨b,h1⟩:=h.ob;have d:fT eI 1 3 x.s.A x.s.c x.bY (Fo w b (i+1+1)) w:=h1.get (i+1) (p:=BX x) (by simp[EC,a]);exact d.o
theorem Kq{x:Gv}(a:gs[i]?=some x):i<gs.length/\∀h:i<gs.length,gs[i]=x:=by
 have h:=aaX.1 a;exact⟨h.1,λ_=>h.2⟩
theorem gO.app(h:gO F w q gs){x:Gv}(f:gs[i]?=some x){v:Int}(e:bB eI 1 w9 0 3 A9 c9 (x.bY++ [v]))(k:w.grownBy w9 (aZ x.s.A))(m:aZ A9=aZ x.s.A\/aZ A9=some w.heap.size)(o:n=(x.bY++ [v]).length):(∃v,w9.cell? (q,i *5+3)=some v)/\w9.frozen? (q,i *5+3)=false/\gO F (w9.setCell (q,i *5+3) (.slice A9 n c9)) q (gs.set i {x with s:=⟨A9,n,c9⟩,bY:=x.bY++ [v]})/\Kp F w (w9.setCell (q,i *5+3) (.slice A9 n c9)):=by
 obtain⟨hi,he⟩:=Kq f;have he:=he hi;obtain⟨G,p,back⟩:=h.ob.use (i+1) (BX x) (by simp[EC,f]);obtain⟨s1,s2⟩:=fT.eV p e k m;obtain⟨b1,b2⟩:=back (BX {x with s:=⟨A9,n,c9⟩,bY:=x.bY++ [v]}) w9 s1 s2;obtain⟨r,a,d⟩:=b1.use 0 (PB q 115 (gs.flatMap oU).toArray) (by simp[EC]);have a:mI q 115 (gs.flatMap oU).toArray r w9:=a;obtain⟨t1,t2⟩:=mI.set (cs':=((gs.set i {x with s:=⟨A9,n,c9⟩,bY:=x.bY++ [v]}).flatMap oU).toArray) a (i *5+3) (.slice A9 n c9) (by
  rw[aaI,wW B0 gs i 3 {x with s:=⟨A9,n,c9⟩,bY:=x.bY++ [v]} _ hi aQ (by rw[he];rfl)])
 obtain⟨j,t⟩:=d (PB q 115 ((gs.set i {x with s:=⟨A9,n,c9⟩,bY:=x.bY++ [v]}).flatMap oU).toArray) _ t1 t2;refine⟨⟨_,a.b.cell (i *5+3) (.slice x.s.A x.s.n x.s.c) (by rw[aaY,jG B0 gs i x 3 f aQ];rfl)⟩,a.b.frozen _,⟨by simp[h.l],?_,λy g=>?_⟩,b2.trans t⟩
 .unfold EC at j⊢;rw[ab1];simpa using j
 .rcases abW g with g|rfl
  .exact h.n y g
  .exact o
theorem gO.Zb(h:gO F w q gs){x:Gv}(d:gs[i]?=some x)(v:Int):gO F (w.setCell (q,i *5+4) v) q (gs.set i {x with since:=v})/\Kp F w (w.setCell (q,i *5+4) v):=by
 obtain⟨hi,he⟩:=Kq d;have he:=he hi;obtain⟨g,a,b⟩:=h.ob.use 0 (PB q 115 (gs.flatMap oU).toArray) (by simp[EC]);have a:mI q 115 (gs.flatMap oU).toArray g w:=a;obtain⟨t1,t2⟩:=mI.set (cs':=((gs.set i {x with since:=v}).flatMap oU).toArray) a (i *5+4) (.int .i64 v) (by
  rw[aaI,wW B0 gs i 4 {x with since:=v} _ hi aQ (by rw[he];rfl)])
 obtain⟨f,j⟩:=b (PB q 115 ((gs.set i {x with since:=v}).flatMap oU).toArray) _ t1 t2;refine⟨⟨by simp[h.l],?_,λy c=>?_⟩,j⟩
 .unfold EC at f⊢;rw[ab1];have e:(gs.map BX).set i (BX {x with since:=v})=gs.map BX:=by
   have:BX {x with since:=v}=BX x:=rfl;rw[this];refine abX aT λn h1 m=>?_
   rw[abF];split
   .rename_i k;subst k;simp[he]
   .rfl
  rw[e];simpa using f
 .rcases abW c with c|rfl
  .exact h.n y c
  .exact h.n x (aa1 d)
theorem gO.new(h:gO F w q gs)(hi:i<4)(bu pe:Int)(has:Bool)(g:bC w' q 115 ((gs.set i ⟨bu,pe,has,nU,0, []⟩).flatMap oU).toArray)(j:w.grownBy w' (some q)):gO F w' q (gs.set i ⟨bu,pe,has,nU,0, []⟩)/\Kp F w w':=by
 have b:i<gs.length:=by rw[h.l];exact hi
 obtain⟨G,k,back⟩:=h.ob.use (i+1) (BX gs[i]) (by simp[EC,b]);obtain⟨b1,b2⟩:=back (BX ⟨bu,pe,has,nU,0, []⟩) w (fT.nil (show fT eI 1 3 gs[i].s.A gs[i].s.c gs[i].bY G w from k).ol) (Kp.refl _ _);obtain⟨o,d,a⟩:=b1.use 0 (PB q 115 (gs.flatMap oU).toArray) (by simp[EC]);obtain⟨t1,t2⟩:=mI.eV d g j;obtain⟨f,m⟩:=a (PB q 115 ((gs.set i ⟨bu,pe,has,nU,0, []⟩).flatMap oU).toArray) _ t1 t2;refine⟨⟨by simp[h.l],?_,λy e=>?_⟩,b2.trans m⟩
 .unfold EC at f⊢;rw[ab1];simpa using f
 .rcases abW e with e|rfl
  .exact h.n y e
  .rfl
theorem gO.QM(h:gO F w q gs)(hi:i<4)(bu pe:Int)(has:Bool):gO F (((((w.setCell (q,i *5) bu).setCell (q,i *5+1) pe).setCell (q,i *5+2) (.bool has)).setCell (q,i *5+3) (.slice none 0 0)).setCell (q,i *5+4) (.int .i64 0)) q (gs.set i ⟨bu,pe,has,nU,0, []⟩)/\Kp F w (((((w.setCell (q,i *5) bu).setCell (q,i *5+1) pe).setCell (q,i *5+2) (.bool has)).setCell (q,i *5+3) (.slice none 0 0)).setCell (q,i *5+4) (.int .i64 0)):=by
 have a:i<gs.length:=by rw[h.l];exact hi
 have b:=((((h.bk.bQ (i *5) (.int .i64 bu)).bQ (i *5+1) (.int .i64 pe)).bQ (i *5+2) (.bool has)).bQ (i *5+3) (.slice none 0 0)).bQ (i *5+4) (.int .i64 0);have f:w.grownBy (((((w.setCell (q,i *5) bu).setCell (q,i *5+1) pe).setCell (q,i *5+2) (.bool has)).setCell (q,i *5+3) (.slice none 0 0)).setCell (q,i *5+4) (.int .i64 0)) (some q):=aY (aY (aY (aY (aY (bE w q) _ _) _ _) _ _) _ _) _ _;refine h.new hi bu pe has ?_ f;have e:∀(l:List Gv) (j:Nat) (x:Gv) (v:Value) (c:i<l.length),j<5->oU x=(oU l[i]).set j v->(l.flatMap oU).toArray.setIfInBounds (i *5+j) v=((l.set i x).flatMap oU).toArray:=λl j x v c g k=>by
  rw[aaI,wW B0 l i j x v c g k]
 have d:=e gs 0 {gs[i] with bu:=bu} (.int .i64 bu) a aQ rfl;rw[aa3] at d;rw[d,e _ 1 {gs[i] with bu:=bu,pe:=pe} (.int .i64 pe) (by simpa using a) aQ (by rw[adH];rfl),afH,
  e _ 2 {gs[i] with bu:=bu,pe:=pe,has:=has} (.bool has) (by simpa using a) aQ (by rw[adH];rfl),afH,
  e _ 3 {gs[i] with bu:=bu,pe:=pe,has:=has,s:=nU} (.slice none 0 0) (by simpa using a) aQ (by rw[adH];rfl),afH,
  e _ 4 ⟨bu,pe,has,nU,0, []⟩ (.int .i64 0) (by simpa using a) aQ (by rw[adH];rfl),afH] at b
 exact b
end
end
end Go.Proofs.YtacgiflhgdaeaaaGreat
