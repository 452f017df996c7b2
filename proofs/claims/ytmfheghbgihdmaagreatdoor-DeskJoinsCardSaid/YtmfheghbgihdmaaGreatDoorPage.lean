/- Contracts of package page. -/
import Derived.Test.YtmfheghbgihdmaaGreatDoorSep
import Derived.Test.YtmfheghbgihdmaaGreatDoorTblM3
import Derived.Lib.Hide
import Derived.WalkSpells
import Derived.Outline
import Derived.BigQuiet
import Derived.Laws.IdiomCopy
import Derived.ArgAppend
import Derived.Deep.RegionLaw
import Derived.Deep.RegionHeld3
import Derived.Deep.LoopGhost
import Derived.Deep.DeepCutAuto
import Derived.Deep.CutBlock
import Derived.Defers
import Derived.Recover
import Derived.WalkLawsBesides
import Derived.Laws.Pointers
import Derived.Deep.RegionWith
import Derived.StillTailTactics
import Derived.Lib.VarintBits
namespace Go.Proofs.YtmfheghbgihdmaaGreatDoor
open Go.IntKind renaming u64→vU
open Go.Ending renaming returned→y
open Go.Lib renaming hid→B
open Bool renaming false→C,true→D
open Option renaming none→F,some→H
open Go.Value renaming int→G,bool→N
open Go.IntKind renaming i64→I,wrap_i64→Y
open Go renaming World→J,Calls→M,Value→S,bodyPost_ret→X,Addr→Z
open Go.Addr renaming mk→L
open Go.Proofs.YtmfheghbgihdmaaGreatDoor.Ext renaming refl→O
open Go.Proofs.YtmfheghbgihdmaaGreatDoor.Has renaming new→T
open Int renaming eq_ofNat_of_zero_le→U
open Go.World renaming size_alloc→V
open Tryz
open Go.RowKit
set_option maxRecDepth 100000
theorem cD(s:Int)(w:J):M prog 203 #[.int .i64 s] w (Same (G I (bE s)) w):=by
 unfold bE;by_cases h0:s=0
 ·subst h0
  go_enter func203,ntmps203;go_wp2;go_ret;exact⟨rfl,rfl⟩
 by_cases h1:s=1
 ·subst h1
  go_enter func203,ntmps203;go_wp2;go_ret;exact⟨rfl,rfl⟩
 by_cases h2:s=2
 ·subst h2
  go_enter func203,ntmps203;go_wp2;go_ret;exact⟨rfl,rfl⟩
 rw[if_neg h0,if_neg h1,if_neg h2];go_enter func203,ntmps203;go_wp2;go_ret;exact⟨rfl,rfl⟩
theorem cL(p:Int)(w:J):M prog 195 #[.int .i64 p] w (Same (N (cN p)) w):=by
 unfold cN;by_cases h0:0≤p
 ·go_enter func195,ntmps195
  go_wp2;go_ret;exact⟨by simp[h0],rfl⟩
 ·have hd:decide (0≤p)=C:=by simpa using h0
  go_enter func195,ntmps195;go_wp2;go_ret;exact⟨rfl,rfl⟩
theorem uQ{m:Mp}{p:Int}(hm:bX m.page)(hp:bX p)(h:m.page≤p):
  decide (IntKind.u64.wrap (IntKind.u64.wrap p - IntKind.u64.wrap m.page)<IntKind.u64.wrap (bE m.size))=over m p:=by
 obtain⟨hm1,hm2⟩:=hm;obtain⟨hp1,hp2⟩:=hp;have hs:0≤bE m.size∧bE m.size≤64:=by unfold bE;split<;>(try split)<;>(try split)<;>omega
 have e:∀x:Int,IntKind.u64.wrap x=x % 18446744073709551616:=fun x=>by simp[IntKind.wrap,IntKind.signed,IntKind.bits]
 rw[e,e,e,e];unfold over;have e1:(p % 18446744073709551616 - m.page % 18446744073709551616) % 18446744073709551616=p - m.page:=by omega
 have e2:bE m.size % 18446744073709551616=bE m.size:=by omega
 rw[e1,e2];simp[h]
theorem jC(m:Mp)(p:Int)(w:J)(hm:bX m.page)(hp:bX p):
  M prog 217 #[.agg #[G I m.page,G I m.size,G I m.frame,G I m.rights],.int .i64 p] w (Pure (N (over m p)) w):=by
 have hb:=T (bc w) #[G I m.page,G I m.size,G I m.frame,G I m.rights] 75;obtain⟨c0,c1,c2,c3⟩:=hb.cells4;have v0:=am c0;have v1:=am c1;have bl:=(Below.refl w.heap.size w).alloc (Nat.le_refl _) (.cells #[G I m.page,G I m.size,G I m.frame,G I m.rights] 75);by_cases h0:m.page≤p
 ·have hy:=B (uQ hm hp h0)
  go_enter func217,ntmps217;go_wp2;refine aI (by kernel_rfl) (by kernel_rfl) ?_;repeat(first|go_big_quiet_step ((go_at_call 203;exact Same.via (cD _ _)))|quiet_step ((go_at_call 203;exact Same.via (cD _ _))))
  refine wpQuiet_nil ?_;intro _ hw';obtain⟨uq,hw''⟩:=hw';subst hw'';go_wp2;go_ret;exact⟨by rw[←hy.out];rfl,bl.trans ((aV _ _).mono (by simp))⟩
 ·have hd:decide (m.page≤p)=C:=by simpa using h0
  have hy:=B (show over m p=C by unfold over;rw[hd];rfl);go_enter func217,ntmps217;go_wp2;refine aI (by kernel_rfl) (by kernel_rfl) ?_;repeat(first|go_big_quiet_step (fail)|quiet_step (fail))
  refine wpQuiet_nil ?_;intro _ hw';obtain⟨uq,hw''⟩:=hw';subst hw'';go_wp2;go_ret;exact⟨by rw[hy.out];rfl,bl.trans ((aV _ _).mono (by simp))⟩
theorem pR(a b:Mp)(w:J)(ha:bX a.page)(hb:bX b.page):
  M prog 193 #[.agg #[G I a.page,G I a.size,G I a.frame,G I a.rights],.agg #[G I b.page,G I b.size,G I b.frame,G I b.rights]] w (Pure (N (ey a b)) w):=by
 have h1:=T (bc w) #[G I a.page,G I a.size,G I a.frame,G I a.rights] 75;have h2:=h1.new #[G I b.page,G I b.size,G I b.frame,G I b.rights] 75;have x2:=((O w).alloc (.cells #[G I a.page,G I a.size,G I a.frame,G I a.rights] 75)).alloc (.cells #[G I b.page,G I b.size,G I b.frame,G I b.rights] 75);simp only[V] at h2;go_enter func193,ntmps193;go_wp2_with fail
 refine(jC a b.page _ ha hb).mono ?_;rintro e w2 ⟨rfl,b2⟩;have h3:=h2.below b2;obtain⟨c0,c1,c2,c3⟩:=h3.cells4;obtain⟨d0,d1,d2,d3⟩:=h3.right.cells4;cases ho:over a b.page with
 |true=>
  have hy:=B (show ey a b=D by unfold ey;rw[ho];rfl);go_wp2_with fail
  go_ret;exact⟨by rw[hy.out];rfl,aA h3.right.right (x2.below b2)⟩
 |false=>
  go_wp2_with fail
  refine(jC b a.page _ hb ha).mono ?_;rintro e w3 ⟨rfl,b3⟩;have h4:=h3.below b3;have hy:=B (show ey a b=over b a.page by unfold ey;rw[ho];rfl);go_wp2_with fail
  go_ret;exact⟨by rw[hy.out];rfl,aA h4.right.right ((x2.below b2).below b3)⟩
set_option maxHeartbeats 1000000 in
theorem jD(m:Mp)(w:J):M prog 191 #[.agg #[G I m.page,G I m.size,G I m.frame,G I m.rights]] w (Pure (G I (bp m)) w):=by
 have h1:=T (bc w) #[G I m.page,G I m.size,G I m.frame,G I m.rights] 75;have x1:=(O w).alloc (.cells #[G I m.page,G I m.size,G I m.frame,G I m.rights] 75);have bl:=aA h1.right x1;by_cases s0:bE m.size=0
 ·skip
  have hy:=B (show bp m=2 by unfold bp;rw[if_pos s0]);go_enter func191,ntmps191;go_wp2_with(first|(go_at_call 203;refine(cD _ _).mono ?_;rintro e w' ⟨rfl,rfl⟩)|(go_at_call 195;refine(cL _ _).mono ?_;rintro e w' ⟨rfl,rfl⟩))
  go_ret;exact⟨by rw[hy.out];rfl,bl⟩
 have s1:1≤bE m.size:=by unfold bE at*;split<;>(try split)<;>(try split)<;>simp_all
 have s0':(bE m.size==0)=C:=by simpa using s0
 by_cases hp:cN m.page=D
 ·have hp':0≤m.page∧m.page<4096:=by simpa [cN] using hp
  obtain⟨p0,p1⟩:=hp';by_cases f0:m.frame<0
  ·skip
   have hy:=B (show bp m=1 by unfold bp;rw[if_neg s0,if_pos (by omega)]);go_enter func191,ntmps191;go_wp2_with(first|(go_at_call 203;refine(cD _ _).mono ?_;rintro e w' ⟨rfl,rfl⟩)|(go_at_call 195;refine(cL _ _).mono ?_;rintro e w' ⟨rfl,rfl⟩))
   go_ret;exact⟨by rw[hy.out];rfl,bl⟩
  by_cases f1:1048576≤m.frame
  ·skip
   have hy:=B (show bp m=1 by unfold bp;rw[if_neg s0,if_pos (by omega)]);go_enter func191,ntmps191;go_wp2_with(first|(go_at_call 203;refine(cD _ _).mono ?_;rintro e w' ⟨rfl,rfl⟩)|(go_at_call 195;refine(cL _ _).mono ?_;rintro e w' ⟨rfl,rfl⟩))
   go_ret;exact⟨by rw[hy.out];rfl,bl⟩
  by_cases r0:m.rights<0
  ·skip
   have hy:=B (show bp m=1 by unfold bp;rw[if_neg s0,if_pos (by omega)]);go_enter func191,ntmps191;go_wp2_with(first|(go_at_call 203;refine(cD _ _).mono ?_;rintro e w' ⟨rfl,rfl⟩)|(go_at_call 195;refine(cL _ _).mono ?_;rintro e w' ⟨rfl,rfl⟩))
   go_ret;exact⟨by rw[hy.out];rfl,bl⟩
  by_cases r1:7<m.rights
  ·skip
   have hy:=B (show bp m=1 by unfold bp;rw[if_neg s0,if_pos (by omega)]);go_enter func191,ntmps191;go_wp2_with(first|(go_at_call 203;refine(cD _ _).mono ?_;rintro e w' ⟨rfl,rfl⟩)|(go_at_call 195;refine(cL _ _).mono ?_;rintro e w' ⟨rfl,rfl⟩))
   go_ret;exact⟨by rw[hy.out];rfl,bl⟩
  have hno:¬(m.page<0∨4096≤m.page∨m.frame<0∨1048576≤m.frame∨m.rights<0∨7<m.rights):=by omega
  have hn:=B hno;clear hno;cases q0:(m.page % bE m.size !=0) with
  |true=>
   have g:=B q0;have hy:=B (show bp m=3 by unfold bp;rw[if_neg s0,if_neg hn.out,if_pos (.inl (by simpa using g.out))]);go_enter func191,ntmps191;go_wp2_with(first|(go_at_call 203;refine(cD _ _).mono ?_;rintro e w' ⟨rfl,rfl⟩)|(go_at_call 195;refine(cL _ _).mono ?_;rintro e w' ⟨rfl,rfl⟩))
   go_ret;exact⟨by rw[hy.out];rfl,bl⟩
  |false=>
   cases q1:(m.frame % bE m.size !=0) with
   |true=>
    have g:=B q1;have hy:=B (show bp m=3 by unfold bp;rw[if_neg s0,if_neg hn.out,if_pos (.inr (by simpa using g.out))]);go_enter func191,ntmps191;go_wp2_with(first|(go_at_call 203;refine(cD _ _).mono ?_;rintro e w' ⟨rfl,rfl⟩)|(go_at_call 195;refine(cL _ _).mono ?_;rintro e w' ⟨rfl,rfl⟩))
    go_ret;exact⟨by rw[hy.out];rfl,bl⟩
   |false=>
    have g:=B q0;have g':=B q1;have hy:=B (show bp m=0 by unfold bp;rw[if_neg s0,if_neg hn.out,if_neg (by have a:=g.out;have b:=g'.out;simp at a b;omega)]);go_enter func191,ntmps191;go_wp2_with(first|(go_at_call 203;refine(cD _ _).mono ?_;rintro e w' ⟨rfl,rfl⟩)|(go_at_call 195;refine(cL _ _).mono ?_;rintro e w' ⟨rfl,rfl⟩))
    go_ret;exact⟨by rw[hy.out];rfl,bl⟩
 ·have hp0:cN m.page=C:=by simpa using hp
  have hp':=B (show m.page<0∨4096≤m.page by unfold cN at hp0;simp at hp0;omega);clear hp;have hy:=B (show bp m=1 by unfold bp;rw[if_neg s0,if_pos (by have:=hp'.out;omega)]);go_enter func191,ntmps191;go_wp2_with(first|(go_at_call 203;refine(cD _ _).mono ?_;rintro e w' ⟨rfl,rfl⟩)|(go_at_call 195;refine(cL _ _).mono ?_;rintro e w' ⟨rfl,rfl⟩))
  go_ret;exact⟨by rw[hy.out];rfl,bl⟩
theorem kI:∀n,0<az n
 |0=>by simp[az]
 |n+1=>by have:=kI n;unfold az;omega
theorem uR(p:Int)(n:Nat):p / az n / 8=p / az (n+1):=by
 have h:=kI n;rw[Int.ediv_ediv_of_nonneg (by omega),show az (n+1)=8*az n from rfl,Int.mul_comm]
theorem pS{p:Int}(h0:0≤p)(h1:p<4096)(n:Nat):0≤p / az n∧p / az n<4096:=by
 have h:=kI n;refine⟨Int.ediv_nonneg h0 (by omega),?_⟩;exact Int.lt_of_le_of_lt (Int.ediv_le_self _ h0) h1
theorem jE(p l:Int)(w:J):M prog 209 #[.int .i64 p,.int .i64 l] w (Same (G I (ai p l)) w):=by
 by_cases hp:cN p=D
 ·have hp':0≤p∧p<4096:=by simpa [cN] using hp
  obtain⟨p0,p1⟩:=hp';by_cases l0:0≤l
  ·by_cases l1:l<4
   ·obtain⟨l,rfl⟩:=U l0
    have hy:=B (show ai p l=p / az l % 8 by unfold ai;rw[if_pos ⟨p0,p1,l0,l1⟩];simp);go_enter func209,ntmps209;go_wp2_with(first|(go_at_call 195;refine(cL _ _).mono ?_;rintro e w' ⟨rfl,rfl⟩))
    go_loop [0,17] (fun x t=>∃j:Nat,j≤l∧t=G I j∧x=G I (p / az j)) (fun _ t=>l - (intOf t).toNat)
    case atStart=>exact⟨0,by omega,rfl,by simp[az]⟩
    case round=>
     obtain⟨j,hj,rfl,rfl⟩:=hrel;obtain⟨b0,b1⟩:=pS p0 p1 j;have hd:=B (uR p j);by_cases hjl:j<l
     ·go_wp2
      go_round
      case rel=>exact⟨j+1,by omega,by go_num,by rw[←hd.out]⟩
      case measure=>simp[intOf];omega
     ·obtain rfl:j=l:=by omega
      go_wp2;go_ret;exact⟨by rw[hy.out];rfl,rfl⟩
   ·have hy:=B (show ai p l= -1 by unfold ai;rw[if_neg (by omega)])
    go_enter func209,ntmps209;go_wp2_with(first|(go_at_call 195;refine(cL _ _).mono ?_;rintro e w' ⟨rfl,rfl⟩))
    go_ret;exact⟨by rw[hy.out];rfl,rfl⟩
  ·have hy:=B (show ai p l= -1 by unfold ai;rw[if_neg (by omega)])
   go_enter func209,ntmps209;go_wp2_with(first|(go_at_call 195;refine(cL _ _).mono ?_;rintro e w' ⟨rfl,rfl⟩))
   go_ret;exact⟨by rw[hy.out];rfl,rfl⟩
 ·have hp0:cN p=C:=by simpa using hp
  have hy:=B (show ai p l= -1 by unfold ai;rw[if_neg (by unfold cN at hp0;simp at hp0;omega)]);go_enter func209,ntmps209;go_wp2_with(first|(go_at_call 195;refine(cL _ _).mono ?_;rintro e w' ⟨rfl,rfl⟩))
  go_ret;exact⟨by rw[hy.out];rfl,rfl⟩
theorem iv(r:Int)(k:Nat)(hk:k<8):bits .and .i64 r (k:Int)=(((r % 8).toNat &&& k:Nat):Int):=by
 have h1:(BitVec.ofInt 64 r).toNat =(r % 18446744073709551616).toNat :=by simp[BitVec.toNat_ofInt]
 have h2:(BitVec.ofInt 64 (k:Int)).toNat =k:=by rw[BitVec.ofInt_natCast,BitVec.toNat_ofNat];omega
 have h3:((r % 18446744073709551616).toNat &&& k)=((r % 8).toNat &&& k):=by
  have hle:((r % 18446744073709551616).toNat &&& k)≤k:=Nat.and_le_right;have hle2:((r % 8).toNat &&& k)≤k:=Nat.and_le_right;have e1:((r % 18446744073709551616).toNat &&& k) % 2 ^ 3=((r % 18446744073709551616).toNat % 2 ^ 3)&&& (k % 2 ^ 3):=Nat.and_mod_two_pow;have e2:(r % 18446744073709551616).toNat % 2 ^ 3=(r % 8).toNat :=by omega
  rw[e2,Nat.mod_eq_of_lt (show k<2 ^ 3 by omega),Nat.mod_eq_of_lt (by omega)] at e1;exact e1
 show IntKind.i64.wrap ((BitVec.ofInt 64 r&&& BitVec.ofInt 64 (k:Int)).toNat :Int)=_;rw[BitVec.toNat_and,h1,h2,h3,Y];have hle2:((r % 8).toNat &&& k)≤k:=Nat.and_le_right;omega
theorem uS(r:Int):r % 8=0∨r % 8=1∨r % 8=2∨r % 8=3∨r % 8=4∨r % 8=5∨r % 8=6∨r % 8=7:=by omega
theorem nM(r:Int):(bits .and .i64 r 1==1)=bg r 1:=by
 have h':bits .and .i64 r 1=(((r % 8).toNat &&& 1:Nat):Int):=iv r 1 (by omega);rw[h'];unfold bg;have e1:r / 1 % 2=r % 8 % 2:=by omega
 have e2:r / 2 % 2=r % 8 / 2 % 2:=by omega
 have e4:r / 4 % 2=r % 8 / 4 % 2:=by omega
 first|rw[e1,e2]|rw[e4,e2]|rw[e1]|rw[e2]|rw[e4]
 rcases uS r with h|h|h|h|h|h|h|h<;>rw[h]<;>rfl
theorem nN(r:Int):(bits .and .i64 r 2==2)=bg r 2:=by
 have h':bits .and .i64 r 2=(((r % 8).toNat &&& 2:Nat):Int):=iv r 2 (by omega);rw[h'];unfold bg;have e1:r / 1 % 2=r % 8 % 2:=by omega
 have e2:r / 2 % 2=r % 8 / 2 % 2:=by omega
 have e4:r / 4 % 2=r % 8 / 4 % 2:=by omega
 first|rw[e1,e2]|rw[e4,e2]|rw[e1]|rw[e2]|rw[e4]
 rcases uS r with h|h|h|h|h|h|h|h<;>rw[h]<;>rfl
theorem nO(r:Int):(bits .and .i64 r 3==3)=(bg r 1&&bg r 2):=by
 have h':bits .and .i64 r 3=(((r % 8).toNat &&& 3:Nat):Int):=iv r 3 (by omega);rw[h'];unfold bg;have e1:r / 1 % 2=r % 8 % 2:=by omega
 have e2:r / 2 % 2=r % 8 / 2 % 2:=by omega
 have e4:r / 4 % 2=r % 8 / 4 % 2:=by omega
 first|rw[e1,e2]|rw[e4,e2]|rw[e1]|rw[e2]|rw[e4]
 rcases uS r with h|h|h|h|h|h|h|h<;>rw[h]<;>rfl
theorem nP(r:Int):(bits .and .i64 r 4==4)=bg r 4:=by
 have h':bits .and .i64 r 4=(((r % 8).toNat &&& 4:Nat):Int):=iv r 4 (by omega);rw[h'];unfold bg;have e1:r / 1 % 2=r % 8 % 2:=by omega
 have e2:r / 2 % 2=r % 8 / 2 % 2:=by omega
 have e4:r / 4 % 2=r % 8 / 4 % 2:=by omega
 first|rw[e1,e2]|rw[e4,e2]|rw[e1]|rw[e2]|rw[e4]
 rcases uS r with h|h|h|h|h|h|h|h<;>rw[h]<;>rfl
theorem nQ(r:Int):(bits .and .i64 r 6==6)=(bg r 4&&bg r 2):=by
 have h':bits .and .i64 r 6=(((r % 8).toNat &&& 6:Nat):Int):=iv r 6 (by omega);rw[h'];unfold bg;have e1:r / 1 % 2=r % 8 % 2:=by omega
 have e2:r / 2 % 2=r % 8 / 2 % 2:=by omega
 have e4:r / 4 % 2=r % 8 / 4 % 2:=by omega
 first|rw[e1,e2]|rw[e4,e2]|rw[e1]|rw[e2]|rw[e4]
 rcases uS r with h|h|h|h|h|h|h|h<;>rw[h]<;>rfl
theorem nR(r:Int):(bits .and .i64 r 0==0)=D:=by
 have h':bits .and .i64 r 0=(((r % 8).toNat &&& 0:Nat):Int):=iv r 0 (by omega);rw[h',Nat.and_zero];rfl
theorem lr(r p k:Int)(u:Bool)(w:J):M prog 181 #[.int .i64 r,.agg #[G I p,G I k,N u]] w (Pure (N (may r ⟨p,k,u⟩)) w):=by
 have h1:=T (bc w) #[G I p,G I k,N u] 77;have bl:=aA h1.right ((O w).alloc (.cells #[G I p,G I k,N u] 77));clear h1;by_cases k1:k=1
 ·subst k1
  cases u with
  |true=>
   have hy:=B (show may r ⟨p,1,D⟩=(bg r 1&&bg r 2) by unfold may;simp);go_enter func181,ntmps181;go_wp2;go_ret;refine⟨?_,bl⟩;rw[hy.out];first|rfl|exact congrArg (fun b=>y (N b)) (nM r)|exact congrArg (fun b=>y (N b)) (nN r)|exact congrArg (fun b=>y (N b)) (nO r)|exact congrArg (fun b=>y (N b)) (nP r)|exact congrArg (fun b=>y (N b)) (nQ r)|exact congrArg (fun b=>y (N b)) (nR r)
  |false=>
   have hy:=B (show may r ⟨p,1,C⟩=(bg r 1) by unfold may;simp);go_enter func181,ntmps181;go_wp2;go_ret;refine⟨?_,bl⟩;rw[hy.out];first|rfl|exact congrArg (fun b=>y (N b)) (nM r)|exact congrArg (fun b=>y (N b)) (nN r)|exact congrArg (fun b=>y (N b)) (nO r)|exact congrArg (fun b=>y (N b)) (nP r)|exact congrArg (fun b=>y (N b)) (nQ r)|exact congrArg (fun b=>y (N b)) (nR r)
 by_cases k2:k=2
 ·subst k2
  cases u with
  |true=>
   have hy:=B (show may r ⟨p,2,D⟩=(bg r 4&&bg r 2) by unfold may;simp);go_enter func181,ntmps181;go_wp2;go_ret;refine⟨?_,bl⟩;rw[hy.out];first|rfl|exact congrArg (fun b=>y (N b)) (nM r)|exact congrArg (fun b=>y (N b)) (nN r)|exact congrArg (fun b=>y (N b)) (nO r)|exact congrArg (fun b=>y (N b)) (nP r)|exact congrArg (fun b=>y (N b)) (nQ r)|exact congrArg (fun b=>y (N b)) (nR r)
  |false=>
   have hy:=B (show may r ⟨p,2,C⟩=(bg r 4) by unfold may;simp);go_enter func181,ntmps181;go_wp2;go_ret;refine⟨?_,bl⟩;rw[hy.out];first|rfl|exact congrArg (fun b=>y (N b)) (nM r)|exact congrArg (fun b=>y (N b)) (nN r)|exact congrArg (fun b=>y (N b)) (nO r)|exact congrArg (fun b=>y (N b)) (nP r)|exact congrArg (fun b=>y (N b)) (nQ r)|exact congrArg (fun b=>y (N b)) (nR r)
 have g1:(k==1)=C:=by simpa using k1
 have g2:(k==2)=C:=by simpa using k2
 cases u with
 |true=>
  have hy:=B (show may r ⟨p,k,D⟩=(bg r 2) by unfold may;simp[k1,k2]);go_enter func181,ntmps181;go_wp2;go_ret;refine⟨?_,bl⟩;rw[hy.out];first|rfl|exact congrArg (fun b=>y (N b)) (nM r)|exact congrArg (fun b=>y (N b)) (nN r)|exact congrArg (fun b=>y (N b)) (nO r)|exact congrArg (fun b=>y (N b)) (nP r)|exact congrArg (fun b=>y (N b)) (nQ r)|exact congrArg (fun b=>y (N b)) (nR r)
 |false=>
  have hy:=B (show may r ⟨p,k,C⟩=(D) by unfold may;simp[k1,k2]);go_enter func181,ntmps181;go_wp2;go_ret;refine⟨?_,bl⟩;rw[hy.out];first|rfl|exact congrArg (fun b=>y (N b)) (nM r)|exact congrArg (fun b=>y (N b)) (nN r)|exact congrArg (fun b=>y (N b)) (nO r)|exact congrArg (fun b=>y (N b)) (nP r)|exact congrArg (fun b=>y (N b)) (nQ r)|exact congrArg (fun b=>y (N b)) (nR r)
theorem eI(p k:Int)(u:Bool)(w:J):M prog 179 #[.agg #[G I p,G I k,N u]] w (Pure (G I (aH ⟨p,k,u⟩)) w):=by
 have h1:=T (bc w) #[G I p,G I k,N u] 77;have bl:=aA h1.right ((O w).alloc (.cells #[G I p,G I k,N u] 77));clear h1;by_cases k0:k<0
 ·have hy:=B (show aH ⟨p,k,u⟩=2 by unfold aH;rw[if_pos (by simp;omega)])
  go_enter func179,ntmps179;go_wp2;go_ret;exact⟨by rw[hy.out];rfl,bl⟩
 by_cases k2:2<k
 ·have hy:=B (show aH ⟨p,k,u⟩=2 by unfold aH;rw[if_pos (by simp;omega)])
  go_enter func179,ntmps179;go_wp2;go_ret;exact⟨by rw[hy.out];rfl,bl⟩
 cases hp:cN p with
 |true=>
  have hy:=B (show aH ⟨p,k,u⟩=0 by
   unfold aH;unfold cN at hp;simp at hp;rw[if_neg (by simp;omega),if_neg (by simp;omega)])
  go_enter func179,ntmps179;go_wp2_with(first|(go_at_call 195;refine(cL _ _).mono ?_;rintro e w' ⟨rfl,rfl⟩))
  go_ret;exact⟨by rw[hy.out];rfl,bl⟩
 |false=>
  have hy:=B (show aH ⟨p,k,u⟩=1 by
   unfold aH;unfold cN at hp;simp at hp;rw[if_neg (by simp;omega),if_pos (by simp;omega)])
  go_enter func179,ntmps179;go_wp2_with(first|(go_at_call 195;refine(cL _ _).mono ?_;rintro e w' ⟨rfl,rfl⟩))
  go_ret;exact⟨by rw[hy.out];rfl,bl⟩
theorem j6(m:Mp)(p k:Int)(u:Bool)(w:J):
  M prog 182 #[.agg #[G I m.page,G I m.size,G I m.frame,G I m.rights],.agg #[G I p,G I k,N u]] w (Pure (cv m ⟨p,k,u⟩).val w):=by
 have h1:=T (bc w) #[G I m.page,G I m.size,G I m.frame,G I m.rights] 75;have h2:=h1.new #[G I p,G I k,N u] 77;have h3:=h2.new #[G I 0,G I 0,G I 0] 70;have x3:=(((O w).alloc (.cells #[G I m.page,G I m.size,G I m.frame,G I m.rights] 75)).alloc (.cells #[G I p,G I k,N u] 77)).alloc (.cells #[G I 0,G I 0,G I 0] 70);simp only[V] at h3;cases hm:may m.rights ⟨p,k,u⟩ with
 |true=>
  have hy:=B (show cv m ⟨p,k,u⟩=⟨0,wrap64 (wrap64 (m.frame+p) - m.page),m.rights⟩ by unfold cv;rw[hm];rfl);go_enter func182,ntmps182;go_wp2_with fail
  refine(lr _ _ _ _ _).mono ?_;rintro e w1 ⟨rfl,b1⟩;have h4:=h3.below b1;have e1:=h4.lt;obtain⟨c0,c1,c2⟩:=h4.cells3;obtain⟨d0,d1,d2⟩:=h4.right.cells3;obtain⟨m0,m1,m2,m3⟩:=h4.right.right.cells4;obtain⟨f0,f1,f2⟩:=h4.frees3;have h5:=((h4.set 0 (G I 0)).set 1 (G I (wrap64 (wrap64 (m.frame+p) - m.page)))).set 2 (G I m.rights);go_wp2_with fail
  exact X (v:= .agg #[G I 0,G I (wrap64 (wrap64 (m.frame+p) - m.page)),G I m.rights]) (by simp[results,results182,go_sem,c0,c1,c2]) rfl
   ⟨by rw[hy.out];rfl,aA h5.r3 (aj)⟩
 |false=>
  have hy:=B (show cv m ⟨p,k,u⟩=⟨2,0,0⟩ by unfold cv;rw[hm];rfl);go_enter func182,ntmps182;go_wp2_with fail
  refine(lr _ _ _ _ _).mono ?_;rintro e w1 ⟨rfl,b1⟩;have h4:=h3.below b1;have e1:=h4.lt;obtain⟨c0,c1,c2⟩:=h4.cells3;obtain⟨f0,f1,f2⟩:=h4.frees3;have h5:=((h4.set 0 (G I 2)).set 1 (G I 0)).set 2 (G I 0);go_wp2_with fail
  exact X (v:= .agg #[G I 2,G I 0,G I 0]) (by simp[results,results182,go_sem,c0,c1,c2]) rfl
   ⟨by rw[hy.out];rfl,aA h5.r3 (aj)⟩
instance:Std.Associative (α:=ab) (fun a b=>a*b):=⟨aN⟩
instance:Std.Commutative (α:=ab) (fun a b=>a*b):=⟨cy⟩
namespace Ms
def topV(s:Ms):Int:=match s.top with|some k=>(k:Int)|none=> -1
def takeS(s:Ms):Ms:=match s.top with|some k=>s.take k|none=>s
def giveS(s:Ms)(k:Int):Ms:=if s.has k then s.give k.toNat else s
structure Ok (s:Ms):Prop where
 inv:s.Inv
 small:s.n≤128
theorem takeS_n(s:Ms):s.takeS.n=s.n:=by unfold takeS;split<;>rfl
theorem giveS_n(s:Ms)(k:Int):(s.giveS k).n =s.n:=by unfold giveS;split<;>rfl
theorem Ok.new{n:Nat}(h:n≤128):(Ms.new n).Ok :=⟨Inv.new n,h⟩
theorem Ok.takeS{s:Ms}(h:s.Ok):s.takeS.Ok:=by
 refine⟨?_,by rw[takeS_n];exact h.small⟩;unfold Ms.takeS;split
 ·rename_i k hk
  exact h.inv.take hk
 ·exact h.inv
theorem Ok.giveS{s:Ms}(h:s.Ok)(k:Int):(s.giveS k).Ok :=by
 refine⟨?_,by rw[giveS_n];exact h.small⟩;unfold Ms.giveS;split
 ·rename_i hk
  exact h.inv.give (has_iff.1 hk).2.2
 ·exact h.inv
end Ms
section
variable {p q g gw gi:Nat} {vf vk:S} {s:Ms} {R:ab} {w:J}
end
section
variable (p q:Nat) (s:Ms) (k i v o:Int) (R:ab) (w:J)
theorem uT(h:Has w (ae p s*R)):M prog 221 #[.pointer (H (L p 0 F)),.int .i64 k] w (Same (N (s.has k)) w):=by
 obtain⟨g,vf,h⟩:=df h;exact fK p g vf s k R w h
theorem rM(h:Has w (ae p s*R)):M prog 200 #[.pointer (H (L p 0 F)),.int .i64 k,.int .i64 i] w (Same (.tuple #[G vU (dw s k i),N (s.hasW k i)]) w):=by
 obtain⟨g,vf,h⟩:=df h;exact vD p g vf s k i R w h
theorem Aa(h:Has w (ae p s*R)):M prog 127 #[.pointer (H (L p 0 F))] w (Same (G I (s.frees.length:Nat)) w):=by
 obtain⟨g,vf,h⟩:=df h;exact vF p g vf s R w h
theorem q7(h:Has w (ae p s*R)):
  M prog 211 #[.pointer (H (L p 0 F)),.int .i64 k,.int .i64 i,.int .u64 v] w (cF (N (s.hasW k i)) (ae p (eL s k i v)*R) w):=by
 obtain⟨g,vf,h⟩:=df h;exact(tG p g vf s k i v R w h).mono fun _ _ ⟨a,b,c⟩=>⟨a,dg b,c⟩
theorem uU(h:Has w (ae p s*R)):
  M prog 220 #[.pointer (H (L p 0 F)),.int .i64 k,.int .i64 i,.int .u64 o,.int .u64 v] w (cF (N (iC s k i o)) (ae p (ia s k i o v)*R) w):=by
 obtain⟨g,vf,h⟩:=df h;exact(vE p g vf s k i o v R w h).mono fun _ _ ⟨a,b,c⟩=>⟨a,dg b,c⟩
theorem ye(h:Has w (ae p s*R))(hs:s.Ok):M prog 111 #[.pointer (H (L p 0 F))] w (cF (G I s.topV) (ae p s.takeS*R) w):=by
 obtain⟨g,vf,h⟩:=df h;unfold Ms.topV Ms.takeS;cases ht:s.top with
 |some k=>exact(vH p g vf s k R w h ht (Ms.top_lt hs.inv ht).1).mono fun _ _ ⟨_,a,b,c⟩=>⟨a,dg b,c⟩
 |none=>exact(tH p g vf s R w h ht).mono fun _ _ ⟨a,b⟩=>⟨a,b▸dg h,b▸O _⟩
theorem yg(h:Has w (ae p s*R))(hs:s.Ok):M prog 189 #[.pointer (H (L p 0 F)),.int .i64 k] w (cF (N (s.has k)) (ae p (s.giveS k)*R) w):=by
 obtain⟨g,vf,h⟩:=df h;unfold Ms.giveS;cases ht:s.has k with
 |true=>
  obtain⟨k0,k1,_⟩:=Ms.has_iff.1 ht;obtain⟨k,rfl⟩:=U k0;have:=Ms.frees_le hs.inv;have:=hs.small;exact(vJ p g vf s k R w h ht (by omega)).mono fun _ _ ⟨_,a,b,c⟩=>⟨a,dg (by simpa using b),c⟩
 |false=>exact(xn p g vf s k R w h ht).mono fun _ _ ⟨a,b⟩=>⟨a,b▸dg h,b▸O _⟩
theorem AQ(n:Int)(h:Has w R)(h0:0≤n)(h1:n≤128):
  M prog 110 #[.int .i64 n] w fun e w'=>∃p,cF (.tuple #[.pointer (H (L p 0 F)),.agg #[G I 0,G I 0]]) (ae p (Ms.new n.toNat)*R) w e w':=by
 obtain⟨n,rfl⟩:=U h0;exact(ru n (by omega) R w h).mono fun _ _ ⟨p,_,_,a,b,c⟩=>⟨p,a,dg b,c⟩
end
section
variable {w:J} {R:ab} {e size:Nat} {A:Option Z} {n c:Nat} {xs:List S}
theorem Has.rowAt(h:Has w (bt e size (.slice A n c) n xs*R))(hn:0<n):
  ∃g cur,A=H (L g 0 F)∧n≤c∧c≤maxLen∧cur.size=c*size∧cur.toList.take (n*size)=xs∧Has w (aa g cur e*R):=by
 rcases h.rowCases with ⟨hv,rfl,_,_⟩|⟨g,cap,cur,hv,h1,h2,h3,h4,hb⟩
 ·omega
 ·injection hv with e1 e2 e3
  subst e1;subst e3;exact⟨g,cur,rfl,h1,h2,h3,h4,hb⟩
theorem Has.rowLens(h:Has w (bt e size (.slice A n c) n xs*R)):xs.length=n*size∧n≤9223372036854775807:=by
 have:=h.ownsRow.1;refine⟨this,?_⟩;rcases h.rowCases with ⟨hv,rfl,_,_⟩|⟨g,cap,cur,hv,h1,h2,h3,h4,hb⟩
 ·omega
 ·unfold maxLen at h2;omega
theorem Has.rowGet(h:Has w (bt e size (.slice A n c) n xs*R)){i:Nat}{u:S}(hu:xs[i]? =H u):
  ∃g,A=H (L g 0 F)∧g<w.heap.size∧w.cell? (L g i F)=H u∧w.frozen? (L g i F)=C:=by
 have hl:=h.rowLens.1;have hi:i<xs.length:=(List.getElem?_eq_some_iff.1 hu).1;have hn:0<n:=by
  rcases Nat.eq_zero_or_pos n with h0|h0
  ·subst h0;omega
  ·exact h0
 obtain⟨g,cur,rfl,h1,h2,h3,h4,hb⟩:=h.rowAt hn;refine⟨g,rfl,hb.lt,?_,hb.free i⟩;rw[hb.cell,←hu,←h4,List.getElem?_take,if_pos (by omega)];simp
theorem Has.rowSet{g:Nat}(h:Has w (bt e size (.slice (H (L g 0 F)) n c) n xs*R)){i:Nat}(hi:i<n*size)(u:S):
  Has (w.setCell (L g i F) u) (bt e size (.slice (H (L g 0 F)) n c) n (xs.set i u)*R):=by
 have hl:=h.rowLens.1;have hn:0<n:=by
  rcases Nat.eq_zero_or_pos n with h0|h0
  ·subst h0;omega
  ·exact h0
 obtain⟨g',cur,hg,h1,h2,h3,h4,hb⟩:=h.rowAt hn;injection hg with hg
 injection hg with hg
 subst hg;refine(hb.set i u).rowOf ?_ h1 h2 (by simp[h3]) ?_
 ·simp[hl]
 ·rw[←h4]
  simp[List.take_set]
theorem Has.rowCut{g k:Nat}(h:Has w (bt e size (.slice (H (L g 0 F)) n c) n xs*R))(hk:k≤n):
  Has w (bt e size (.slice (H (L g 0 F)) k c) k (xs.take (k*size))*R):=by
 have hl:=h.rowLens.1;rcases h.rowCases with ⟨hv,_,_,_⟩|⟨g',cap,cur,hv,h1,h2,h3,h4,hb⟩
 ·injection hv with a;cases a
 ·injection hv with e1 e2 e3
  injection e1 with e1
  injection e1 with e1
  subst e1;subst e3;have hks:k*size≤n*size:=Nat.mul_le_mul_right _ hk;refine hb.rowOf ?_ (by omega) h2 h3 ?_
  ·rw[List.length_take,hl];omega
  ·rw[←h4,List.take_take,Nat.min_eq_left hks]
theorem Has.rowSpare{g:Nat}(h:Has w (bt e size (.slice (H (L g 0 F)) n c) n xs*R)){i:Nat}(hi:n*size≤i)(u:S):
  Has (w.setCell (L g i F) u) (bt e size (.slice (H (L g 0 F)) n c) n xs*R):=by
 have hl:=h.rowLens.1;rcases h.rowCases with ⟨hv,_,_,_⟩|⟨g',cap,cur,hv,h1,h2,h3,h4,hb⟩
 ·injection hv with a;cases a
 ·injection hv with e1 e2 e3
  injection e1 with e1
  injection e1 with e1
  subst e1;subst e3;refine(hb.set i u).rowOf hl h1 h2 (by simp[h3]) ?_;rw[←h4,Array.toList_setIfInBounds,List.take_set_of_le hi]
theorem Has.rowSetCells{g:Nat}:∀(vs:List S) {w:J} {xs:List S} (i:Nat),Has w (bt e size (.slice (H (L g 0 F)) n c) n xs*R)→i+vs.length≤n*size→
  Has (w.setCells g i vs) (bt e size (.slice (H (L g 0 F)) n c) n (xs.take i++(vs++xs.drop (i+vs.length)))*R)
 | [],w,xs,i,h,_=>by
  have e1:xs.take i++([]++xs.drop (i+([]:List S).length))=xs:=by simp
  rw[e1];exact h
 |v::r,w,xs,i,h,hi=>by
  simp only[List.length_cons] at hi;have h1:=h.rowSet (i:=i) (by omega) v;have h2:=Has.rowSetCells r (i+1) h1 (by omega);have hl:=h.rowLens.1;have e1:(xs.set i v).take (i+1)++(r++(xs.set i v).drop (i+1+r.length))=xs.take i++(v::r++xs.drop (i+(v::r).length)):=by
   rw[List.drop_set_of_lt (by omega),List.take_succ_eq_append_getElem (by simp;omega)];rw[List.getElem_set_self,List.take_set_of_le (Nat.le_refl i),List.append_assoc];simp only[List.length_cons,List.cons_append,List.nil_append];rw[show i+1+r.length=i+(r.length+1) by omega]
  rw[e1] at h2;exact h2
theorem Has.rowSpareCells{g:Nat}:∀(vs:List S) {w:J} (i:Nat),Has w (bt e size (.slice (H (L g 0 F)) n c) n xs*R)→n*size≤i→
  Has (w.setCells g i vs) (bt e size (.slice (H (L g 0 F)) n c) n xs*R)
 | [],_,_,h,_=>h
 |v::r,_,i,h,hi=>Has.rowSpareCells r (i+1) (h.rowSpare hi v) (by omega)
end
section
variable {α:Type} (cells:α→List S) (sz:Nat)
def fw(l:List α):List S:=l.flatMap cells
variable {cells} {sz}
theorem pT(hs:∀x,(cells x).length =sz):∀(l:List α),(fw cells l).length =l.length*sz
 | []=>by simp[fw]
 |x::l=>by
  show(cells x++fw cells l).length =_;rw[List.length_append,pT hs l,hs,List.length_cons,Nat.succ_mul,Nat.add_comm]
theorem gZ(a b:List α):fw cells (a++b)=fw cells a++fw cells b:=by simp[fw]
theorem fF(hs:∀x,(cells x).length =sz):∀(l:List α) (k:Nat),(fw cells l).drop (k*sz)=fw cells (l.drop k)
 | [],k=>by simp[fw]
 |x::l,0=>by simp
 |x::l,k+1=>by
  show(cells x++fw cells l).drop ((k+1)*sz)=_;rw[Nat.succ_mul,Nat.add_comm,List.drop_append,hs,List.drop_eq_nil_of_le (by rw[hs];omega),Nat.add_sub_cancel_left,fF hs l k];rfl
theorem fG(hs:∀x,(cells x).length =sz):∀(l:List α) (k:Nat),(fw cells l).take (k*sz)=fw cells (l.take k)
 | [],k=>by simp[fw]
 |x::l,0=>by simp[fw]
 |x::l,k+1=>by
  show(cells x++fw cells l).take ((k+1)*sz)=_;rw[Nat.succ_mul,Nat.add_comm,List.take_append,hs,List.take_of_length_le (by rw[hs];omega),Nat.add_sub_cancel_left,fG hs l k];rfl
theorem mB(hs:∀x,(cells x).length =sz){l:List α}{k t:Nat}(hk:k<l.length)(ht:t<sz):(fw cells l)[k*sz+t]? =(cells l[k])[t]? :=by
 have h1:(fw cells l)[k*sz+t]? =((fw cells l).drop (k*sz))[t]? :=by rw[List.getElem?_drop]
 rw[h1,fF hs,List.drop_eq_getElem_cons hk];show(cells l[k]++fw cells (l.drop (k+1)))[t]? =_;rw[List.getElem?_append_left (by rw[hs];omega)]
theorem uV(hs:∀x,(cells x).length =sz){l:List α}{k:Nat}(hk:k<l.length)(x:α):
  (fw cells l).take (k*sz)++(cells x++(fw cells l).drop (k*sz+sz))=fw cells (l.set k x):=by
 rw[fG hs,show k*sz+sz=(k+1)*sz by rw[Nat.succ_mul],fF hs,List.set_eq_take_append_cons_drop,if_pos hk,gZ];rfl
end
theorem fY{P:Program}(w:J)(t e ty:TypeId)(z:S)(size:Nat)(ht:P.underlying t=H (.slice e))(hv:∀w,(zeroValue e).run P w= .ok z w)(hz:z.cells.size=size)(h1:∀v∈z.cells.toList,v.oneCell'=D)(b o n c:Nat)(hn:0<n)(hs:0<size)
  (hc:∀j,j<n*size→(w.cell? ⟨b,o+j,F⟩).isSome =D) (hf:∀j,j<n*size→w.frozen? ⟨b,o+j,F⟩=C):
  (Builtin.clear_ #[t] ty #[.slice (H (L b o F)) n c]).run P w= .ok (.tuple #[]) (w.setCells b o (Builtin.zeroCells z.cells n).toList):=by
 have hl:(Builtin.zeroCells z.cells n).toList.length =n*size:=by rw[Array.length_toList,size_zeroCells,hz]
 have hst:=run_storeCells_cells (P:=P) b o (Builtin.zeroCells z.cells n).toList 0 w (by rw[hl];simpa using hc) (by rw[hl];simpa using hf) (by
  intro v hv';obtain⟨i,hi,rfl⟩:=List.getElem_of_mem hv';have hi':i<n*z.cells.size:=by simpa [hz] using (hl▸hi:i<n*size)
  have hm:i % z.cells.size<z.cells.size:=Nat.mod_lt _ (by rw[hz];exact hs);refine h1 _ ?_;simp only[Builtin.zeroCells,Array.toList_map,Array.toList_range,List.getElem_map,List.getElem_range];rw[getElem!_pos z.cells (i % z.cells.size) hm];exact Array.getElem_mem_toList hm)
 simp only[Nat.add_zero] at hst;obtain⟨m,rfl⟩:∃m,n=m+1:=⟨n - 1,by omega⟩;simp[Builtin.clear_,run_underlying ht,hv,hst]
section
variable {w w':J} {R:ab} {e size:Nat} {A:Option Z} {n c:Nat} {xs:List S}
theorem Has.rowDelete{g i j:Nat}(h:Has w (bt e size (.slice (H (L g 0 F)) n c) n xs*R))(hij:i≤j)(hj:j≤n)(zs:List S):
  Has ((w.setCells g (i*size) (xs.drop (j*size))).setCells g ((i+(n - j))*size) zs)
   (bt e size (.slice (H (L g 0 F)) (i+(n - j)) c) (i+(n - j)) (xs.take (i*size)++xs.drop (j*size))*R):=by
 have hl:=h.rowLens.1;have e1:j*size≤n*size:=Nat.mul_le_mul_right _ hj;have e2:i*size≤j*size:=Nat.mul_le_mul_right _ hij;have e3:(i+(n - j))*size=i*size+(n*size - j*size):=by rw[Nat.add_mul,Nat.sub_mul]
 have h1:=Has.rowSetCells (xs.drop (j*size)) (i*size) h (by rw[List.length_drop,hl];omega);have h2:=h1.rowCut (k:=i+(n - j)) (by omega);have h3:=Has.rowSpareCells zs ((i+(n - j))*size) h2 (Nat.le_refl _);have e4:(xs.take (i*size)++(xs.drop (j*size)++xs.drop (i*size+(xs.drop (j*size)).length))).take ((i+(n - j))*size)=xs.take (i*size)++xs.drop (j*size):=by
  have e5:(xs.take (i*size)++xs.drop (j*size)).length =(i+(n - j))*size:=by rw[List.length_append,List.length_take,List.length_drop,hl];omega
  rw[←List.append_assoc,List.take_append_of_le_length (by omega),List.take_of_length_le (by omega)]
 rw[e4] at h3;exact h3
end
theorem bU{P:Program}{ops:Array Oper}{o:Oper}{a:Act}{w:J}{R:ab}{K:Act→J→Prop}{Q:Exit→Act→J→Prop}{E:Prop}
  (hg:o.guard=F) (s x:Operand) (t:TypeId) (hop:o.op=Op.call {callee:=Callee.builtin Builtin.append,args:= #[s,x],argTypes:= #[t,t]})
  {e:TypeId} {z:S} {size bytes:Nat} (hT:P.underlying t=H (.slice e)) (hE:kL P e z size bytes)
  (v:S) (n:Nat) (xs:List S) (hs:a.eval s=v) (h:Has w (bt e size v n xs*R))
  (ad:Z) (m c:Nat) (news:List S) (hx:a.eval x= .slice (H ad) m c) (hl:news.length=m*size) (hnews:∀j u,news[j]? =H u→w.cell? (ad.add j)=H u) (h1:∀u∈news,u.oneCell'=D)
  (h63:n+m≤maxLen) (hbytes:(n+m)*bytes≤140737488355328)
  (hK:∀A c w',Has w' (bt e size (.slice A (n+m) c) (n+m) (xs++news)*R)→Ext w w'→K (a.put o.dst (.slice A (n+m) c)) w'):
  if Region.wanted o (yielded ops a.tmps)=D then Oper.wp P o a w K Q else E:=by
 have hw:Region.wanted o (yielded ops a.tmps)=D:=by simp[Region.wanted,hg]
 rw[if_pos hw];obtain⟨v',w',hrun,h2,h3⟩:=gG (ty:=o.type) hT hE v n xs h ad m c news hl hnews h1 h63 hbytes;unfold Oper.wp;simp[execOp,hop,resolve,invoke,builtin,hs,hx,hrun,Result.andThen];have hf:∃A c,v'= .slice A (n+m) c:=by
  rcases h2.rowCases with ⟨hv,hn,_,_⟩|⟨g,cap,cur,hv,_⟩
  ·exact⟨F,0,by rw[hv,hn]⟩
  ·exact⟨_,_,hv⟩
 obtain⟨A,c',rfl⟩:=hf;exact hK A c' w' h2 h3
structure Stp where
 kind:Int
 core:Int
 m:Mp
 a:Ac
def Stp.ok(x:Stp):Prop:=bX x.kind∧bX x.core∧x.m.ok∧x.a.ok
def aM(s:Ms):Nat→Ms|0=>s|k+1=>(aM s k).takeS
theorem fT{s:Ms}(h:s.Ok):∀k,(aM s k).Ok |0=>h|k+1=>(fT h k).takeS
theorem Has.onto'{w w':J}{P Q:ab}(h:Has w P)(h':Has w' (Q*cr w w.heap.size)):Has w' (Q*P):=by
 obtain⟨x,s,px⟩:=h;obtain⟨_,s',h1,h2,d,rfl,q,rfl⟩:=h';have sub:∀b o,x b=H o→(fun b=>if b<w.heap.size then w.heap[b]? else F) b=H o:=fun b o e=>by
  have h0:w.heap[b]? =H o:=s b o e;have hlt:b<w.heap.size:=(Array.getElem?_eq_some_iff.1 h0).1;show(if b<w.heap.size then w.heap[b]? else F)=H o;rw[if_pos hlt];exact h0
 refine⟨Hpm.union h1 x,?_,h1,x,?_,rfl,q,px⟩
 ·refine Hpm.sub_union (Hpm.sub_union_left s') fun b o e=> ?_
  exact Hpm.sub_union_right d s' b o (sub b o e)
 ·intro b
  rcases d b with e|e
  ·exact .inl e
  ·right
   cases hx:x b with
   |none=>rfl
   |some o=>rw[sub b o hx] at e;cases e
def ep(s:Ms):Nat→List Int|0=>[]|k+1=>ep s k++[(aM s k).topV]
def bK(s:Ms)(l:List Int):Ms:=l.foldl Ms.giveS s
theorem jm(s:Ms):∀k,(ep s k).length =k|0=>rfl|k+1=>by simp[ep,jm s k]
theorem pU{s:Ms}(h:s.Ok):∀l,(bK s l).Ok
 | []=>h
 |k::l=>pU (h.giveS k) l
theorem mC(s:Ms)(l:List Int)(k:Int):bK s (l++[k])=(bK s l).giveS k:=by simp[bK]
theorem fU{s:Ms}{k:Nat}(h:s.top=H k):s.takeS.frees++[k]=s.frees:=by
 unfold Ms.takeS;rw[h];exact Ms.frees_take s k h
theorem eU(s:Ms):∀k,k≤s.frees.length→(aM s k).frees =s.frees.take (s.frees.length - k)
 |0,_=>by simp[aM]
 |k+1,h=>by
  have ih:=eU s k (by omega);obtain⟨t,ht⟩:=jw (s:=aM s k) (by rw[ih];simp;omega);have h1:=fU ht;show(aM s k).takeS.frees =_;have h2:(aM s k).takeS.frees =(aM s k).frees.dropLast :=by rw[←h1];simp
  rw[h2,ih,List.dropLast_eq_take,List.take_take,List.length_take];congr 1
  omega
theorem Agree.giveS{s s':Ms}(h:Agree s s')(k:Int):Agree (s.giveS k) (s'.giveS k):=by
 unfold Ms.giveS;rw[←h.has k];split
 ·refine⟨h.n,fun j=> ?_,?_,fun j i hj=> ?_⟩
  ·show ch s.tk k.toNat C j=ch s'.tk k.toNat C j
   unfold ch;rw[h.tk]
  ·rw[Ms.frees_give,Ms.frees_give,h.fr]
  ·have hj:ch s.tk k.toNat C j=D:=hj
   unfold ch at hj;split at hj
   ·cases hj
   ·exact h.wd j i hj
 ·exact h
theorem Agree.giveL{s s':Ms}:∀(l:List Int),Agree s s'→Agree (bK s l) (bK s' l)
 | [],h=>h
 |k::l,h=>Agree.giveL l (h.giveS k)
theorem tg{s:Ms}(hs:s.Ok){k:Nat}(h:s.top=H k):Agree (s.takeS.giveS (k:Int)) s:=by
 have hl:=Ms.top_lt hs.inv h;have h1:=fU h;have hts:s.takeS=s.take k:=by unfold Ms.takeS;rw[h]
 have hh:s.takeS.has (k:Int)=D:=by rw[hts];exact dF hl.1
 have hg:s.takeS.giveS (k:Int)=s.takeS.give k:=by unfold Ms.giveS;rw[if_pos hh];rfl
 rw[hg];refine⟨?_,fun j=> ?_,?_,fun j i hj=> ?_⟩
 ·show s.takeS.n=s.n
  exact Ms.takeS_n s
 ·show ch s.takeS.tk k C j=s.tk j
  rw[hts];show ch (ch s.tk k D) k C j=s.tk j;unfold ch;by_cases e:j=k
  ·rw[if_pos e,e,hl.2]
  ·rw[if_neg e,if_neg e]
 ·rw[Ms.frees_give,h1]
 ·have hj:ch s.takeS.tk k C j=D:=hj
  unfold ch at hj;split at hj
  ·cases hj
  ·rename_i e
   show s.takeS.wd j i=s.wd j i;rw[hts];show(if j=k then(0:Int) else s.wd j i)=s.wd j i;rw[if_neg e]
theorem mD{s:Ms}(hs:s.Ok):∀k,k≤s.frees.length→Agree (bK (aM s k) (ep s k).reverse) s
 |0,_=>Agree.refl s
 |k+1,h=>by
  have hlen:0< (aM s k).frees.length :=by rw[eU s k (by omega)];simp;omega
  obtain⟨t,ht⟩:=jw hlen;have e1:(aM s k).topV =(t:Int):=by unfold Ms.topV;rw[ht]
  show Agree (bK (aM s k).takeS (ep s k++[(aM s k).topV]).reverse) s;rw[List.reverse_append,e1];show Agree (bK ((aM s k).takeS.giveS (t:Int)) (ep s k).reverse) s;exact(Agree.giveL _ (tg (fT hs k) ht)).trans (mD hs k (by omega))
theorem ti{s:Ms}{k:Nat}(hk:k≤s.frees.length):((aM s k).topV <0)↔k=s.frees.length:=by
 have hf:=eU s k hk;constructor
 ·intro h
  apply Classical.byContradiction;intro hn;obtain⟨t,ht⟩:=jw (s:=aM s k) (by rw[hf];simp;omega);unfold Ms.topV at h;rw[ht] at h;have:(0:Int)≤t:=by omega
  dsimp only at h;omega
 ·intro h
  have he:(aM s k).frees =[]:=by rw[hf,h];simp
  have ht:(aM s k).top =F:=by rw[←Ms.frees_top,he];rfl
  unfold Ms.topV;rw[ht];decide
theorem bY(c:Int)(w:J):M prog 240 #[.bool C,.int .i64 c] w (Same (.tuple #[]) w):=by
 go_enter func240,ntmps240;go_wp2;go_end0
 exact⟨rfl,rfl⟩
def AS(c:Int)(w:J)(e:Ending)(w':J):Prop:=e= .panicked [{v:= .iface 316 (G I c),recovered:=C}]∧w=w'
theorem bx(c:Int)(w:J):M prog 240 #[.bool D,.int .i64 c] w (AS c w):=by
 go_enter func240,ntmps240;go_wp2;exact⟨rfl,rfl,rfl⟩
theorem dK(l:Int)(w:J):M prog 204 #[.int .i64 l] w (Same (G I l) w):=by
 go_enter func204,ntmps204;go_wp2;go_ret;exact⟨rfl,rfl⟩
theorem jF(b:Bool)(n:Int)(w:J):M prog 234 #[.bool b,.int .u64 n] w (Same (G vU (iG b n)) w):=by
 cases b with
 |true=>
  go_enter func234,ntmps234;go_wp2;go_ret;exact⟨rfl,rfl⟩
 |false=>
  go_enter func234,ntmps234;go_wp2;go_ret;exact⟨rfl,rfl⟩
theorem pV(c:Int)(w:J):(Instr.typeAssert (.iface 316 (G I c)) 20 316 D).run prog w= .ok (.tuple #[G I c,N D]) w:=by kernel_rfl
theorem nl(p:Z)(x c:Int)(older:List PanicEntry)(w:J)(hc:w.cell? p=H (G I x))(hz:w.frozen? p=C):
  CallsD prog 239 #[.pointer (H p)] (.panicking ({v:= .iface 316 (G I c),recovered:=C}::older)) w fun e u' w'=>
   e= .returned (.tuple #[])∧u'= .panicking ({v:= .iface 316 (G I c),recovered:=D}::older)∧w'=w.setCell p (G I c):=by
 have hta:=pV c;refine callsD_of_wpS func239 rfl fun c₀ cs hu=> ?_;apply wpS_seq;apply wpS_region;simp[wpOpsS,go_sem,recoverD,hu,ntmps239,Exit.thenS];apply wpS_seq;apply wpS_region;simp[wpOpsS,go_sem,Exit.thenS];refine wpS_cond (t:=D) (by simp[Act.eval,Array.replicate]) ?_;simp only[if_true];apply wpS_seq;apply wpS_region;simp[wpOpsS,go_sem,Exit.thenS,hta];apply wpS_seq;apply wpS_seq;apply wpS_region;simp[wpOpsS,go_sem,Exit.thenS];refine wpS_cond (t:=C) (by simp[Act.eval,Array.replicate]) ?_;simp only[Bool.false_eq_true,if_false];refine wpS_of_wp (wp_skip ?_);simp only[Exit.thenS];apply wpS_region;simp[wpOpsS,go_sem,hc,hz,bodyPostS,results,results239]
theorem oI(p:Z)(w:J):
  CallsD prog 239 #[.pointer (H p)] .returning w fun e u' w'=>e= .returned (.tuple #[])∧u'= .returning ∧w'=w:=by
 refine callsD_of_wpS func239 rfl fun c₀ cs hu=> ?_;apply wpS_seq;apply wpS_region;simp[wpOpsS,go_sem,recoverD,hu,ntmps239,Exit.thenS];apply wpS_seq;apply wpS_region;simp[wpOpsS,go_sem,Exit.thenS];refine wpS_cond (t:=C) (by simp[Act.eval,Array.replicate]) ?_;simp only[Bool.false_eq_true,if_false];refine wpS_of_wp (wp_skip ?_);cases c₀;simp_all [bodyPostS,results,results239]
def cE(c:Int):Ending:=if c=0 then .returned (.tuple #[]) else .panicked [{v:= .iface 316 (G I c),recovered:=C}]
def Ab(c:Int)(w:J)(e:Ending)(w':J):Prop:=e=cE c∧Below w.heap.size w w'
set_option maxHeartbeats 4000000 in
theorem mE(th leaf u d:Bool)(r f l:Int)(w:J):M prog 232 #[.agg #[N th,N leaf,G I r,N u,N d,G I f],G I l] w (Ab (ao ⟨th,leaf,r,u,d,f⟩ l) w):=by
 have h1:=T (bc w) #[N th,N leaf,G I r,N u,N d,G I f] 81;have bl:=aA h1.right ((O w).alloc (.cells #[N th,N leaf,G I r,N u,N d,G I f] 81));clear h1;by_cases l0:l<0
 ·have hy:=B (show cE (ao ⟨th,leaf,r,u,d,f⟩ l)= .panicked [{v:= .iface 316 (G I 1),recovered:=C}] by unfold ao;rw[if_pos (.inl l0)];rfl)
  go_enter func232,ntmps232;go_wp2_with(go_at_call 240;first|((with_reducible refine(bY _ _).mono ?_);rintro e w' ⟨rfl,rfl⟩)|((with_reducible refine(bx _ _).mono ?_);rintro e w' ⟨rfl,rfl⟩))
  exact⟨rfl,by rw[hy.out],bl⟩
 by_cases l4:4≤l
 ·have hy:=B (show cE (ao ⟨th,leaf,r,u,d,f⟩ l)= .panicked [{v:= .iface 316 (G I 1),recovered:=C}] by unfold ao;rw[if_pos (.inr l4)];rfl)
  go_enter func232,ntmps232;go_wp2_with(go_at_call 240;first|((with_reducible refine(bY _ _).mono ?_);rintro e w' ⟨rfl,rfl⟩)|((with_reducible refine(bx _ _).mono ?_);rintro e w' ⟨rfl,rfl⟩))
  exact⟨rfl,by rw[hy.out],bl⟩
 have hl:¬(l<0∨4≤l):=by omega
 cases th with
 |false=>
  by_cases hz:leaf=C∧r=0∧u=C∧d=C∧f=0
  ·obtain⟨rfl,rfl,rfl,rfl,rfl⟩:=hz
   have hy:=B (show cE (ao ⟨C,C,0,C,C,0⟩ l)= .returned (.tuple #[]) by unfold ao;rw[if_neg hl];rfl);clear hl;go_enter func232,ntmps232;go_wp2_with(go_at_call 240;first|((with_reducible refine(bY _ _).mono ?_);rintro e w' ⟨rfl,rfl⟩)|((with_reducible refine(bx _ _).mono ?_);rintro e w' ⟨rfl,rfl⟩))
   go_end0
   exact⟨by rw[hy.out],bl⟩
  ·have hy:=B (show cE (ao ⟨C,leaf,r,u,d,f⟩ l)= .panicked [{v:= .iface 316 (G I 7),recovered:=C}] by
    unfold ao;rw[if_neg hl,if_pos rfl,if_neg (fun e=>hz (by unfold En.zero at e;injection e with _ a b c d e;exact⟨a,b,c,d,e⟩))];rfl)
   clear hl;generalize ao ⟨C,leaf,r,u,d,f⟩ l=c at hy⊢;cases leaf with
   |true=>((clear hz);go_enter func232,ntmps232;(go_wp2_with(go_at_call 240;first|((with_reducible refine(bY _ _).mono ?_);rintro e w' ⟨rfl,rfl⟩)|((with_reducible refine(bx _ _).mono ?_);rintro e w' ⟨rfl,rfl⟩)));exact⟨rfl,by rw[hy.out],bl⟩)
   |false=>
    by_cases r0:r=0
    ·subst r0
     cases u with
     |true=>((clear hz);go_enter func232,ntmps232;(go_wp2_with(go_at_call 240;first|((with_reducible refine(bY _ _).mono ?_);rintro e w' ⟨rfl,rfl⟩)|((with_reducible refine(bx _ _).mono ?_);rintro e w' ⟨rfl,rfl⟩)));exact⟨rfl,by rw[hy.out],bl⟩)
     |false=>
      cases d with
      |true=>((clear hz);go_enter func232,ntmps232;(go_wp2_with(go_at_call 240;first|((with_reducible refine(bY _ _).mono ?_);rintro e w' ⟨rfl,rfl⟩)|((with_reducible refine(bx _ _).mono ?_);rintro e w' ⟨rfl,rfl⟩)));exact⟨rfl,by rw[hy.out],bl⟩)
      |false=>
       have f0:(f==0)=C:=by
        rw[Bool.eq_false_iff];intro h;exact hz ⟨rfl,rfl,rfl,rfl,by simpa using h⟩
       ((clear hz);go_enter func232,ntmps232;(go_wp2_with(go_at_call 240;first|((with_reducible refine(bY _ _).mono ?_);rintro e w' ⟨rfl,rfl⟩)|((with_reducible refine(bx _ _).mono ?_);rintro e w' ⟨rfl,rfl⟩)));exact⟨rfl,by rw[hy.out],bl⟩)
    ·have r0':(r==0)=C:=by simpa using r0
     clear r0
     ((clear hz);go_enter func232,ntmps232;(go_wp2_with(go_at_call 240;first|((with_reducible refine(bY _ _).mono ?_);rintro e w' ⟨rfl,rfl⟩)|((with_reducible refine(bx _ _).mono ?_);rintro e w' ⟨rfl,rfl⟩)));exact⟨rfl,by rw[hy.out],bl⟩)
 |true=>
  have ht:¬((⟨D,leaf,r,u,d,f⟩:En).there =C):=by simp
  by_cases hb:r<0
  ·have hy:=B (show cE (ao ⟨D,leaf,r,u,d,f⟩ l)= .panicked [{v:= .iface 316 (G I 1),recovered:=C}] by
    unfold ao;rw[if_neg hl,if_neg ht,if_pos (.inl hb)];rfl)
   clear hl ht;generalize ao ⟨D,leaf,r,u,d,f⟩ l=c at hy⊢;go_enter func232,ntmps232;go_wp2_with(go_at_call 240;first|((with_reducible refine(bY _ _).mono ?_);rintro e w' ⟨rfl,rfl⟩)|((with_reducible refine(bx _ _).mono ?_);rintro e w' ⟨rfl,rfl⟩))
   exact⟨rfl,by rw[hy.out],bl⟩
  by_cases hb:7<r
  ·have hy:=B (show cE (ao ⟨D,leaf,r,u,d,f⟩ l)= .panicked [{v:= .iface 316 (G I 1),recovered:=C}] by
    unfold ao;rw[if_neg hl,if_neg ht,if_pos (.inr (.inl hb))];rfl)
   clear hl ht;generalize ao ⟨D,leaf,r,u,d,f⟩ l=c at hy⊢;go_enter func232,ntmps232;go_wp2_with(go_at_call 240;first|((with_reducible refine(bY _ _).mono ?_);rintro e w' ⟨rfl,rfl⟩)|((with_reducible refine(bx _ _).mono ?_);rintro e w' ⟨rfl,rfl⟩))
   exact⟨rfl,by rw[hy.out],bl⟩
  by_cases hb:f<0
  ·have hy:=B (show cE (ao ⟨D,leaf,r,u,d,f⟩ l)= .panicked [{v:= .iface 316 (G I 1),recovered:=C}] by
    unfold ao;rw[if_neg hl,if_neg ht,if_pos (.inr (.inr (.inl hb)))];rfl)
   clear hl ht;generalize ao ⟨D,leaf,r,u,d,f⟩ l=c at hy⊢;go_enter func232,ntmps232;go_wp2_with(go_at_call 240;first|((with_reducible refine(bY _ _).mono ?_);rintro e w' ⟨rfl,rfl⟩)|((with_reducible refine(bx _ _).mono ?_);rintro e w' ⟨rfl,rfl⟩))
   exact⟨rfl,by rw[hy.out],bl⟩
  by_cases hb:1048576≤f
  ·have hy:=B (show cE (ao ⟨D,leaf,r,u,d,f⟩ l)= .panicked [{v:= .iface 316 (G I 1),recovered:=C}] by
    unfold ao;rw[if_neg hl,if_neg ht,if_pos (.inr (.inr (.inr hb)))];rfl)
   clear hl ht;generalize ao ⟨D,leaf,r,u,d,f⟩ l=c at hy⊢;go_enter func232,ntmps232;go_wp2_with(go_at_call 240;first|((with_reducible refine(bY _ _).mono ?_);rintro e w' ⟨rfl,rfl⟩)|((with_reducible refine(bx _ _).mono ?_);rintro e w' ⟨rfl,rfl⟩))
   exact⟨rfl,by rw[hy.out],bl⟩
  have hr:¬(r<0∨7<r∨f<0∨1048576≤f):=by omega
  have d1:decide (r<0)=C:=by simp;omega
  have d2:decide (7<r)=C:=by simp;omega
  have d3:decide (f<0)=C:=by simp;omega
  have d4:decide (1048576≤f)=C:=by simp;omega
  cases leaf with
  |false=>
   by_cases lz:l=0
   ·subst lz
    have hy:=B (show cE (ao ⟨D,C,r,u,d,f⟩ 0)= .panicked [{v:= .iface 316 (G I 2),recovered:=C}] by
     unfold ao;rw[if_neg hl,if_neg ht,if_neg hr,if_pos (.inr ⟨rfl,rfl⟩)];rfl)
    clear hl ht hr;generalize ao ⟨D,C,r,u,d,f⟩ 0=c at hy⊢;go_enter func232,ntmps232;go_wp2_with(go_at_call 240;first|((with_reducible refine(bY _ _).mono ?_);rintro e w' ⟨rfl,rfl⟩)|((with_reducible refine(bx _ _).mono ?_);rintro e w' ⟨rfl,rfl⟩))
    exact⟨rfl,by rw[hy.out],bl⟩
   have hk:¬((C=D∧l=3)∨(C=C∧l=0)):=by simp[lz]
   by_cases hx:r≠7∨u=D∨d=D
   ·have hy:=B (show cE (ao ⟨D,C,r,u,d,f⟩ l)= .panicked [{v:= .iface 316 (G I 7),recovered:=C}] by
     unfold ao;rw[if_neg hl,if_neg ht,if_neg hr,if_neg hk,if_pos rfl,if_pos hx];rfl)
    clear hl ht hr hk;have lz':(l==0)=C:=by simpa using lz
    generalize ao ⟨D,C,r,u,d,f⟩ l=c at hy⊢;by_cases r7:r=7
    ·cases u with
     |true=>
      clear hx;subst r7;go_enter func232,ntmps232;go_wp2_with(go_at_call 240;first|((with_reducible refine(bY _ _).mono ?_);rintro e w' ⟨rfl,rfl⟩)|((with_reducible refine(bx _ _).mono ?_);rintro e w' ⟨rfl,rfl⟩))
      exact⟨rfl,by rw[hy.out],bl⟩
     |false=>
      obtain rfl:d=D:=by rcases hx with hx|hx|hx;exact absurd r7 hx;cases hx;exact hx
      subst r7;clear hx;go_enter func232,ntmps232;go_wp2_with(go_at_call 240;first|((with_reducible refine(bY _ _).mono ?_);rintro e w' ⟨rfl,rfl⟩)|((with_reducible refine(bx _ _).mono ?_);rintro e w' ⟨rfl,rfl⟩))
      exact⟨rfl,by rw[hy.out],bl⟩
    ·have r7':(r !=7)=D:=by simpa using r7
     clear hx r7;go_enter func232,ntmps232;go_wp2_with(go_at_call 240;first|((with_reducible refine(bY _ _).mono ?_);rintro e w' ⟨rfl,rfl⟩)|((with_reducible refine(bx _ _).mono ?_);rintro e w' ⟨rfl,rfl⟩))
     exact⟨rfl,by rw[hy.out],bl⟩
   ·obtain⟨rfl,rfl,rfl⟩:r=7∧u=C∧d=C:=by
     refine⟨?_,?_,?_⟩
     ·exact Decidable.of_not_not fun h=>hx (.inl h)
     ·cases u with
      |false=>rfl
      |true=>exact absurd (.inr (.inl rfl)) hx
     ·cases d with
      |false=>rfl
      |true=>exact absurd (.inr (.inr rfl)) hx
    have hy:=B (show cE (ao ⟨D,C,7,C,C,f⟩ l)= .returned (.tuple #[]) by
     unfold ao;rw[if_neg hl,if_neg ht,if_neg hr,if_neg hk,if_pos rfl,if_neg hx];rfl)
    have lz':(l==0)=C:=by simpa using lz
    clear hl ht hr hk hx lz;generalize ao ⟨D,C,7,C,C,f⟩ l=c at hy⊢;go_enter func232,ntmps232;go_wp2_with(go_at_call 240;first|((with_reducible refine(bY _ _).mono ?_);rintro e w' ⟨rfl,rfl⟩)|((with_reducible refine(bx _ _).mono ?_);rintro e w' ⟨rfl,rfl⟩))
    go_end0
    exact⟨by rw[hy.out],bl⟩
  |true=>
   by_cases l3:l=3
   ·subst l3
    have hy:=B (show cE (ao ⟨D,D,r,u,d,f⟩ 3)= .panicked [{v:= .iface 316 (G I 2),recovered:=C}] by
     unfold ao;rw[if_neg hl,if_neg ht,if_neg hr,if_pos (.inl ⟨rfl,rfl⟩)];rfl)
    clear hl ht hr;generalize ao ⟨D,D,r,u,d,f⟩ 3=c at hy⊢;go_enter func232,ntmps232;go_wp2_with(go_at_call 240;first|((with_reducible refine(bY _ _).mono ?_);rintro e w' ⟨rfl,rfl⟩)|((with_reducible refine(bx _ _).mono ?_);rintro e w' ⟨rfl,rfl⟩))
    exact⟨rfl,by rw[hy.out],bl⟩
   have hk:¬((D=D∧l=3)∨(D=C∧l=0)):=by simp[l3]
   have hsp:ao ⟨D,D,r,u,d,f⟩ l=if f % bE l≠0 then 3 else 0:=by
    unfold ao;rw[if_neg hl,if_neg ht,if_neg hr,if_neg hk,if_neg (by simp)]
   have hl3:l=0∨l=1∨l=2:=by omega
   clear ht hr hk l3;rcases hl3 with rfl|rfl|rfl
   ·skip
    have hs:bE 0=1:=rfl;rw[hs] at hsp;have hsc:∀W,M prog 203 #[.int .i64 0] W (Same (G I 1) W):=fun W=>by
     have:=cD 0 W;rwa [hs] at this
    have HS:=B hsc;clear hs hsc;have hm:f % 1=0:=Int.emod_one f;have hy:=B (show cE (ao ⟨D,D,r,u,d,f⟩ 0)= .returned (.tuple #[]) by rw[hsp,if_neg (fun h=>h hm)];rfl);have hm':(f.tmod 1 !=0)=C:=by rw[Int.tmod_eq_emod_of_nonneg (by omega)];rw[bne_eq_false_iff_eq];exact hm
    clear hl hsp hm;generalize ao ⟨D,D,r,u,d,f⟩ 0=c at hy⊢;go_enter func232,ntmps232;go_wp2_with(go_at_call 240;first|((with_reducible refine(bY _ _).mono ?_);rintro e w' ⟨rfl,rfl⟩)|((with_reducible refine(bx _ _).mono ?_);rintro e w' ⟨rfl,rfl⟩))
    go_region_with (first|(go_at_call 204;(with_reducible refine(dK _ _).mono ?_);rintro e w' ⟨rfl,rfl⟩)|(go_at_call 203;(with_reducible refine(HS.out _).mono ?_);rintro e w' ⟨rfl,rfl⟩)|(go_at_call 240;first|((with_reducible refine(bY _ _).mono ?_);rintro e w' ⟨rfl,rfl⟩)|((with_reducible refine(bx _ _).mono ?_);rintro e w' ⟨rfl,rfl⟩)))
    all_goals
     go_wp2;go_end0
     exact⟨by rw[hy.out],bl.drew⟩
   ·skip
    have hs:bE 1=8:=rfl;rw[hs] at hsp;have hsc:∀W,M prog 203 #[.int .i64 1] W (Same (G I 8) W):=fun W=>by
     have:=cD 1 W;rwa [hs] at this
    have HS:=B hsc;clear hs hsc;by_cases hm:f % 8=0
    ·have hy:=B (show cE (ao ⟨D,D,r,u,d,f⟩ 1)= .returned (.tuple #[]) by rw[hsp,if_neg (fun h=>h hm)];rfl)
     have hm':(f.tmod 8 !=0)=C:=by rw[Int.tmod_eq_emod_of_nonneg (by omega)];rw[bne_eq_false_iff_eq];exact hm
     clear hl hsp hm;generalize ao ⟨D,D,r,u,d,f⟩ 1=c at hy⊢;go_enter func232,ntmps232;go_wp2_with(go_at_call 240;first|((with_reducible refine(bY _ _).mono ?_);rintro e w' ⟨rfl,rfl⟩)|((with_reducible refine(bx _ _).mono ?_);rintro e w' ⟨rfl,rfl⟩))
     go_region_with (first|(go_at_call 204;(with_reducible refine(dK _ _).mono ?_);rintro e w' ⟨rfl,rfl⟩)|(go_at_call 203;(with_reducible refine(HS.out _).mono ?_);rintro e w' ⟨rfl,rfl⟩)|(go_at_call 240;first|((with_reducible refine(bY _ _).mono ?_);rintro e w' ⟨rfl,rfl⟩)|((with_reducible refine(bx _ _).mono ?_);rintro e w' ⟨rfl,rfl⟩)))
     all_goals
      go_wp2;go_end0
      exact⟨by rw[hy.out],bl.drew⟩
    ·have hy:=B (show cE (ao ⟨D,D,r,u,d,f⟩ 1)= .panicked [{v:= .iface 316 (G I 3),recovered:=C}] by rw[hsp,if_pos hm];rfl)
     have hm':(f.tmod 8 !=0)=D:=by rw[Int.tmod_eq_emod_of_nonneg (by omega)];rw[bne_iff_ne];exact hm
     clear hl hsp hm;generalize ao ⟨D,D,r,u,d,f⟩ 1=c at hy⊢;go_enter func232,ntmps232;go_wp2_with(go_at_call 240;first|((with_reducible refine(bY _ _).mono ?_);rintro e w' ⟨rfl,rfl⟩)|((with_reducible refine(bx _ _).mono ?_);rintro e w' ⟨rfl,rfl⟩))
     have hw1:=T (bc w) #[N D,N D,G I r,N u,N d,G I f] 81;generalize w.alloc _=W at*
     have cd:W.cell? (L w.heap.size 5 F)=H (G I f):=hw1.cells6.2.2.2.2.2;clear hw1;go_still_tail 7,(by kernel_rfl)
     still_call ((dK _ _).mono fun _ _ ⟨a,b⟩=>⟨a,b.symm⟩)
     still_call ((HS.out _).mono fun _ _ ⟨a,b⟩=>⟨a,b.symm⟩)
     repeat still_step
     try refine wpStill_nil ?_
     go_wp2_with(go_at_call 240;first|((with_reducible refine(bY _ _).mono ?_);rintro e w' ⟨rfl,rfl⟩)|((with_reducible refine(bx _ _).mono ?_);rintro e w' ⟨rfl,rfl⟩))
     exact⟨rfl,by rw[hy.out],bl.drew⟩
   ·skip
    have hs:bE 2=64:=rfl;rw[hs] at hsp;have hsc:∀W,M prog 203 #[.int .i64 2] W (Same (G I 64) W):=fun W=>by
     have:=cD 2 W;rwa [hs] at this
    have HS:=B hsc;clear hs hsc;by_cases hm:f % 64=0
    ·have hy:=B (show cE (ao ⟨D,D,r,u,d,f⟩ 2)= .returned (.tuple #[]) by rw[hsp,if_neg (fun h=>h hm)];rfl)
     have hm':(f.tmod 64 !=0)=C:=by rw[Int.tmod_eq_emod_of_nonneg (by omega)];rw[bne_eq_false_iff_eq];exact hm
     clear hl hsp hm;generalize ao ⟨D,D,r,u,d,f⟩ 2=c at hy⊢;go_enter func232,ntmps232;go_wp2_with(go_at_call 240;first|((with_reducible refine(bY _ _).mono ?_);rintro e w' ⟨rfl,rfl⟩)|((with_reducible refine(bx _ _).mono ?_);rintro e w' ⟨rfl,rfl⟩))
     go_region_with (first|(go_at_call 204;(with_reducible refine(dK _ _).mono ?_);rintro e w' ⟨rfl,rfl⟩)|(go_at_call 203;(with_reducible refine(HS.out _).mono ?_);rintro e w' ⟨rfl,rfl⟩)|(go_at_call 240;first|((with_reducible refine(bY _ _).mono ?_);rintro e w' ⟨rfl,rfl⟩)|((with_reducible refine(bx _ _).mono ?_);rintro e w' ⟨rfl,rfl⟩)))
     all_goals
      go_wp2;go_end0
      exact⟨by rw[hy.out],bl.drew⟩
    ·have hy:=B (show cE (ao ⟨D,D,r,u,d,f⟩ 2)= .panicked [{v:= .iface 316 (G I 3),recovered:=C}] by rw[hsp,if_pos hm];rfl)
     have hm':(f.tmod 64 !=0)=D:=by rw[Int.tmod_eq_emod_of_nonneg (by omega)];rw[bne_iff_ne];exact hm
     clear hl hsp hm;generalize ao ⟨D,D,r,u,d,f⟩ 2=c at hy⊢;go_enter func232,ntmps232;go_wp2_with(go_at_call 240;first|((with_reducible refine(bY _ _).mono ?_);rintro e w' ⟨rfl,rfl⟩)|((with_reducible refine(bx _ _).mono ?_);rintro e w' ⟨rfl,rfl⟩))
     have hw1:=T (bc w) #[N D,N D,G I r,N u,N d,G I f] 81;generalize w.alloc _=W at*
     have cd:W.cell? (L w.heap.size 5 F)=H (G I f):=hw1.cells6.2.2.2.2.2;clear hw1;go_still_tail 7,(by kernel_rfl)
     still_call ((dK _ _).mono fun _ _ ⟨a,b⟩=>⟨a,b.symm⟩)
     still_call ((HS.out _).mono fun _ _ ⟨a,b⟩=>⟨a,b.symm⟩)
     repeat still_step
     try refine wpStill_nil ?_
     go_wp2_with(go_at_call 240;first|((with_reducible refine(bY _ _).mono ?_);rintro e w' ⟨rfl,rfl⟩)|((with_reducible refine(bx _ _).mono ?_);rintro e w' ⟨rfl,rfl⟩))
     exact⟨rfl,by rw[hy.out],bl.drew⟩
theorem pW(b q:Nat)(th leaf u d:Bool)(r f l:Int)(w:J)(c0:w.cell? (L b 0 F)=H (N th))(c1:w.cell? (L b 1 F)=H (N leaf))(c2:w.cell? (L b 2 F)=H (G I r))(c3:w.cell? (L b 3 F)=H (N u))(c4:w.cell? (L b 4 F)=H (N d))(c5:w.cell? (L b 5 F)=H (G I f))(c6:w.cell? (L q 0 F)=H (G I l)):
  M prog 231 #[.pointer (H (L b 0 F)),.pointer (H (L q 0 F))] w (Ab (ao ⟨th,leaf,r,u,d,f⟩ l) w):=by
 by_cases hc:ao ⟨th,leaf,r,u,d,f⟩ l=0
 ·have hy:=B (show cE (ao ⟨th,leaf,r,u,d,f⟩ l)= .returned (.tuple #[]) by unfold cE;rw[if_pos hc])
  have HC:=B (fun W=>mE th leaf u d r f l W);clear hc;go_enter func231,ntmps231;go_wp2_with fail
  refine(HC.out _).mono ?_;rintro e w' ⟨he,bl⟩;rw[hy.out] at he;subst he;go_wp2;go_end0
  exact⟨hy.out.symm,bl⟩
 ·have hy:=B (show cE (ao ⟨th,leaf,r,u,d,f⟩ l)= .panicked [{v:= .iface 316 (G I (ao ⟨th,leaf,r,u,d,f⟩ l)),recovered:=C}] by unfold cE;rw[if_neg hc])
  have HC:=B (fun W=>mE th leaf u d r f l W);clear hc;go_enter func231,ntmps231;go_wp2_with fail
  refine(HC.out _).mono ?_;rintro e w' ⟨he,bl⟩;rw[hy.out] at he;subst he;go_wp2;exact⟨rfl,hy.out.symm,bl⟩
theorem q8(b q:Nat)(th leaf u d:Bool)(r f l:Int)(w:J)(c0:w.cell? (L b 0 F)=H (N th))(c1:w.cell? (L b 1 F)=H (N leaf))(c2:w.cell? (L b 2 F)=H (G I r))(c3:w.cell? (L b 3 F)=H (N u))(c4:w.cell? (L b 4 F)=H (N d))(c5:w.cell? (L b 5 F)=H (G I f))(c6:w.cell? (L q 0 F)=H (G I l))
  (hb:b<w.heap.size) (hq:q<w.heap.size):
  M prog 230 #[.func (.func 231) #[] #[.pointer (H (L b 0 F)),.pointer (H (L q 0 F))]] w (Pure (G I (ao ⟨th,leaf,r,u,d,f⟩ l)) w):=by
 have hmf:∀(fn:Fn) (first cap:Array S) (w:J),(Instr.makeFunc fn first cap).run prog w= .ok (.func fn first cap) w:=fun _ _ _ _=>rfl;have b1:=Below.alloc (Below.refl w.heap.size w) (Nat.le_refl _) (.cells #[G I 0] 3);have k0:=(b1.cell (p:=(L b 0 F)) hb).trans c0;have k1:=(b1.cell (p:=(L b 1 F)) hb).trans c1;have k2:=(b1.cell (p:=(L b 2 F)) hb).trans c2;have k3:=(b1.cell (p:=(L b 3 F)) hb).trans c3;have k4:=(b1.cell (p:=(L b 4 F)) hb).trans c4;have k5:=(b1.cell (p:=(L b 5 F)) hb).trans c5;have k6:=(b1.cell (p:=(L q 0 F)) hq).trans c6;clear c0 c1 c2 c3 c4 c5 c6;have h1:=T (bc w) #[G I 0] 3;by_cases hc:ao ⟨th,leaf,r,u,d,f⟩ l=0
 ·have hy:=B (show cE (ao ⟨th,leaf,r,u,d,f⟩ l)= .returned (.tuple #[]) by unfold cE;rw[if_pos hc])
  rw[hc];have HC:=B (pW b q th leaf u d r f l _ k0 k1 k2 k3 k4 k5 k6);clear hc k0 k1 k2 k3 k4 k5 k6;go_enter_defers func230,ntmps230
  go_wp2_with fail
  refine(HC.out).mono ?_;rintro e w2 ⟨he,bl⟩;rw[hy.out] at he;subst he;have h2:=h1.below bl;have x2:=((O w).alloc (.cells #[G I 0] 3)).below bl;have z0:w2.cell? (L w.heap.size 0 F)=H (G I 0):=h2.cell 0;have zf:=h2.free 0;have zl:=h2.lt;clear h1 bl hy HC;go_wp2_with fail
  refine leaves_cons (f:=239) (args:= #[.pointer (H (L w.heap.size 0 F))]) (by simp) (by simp[go_sem]) ?_;refine(oI (L w.heap.size 0 F) _).mono ?_;rintro e u' w'' ⟨rfl,rfl,rfl⟩;have zz:(w2.setCell (L w.heap.size 0 F) (G I 0)).cell? (L w.heap.size 0 F)=H (G I 0):=(h2.set 0 (G I 0)).cell 0;simp[Leaves,settle,results,results230,go_sem,zz];exact⟨rfl,aA (h2.set 0 _).right (x2.set _ _)⟩
 ·have hy:=B (show cE (ao ⟨th,leaf,r,u,d,f⟩ l)= .panicked [{v:= .iface 316 (G I (ao ⟨th,leaf,r,u,d,f⟩ l)),recovered:=C}] by unfold cE;rw[if_neg hc])
  have HC:=B (pW b q th leaf u d r f l _ k0 k1 k2 k3 k4 k5 k6);clear hc k0 k1 k2 k3 k4 k5 k6;generalize ao ⟨th,leaf,r,u,d,f⟩ l=c at*
  go_enter_defers func230,ntmps230
  go_wp2_with fail
  refine(HC.out).mono ?_;rintro e w2 ⟨he,bl⟩;rw[hy.out] at he;subst he;have h2:=h1.below bl;have x2:=((O w).alloc (.cells #[G I 0] 3)).below bl;have z0:w2.cell? (L w.heap.size 0 F)=H (G I 0):=h2.cell 0;have zf:=h2.free 0;have zl:=h2.lt;clear h1 bl hy HC;go_wp2_with fail
  refine leaves_cons (f:=239) (args:= #[.pointer (H (L w.heap.size 0 F))]) (by simp) (by simp[go_sem]) ?_;refine(nl (L w.heap.size 0 F) 0 c [] _ z0 zf).mono ?_;rintro e u' w'' ⟨rfl,rfl,rfl⟩;have zz:(w2.setCell (L w.heap.size 0 F) (G I c)).cell? (L w.heap.size 0 F)=H (G I c):=(h2.set 0 (G I c)).cell 0;simp[Leaves,settle,results,results230,go_sem,zz];exact⟨rfl,aA (h2.set 0 _).right (x2.set _ _)⟩
theorem gg(e:En)(l:Int)(w:J):M prog 202 #[.agg #[N e.there,N e.leaf,G I e.rights,N e.used,N e.dirty,G I e.frame],.int .i64 l] w (Pure (G I (ao e l)) w):=by
 obtain⟨th,leaf,r,u,d,f⟩:=e;have hmf:∀(fn:Fn) (first cap:Array S) (w:J),(Instr.makeFunc fn first cap).run prog w= .ok (.func fn first cap) w:=fun _ _ _ _=>rfl;have h1:=(T (bc w) #[N th,N leaf,G I r,N u,N d,G I f] 81).new #[G I l] 3;have x1:=((O w).alloc (.cells #[N th,N leaf,G I r,N u,N d,G I f] 81)).alloc (.cells #[G I l] 3);simp only[V] at h1;have c6:=h1.cell 0;obtain⟨c0,c1,c2,c3,c4,c5⟩:=h1.right.cells6;have HC:=B (q8 w.heap.size (w.heap.size+1) th leaf u d r f l _ c0 c1 c2 c3 c4 c5 c6 h1.right.lt h1.lt);clear c0 c1 c2 c3 c4 c5 c6;go_enter func202,ntmps202;go_wp2_with fail
 refine(HC.out).mono ?_;rintro e w2 ⟨rfl,bl⟩;go_wp2;go_ret;exact⟨rfl,aA (h1.below bl).right.right (x1.below bl)⟩
theorem oJ(r f:Int)(u d lf:Bool)(r0:0≤r)(r7:r≤7)(f0:0≤f)(f1:f<1048576):
  bits .or .u64 (bits .or .u64 (bits .or .u64 (bits .or .u64 (bits .or .u64 1 (r*2)) (iG u 32)) (iG d 64)) (iG lf 128)) (f*4096)=f*4096+r*2+1+iG u 32+iG d 64+iG lf 128:=by
 have hu:iG u 32=0∨iG u 32=32:=by cases u<;>simp[iG]
 have hd:iG d 64=0∨iG d 64=64:=by cases d<;>simp[iG]
 have hl:iG lf 128=0∨iG lf 128=128:=by cases lf<;>simp[iG]
 generalize iG u 32=a at*
 generalize iG d 64=b at*
 generalize iG lf 128=c at*
 rw[bits_join_low .u64 64 (by decide) wraps_u64 1 1 (r*2) (by omega) (by omega) (by omega) (by omega) (by omega) (by omega)];rw[bits_join_low .u64 64 (by decide) wraps_u64 5 (1+r*2) a (by omega) (by omega) (by omega) (by omega) (by omega) (by omega)];rw[bits_join_low .u64 64 (by decide) wraps_u64 6 (1+r*2+a) b (by omega) (by omega) (by omega) (by omega) (by omega) (by omega)];rw[bits_join_low .u64 64 (by decide) wraps_u64 7 (1+r*2+a+b) c (by omega) (by omega) (by omega) (by omega) (by omega) (by omega)];rw[bits_join_low .u64 64 (by decide) wraps_u64 12 (1+r*2+a+b+c) (f*4096) (by omega) (by omega) (by omega) (by omega) (by omega) (by omega)];omega
set_option maxHeartbeats 2000000 in
theorem j9(e:En)(l:Int)(w:J):M prog 214 #[.agg #[N e.there,N e.leaf,G I e.rights,N e.used,N e.dirty,G I e.frame],.int .i64 l] w (Pure (.tuple #[G vU (bF e l),G I (ao e l)]) w):=by
 obtain⟨th,leaf,r,u,d,f⟩:=e;have h1:=T (bc w) #[N th,N leaf,G I r,N u,N d,G I f] 81;have x1:=(O w).alloc (.cells #[N th,N leaf,G I r,N u,N d,G I f] 81);have HC:=B (fun W=>gg ⟨th,leaf,r,u,d,f⟩ l W);by_cases hc:ao ⟨th,leaf,r,u,d,f⟩ l=0
 ·rw[hc] at HC⊢
  cases th with
  |false=>
   have hy:=B (show bF ⟨C,leaf,r,u,d,f⟩ l=0 by unfold bF;rw[if_neg (by simp)]);clear hc;go_enter func214,ntmps214;go_wp2_with fail
   refine(HC.out _).mono ?_;rintro e w2 ⟨rfl,bl⟩;have h2:=h1.below bl;obtain⟨c0,c1,c2,c3,c4,c5⟩:=h2.cells6;go_wp2;go_ret2
   exact⟨by rw[hy.out];rfl,aA h2.right (x1.below bl)⟩
  |true=>
   have hk:=dB hc rfl;have hy:=B (show bF ⟨D,leaf,r,u,d,f⟩ l=fV ⟨D,leaf,r,u,d,f⟩ l by unfold bF;rw[if_pos ⟨hc,rfl⟩]);have r0:0≤r:=hk.r0;have r7:r≤7:=hk.r7;have f0:0≤f:=hk.f0;have f1:f<1048576:=hk.f1;have l0:=hk.l0;have l4:=hk.l4;clear hc hk;cases leaf with
   |false=>
    go_enter func214,ntmps214;go_wp2_with fail
    refine(HC.out _).mono ?_;rintro e w2 ⟨rfl,bl⟩;have h2:=h1.below bl;obtain⟨c0,c1,c2,c3,c4,c5⟩:=h2.cells6;have v0:=am c0;have v1:=am c1;have v2:=am c2;have v3:=am c3;have v4:=am c4;have v5:=am c5;clear c1 c2 c3 c4 c5;go_wp2;refine aI (by kernel_rfl) (by kernel_rfl) ?_;repeat(first|go_big_quiet_step ((go_at_call 234;exact Same.via (jF _ _ _)))|quiet_step ((go_at_call 234;exact Same.via (jF _ _ _))))
    refine wpQuiet_nil ?_;intro _ hw';obtain⟨uq,hw''⟩:=hw';subst hw'';go_wp2;go_ret2
    refine⟨?_,aA (h2.via _).right ((x1.below bl).below (aV _ _))⟩;rw[hy.out];show y (.tuple #[G vU _,G I 0])=_;refine congrArg (fun n:Int=>y (.tuple #[G vU n,G I 0])) ?_;exact(oJ r f u d _ r0 r7 f0 f1).trans (by unfold fV;simp)
   |true=>
    by_cases lz:l=0
    ·subst lz
     go_enter func214,ntmps214;go_wp2_with fail
     refine(HC.out _).mono ?_;rintro e w2 ⟨rfl,bl⟩;have h2:=h1.below bl;obtain⟨c0,c1,c2,c3,c4,c5⟩:=h2.cells6;have v0:=am c0;have v1:=am c1;have v2:=am c2;have v3:=am c3;have v4:=am c4;have v5:=am c5;clear c1 c2 c3 c4 c5;go_wp2;refine aI (by kernel_rfl) (by kernel_rfl) ?_;repeat(first|go_big_quiet_step ((go_at_call 234;exact Same.via (jF _ _ _)))|quiet_step ((go_at_call 234;exact Same.via (jF _ _ _))))
     refine wpQuiet_nil ?_;intro _ hw';obtain⟨uq,hw''⟩:=hw';subst hw'';go_wp2;go_ret2
     refine⟨?_,aA (h2.via _).right ((x1.below bl).below (aV _ _))⟩;rw[hy.out];show y (.tuple #[G vU _,G I 0])=_;refine congrArg (fun n:Int=>y (.tuple #[G vU n,G I 0])) ?_;exact(oJ r f u d _ r0 r7 f0 f1).trans (by unfold fV;simp)
    ·have l1:0<l:=by omega
     have hz:=B (show(l !=0)=D by simpa using lz);clear lz;go_enter func214,ntmps214;go_wp2_with fail
     refine(HC.out _).mono ?_;rintro e w2 ⟨rfl,bl⟩;have h2:=h1.below bl;obtain⟨c0,c1,c2,c3,c4,c5⟩:=h2.cells6;have v0:=am c0;have v1:=am c1;have v2:=am c2;have v3:=am c3;have v4:=am c4;have v5:=am c5;clear c1 c2 c3 c4 c5;go_wp2;refine aI (by kernel_rfl) (by kernel_rfl) ?_;repeat(first|go_big_quiet_step ((go_at_call 234;exact Same.via (jF _ _ _)))|quiet_step ((go_at_call 234;exact Same.via (jF _ _ _))))
     refine wpQuiet_nil ?_;intro _ hw';obtain⟨uq,hw''⟩:=hw';subst hw'';go_wp2;go_ret2
     refine⟨?_,aA (h2.via _).right ((x1.below bl).below (aV _ _))⟩;rw[hy.out];show y (.tuple #[G vU _,G I 0])=_;refine congrArg (fun n:Int=>y (.tuple #[G vU n,G I 0])) ?_;exact(oJ r f u d _ r0 r7 f0 f1).trans (by unfold fV;rw[hz.out];simp)
 ·have hy:=B (show bF ⟨th,leaf,r,u,d,f⟩ l=0 from rf hc)
  have hn:(ao ⟨th,leaf,r,u,d,f⟩ l !=0)=D:=by simpa using hc
  clear hc;generalize ao ⟨th,leaf,r,u,d,f⟩ l=c at*
  go_enter func214,ntmps214;go_wp2_with fail
  refine(HC.out _).mono ?_;rintro e w2 ⟨rfl,bl⟩;have h2:=h1.below bl;go_wp2;go_ret2
  exact⟨by rw[hy.out];rfl,aA h2.right (x1.below bl)⟩
end Go.Proofs.YtmfheghbgihdmaaGreatDoor
