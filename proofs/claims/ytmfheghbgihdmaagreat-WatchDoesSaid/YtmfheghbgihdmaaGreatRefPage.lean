/- Contracts of the document's own answer on pages: it computes the same plain functions as package page. -/
import Derived.Test.YtmfheghbgihdmaaGreatFrames3
import Derived.Test.YtmfheghbgihdmaaGreatTblM3
import Derived.Test.YtmfheghbgihdmaaGreatSep
import Derived.Defers
import Derived.Recover
import Derived.WalkLawsBesides
import Derived.Laws.Pointers
import Derived.Deep.RegionWith
import Derived.StillTailTactics
import Derived.Lib.VarintBits
import Derived.Laws.Rows
namespace Go.Proofs.YtmfheghbgihdmaaGreat
open Go.IntKind renaming u64→vU
open Go.Lib renaming hid→g
open Bool renaming false→o,true→A
open Go.Value renaming int→y,bool→K
open Go.IntKind renaming i64→z
open Option renaming none→B,some→H
open Go renaming World→C,Calls→I,Value→M,bodyPost_ret→O,Addr→Q
open Go.Proofs.YtmfheghbgihdmaaGreat.Has renaming new→D
open Go.Addr renaming mk→E
open Go.Proofs.YtmfheghbgihdmaaGreat.Ext renaming refl→G
open Go.Ending renaming returned→J
open Int renaming eq_ofNat_of_zero_le→L
open Go.World renaming size_alloc→N
open Tryz
open Go.RowKit
set_option maxRecDepth 100000
theorem bM(s:Int)(w:C):I prog 137 #[.int .i64 s] w (Same (y z (bn s)) w):=by
 by_cases h0:s<0
 ·have hy:=g (show bn s=0 by unfold bn;rw[if_neg (by omega),if_neg (by omega),if_neg (by omega)])
  go_enter func137,ntmps137;go_wp2;go_ret;exact⟨by rw[hy.out];rfl,rfl⟩
 by_cases h2:2<s
 ·have hy:=g (show bn s=0 by unfold bn;rw[if_neg (by omega),if_neg (by omega),if_neg (by omega)])
  go_enter func137,ntmps137;go_wp2;go_ret;exact⟨by rw[hy.out];rfl,rfl⟩
 obtain⟨k,rfl⟩:=L (show 0≤s by omega);have hk:k≤2:=by omega
 have hy:=g (show bn (k:Int)=aC k by
  have:k=0∨k=1∨k=2:=by omega
  rcases this with rfl|rfl|rfl<;>rfl)
 go_enter func137,ntmps137;go_wp2;go_loop [3,4] (fun x t=>∃j:Nat,j≤k∧t=y z j∧x=y z (aC j)) (fun _ t=>k - (intOf t).toNat)
 case atStart=>exact⟨0,by omega,rfl,rfl⟩
 case round=>
  obtain⟨j,hj,rfl,rfl⟩:=hrel;have hb:0≤aC j∧aC j≤64:=by
   have:j=0∨j=1∨j=2:=by omega
   rcases this with rfl|rfl|rfl<;>decide
  obtain⟨hb0,hb1⟩:=hb;by_cases hjk:j<k
  ·go_wp2
   go_round
   case rel=>exact⟨j+1,by omega,by go_num,by rw[show aC (j+1)=aC j*8 from Int.mul_comm _ _]⟩
   case measure=>simp[intOf];omega
  ·obtain rfl:j=k:=by omega
   go_wp2;go_ret;exact⟨by rw[hy.out];rfl,rfl⟩
theorem pI(p:Int)(h0:0≤p)(h1:p<4096):am p 0=p % 8∧am p 1=p / 8 % 8∧am p 2=p / 64 % 8∧am p 3=p / 512:=by
 unfold am;rw[if_pos ⟨h0,h1,by decide,by decide⟩,if_pos ⟨h0,h1,by decide,by decide⟩,if_pos ⟨h0,h1,by decide,by decide⟩,if_pos ⟨h0,h1,by decide,by decide⟩];show p / 1 % 8=_∧p / 8 % 8=_∧p / 64 % 8=_∧p / 512 % 8=_;refine⟨by omega,rfl,rfl,by omega⟩
theorem dP(p l:Int)(w:C):I prog 120 #[.int .i64 p,.int .i64 l] w (Pure (y z (am p l)) w):=by
 by_cases hp:p<0
 ·have hy:=g (show am p l= -1 by unfold am;rw[if_neg (by omega)])
  go_enter func120,ntmps120;go_wp2;go_ret;exact⟨by rw[hy.out];rfl,Below.refl _ _⟩
 by_cases hp2:4096≤p
 ·have hy:=g (show am p l= -1 by unfold am;rw[if_neg (by omega)])
  go_enter func120,ntmps120;go_wp2;go_ret;exact⟨by rw[hy.out];rfl,Below.refl _ _⟩
 by_cases hl:l<0
 ·have hy:=g (show am p l= -1 by unfold am;rw[if_neg (by omega)])
  go_enter func120,ntmps120;go_wp2;go_ret;exact⟨by rw[hy.out];rfl,Below.refl _ _⟩
 by_cases hl2:4≤l
 ·have hy:=g (show am p l= -1 by unfold am;rw[if_neg (by omega)])
  go_enter func120,ntmps120;go_wp2;go_ret;exact⟨by rw[hy.out];rfl,Below.refl _ _⟩
 obtain⟨i0,i1,i2,i3⟩:=pI p (by omega) (by omega);have hl':l=0∨l=1∨l=2∨l=3:=by omega
 clear hl hl2;rcases hl' with rfl|rfl|rfl|rfl
 ·skip
  have hy:=i0;have h1:=D (aT w) #[y z (p % 8),y z (p / 8 % 8),y z (p / 64 % 8),y z (p / 512)] 3;obtain⟨c0,c1,c2,c3⟩:=h1.cells4;have e1:=h1.lt;go_enter func120,ntmps120;go_wp2;go_ret;exact⟨rfl,aq h1.right (ah)⟩
 ·skip
  have hy:=i1;have h1:=D (aT w) #[y z (p % 8),y z (p / 8 % 8),y z (p / 64 % 8),y z (p / 512)] 3;obtain⟨c0,c1,c2,c3⟩:=h1.cells4;have e1:=h1.lt;go_enter func120,ntmps120;go_wp2;go_ret;exact⟨rfl,aq h1.right (ah)⟩
 ·skip
  have hy:=i2;have h1:=D (aT w) #[y z (p % 8),y z (p / 8 % 8),y z (p / 64 % 8),y z (p / 512)] 3;obtain⟨c0,c1,c2,c3⟩:=h1.cells4;have e1:=h1.lt;go_enter func120,ntmps120;go_wp2;go_ret;exact⟨rfl,aq h1.right (ah)⟩
 ·skip
  have hy:=i3;have h1:=D (aT w) #[y z (p % 8),y z (p / 8 % 8),y z (p / 64 % 8),y z (p / 512)] 3;obtain⟨c0,c1,c2,c3⟩:=h1.cells4;have e1:=h1.lt;go_enter func120,ntmps120;go_wp2;go_ret;exact⟨rfl,aq h1.right (ah)⟩
theorem pJ(mp mf mr:Int)(w:C)(h:0≤mp∧mp<4096∧0≤mf∧mf<1048576∧0≤mr∧mr≤7):
  I prog 125 #[.agg #[y z mp,y z 0,y z mf,y z mr]] w (Pure (y z (if mp % 1≠0∨mf % 1≠0 then 3 else 0)) w):=by
 obtain⟨p0,p1,f0,f1,r0,r1⟩:=h;have h1:=D (aT w) #[y z mp,y z 0,y z mf,y z mr] 39;have x1:=(G w).alloc (.cells #[y z mp,y z 0,y z mf,y z mr] 39);have bl:=aq h1.right x1;obtain⟨c0,c1,c2,c3⟩:=h1.cells4;have v0:=ae c0;have v2:=ae c2;clear c0 c1 c2 c3 h1 x1;have hs:bn 0=1:=rfl;rw[if_neg (by omega)];go_enter func125,ntmps125;go_wp2_with(first|(go_at_call 137;refine(bM _ _).mono ?_;rintro e w' ⟨rfl,rfl⟩))
 refine ap (by kernel_rfl) (by kernel_rfl) ?_;repeat(first|go_big_quiet_step (fail)|quiet_step (fail))
 refine wpQuiet_nil ?_;intro _ hw';obtain⟨uq,hw''⟩:=hw';subst hw'';go_wp2;go_ret;exact⟨rfl,bl.trans ((aB _ _).mono (by simp))⟩
theorem pK(mp mf mr:Int)(w:C)(h:0≤mp∧mp<4096∧0≤mf∧mf<1048576∧0≤mr∧mr≤7):
  I prog 125 #[.agg #[y z mp,y z 1,y z mf,y z mr]] w (Pure (y z (if mp % 8≠0∨mf % 8≠0 then 3 else 0)) w):=by
 obtain⟨p0,p1,f0,f1,r0,r1⟩:=h;have h1:=D (aT w) #[y z mp,y z 1,y z mf,y z mr] 39;have x1:=(G w).alloc (.cells #[y z mp,y z 1,y z mf,y z mr] 39);have bl:=aq h1.right x1;obtain⟨c0,c1,c2,c3⟩:=h1.cells4;have v0:=ae c0;have v2:=ae c2;clear c0 c1 c2 c3 h1 x1;have hs:bn 1=8:=rfl;cases g0:(mp / 8*8 !=mp) with
 |false=>
  cases g1:(mf / 8*8 !=mf) with
  |false=>
   rw[show(if mp % 8≠0∨mf % 8≠0 then 3 else 0)=(0:Int) by simp only[bne_eq_false_iff_eq] at g0 g1;rw[if_neg (by omega)]];go_enter func125,ntmps125;go_wp2_with(first|(go_at_call 137;refine(bM _ _).mono ?_;rintro e w' ⟨rfl,rfl⟩))
   refine ap (by kernel_rfl) (by kernel_rfl) ?_;repeat(first|go_big_quiet_step (fail)|quiet_step (fail))
   refine wpQuiet_nil ?_;intro _ hw';obtain⟨uq,hw''⟩:=hw';subst hw'';go_wp2;go_ret;exact⟨rfl,bl.trans ((aB _ _).mono (by simp))⟩
  |true=>
   rw[show(if mp % 8≠0∨mf % 8≠0 then 3 else 0)=(3:Int) by simp only[bne_iff_ne] at g1;rw[if_pos (by omega)]];go_enter func125,ntmps125;go_wp2_with(first|(go_at_call 137;refine(bM _ _).mono ?_;rintro e w' ⟨rfl,rfl⟩))
   refine ap (by kernel_rfl) (by kernel_rfl) ?_;repeat(first|go_big_quiet_step (fail)|quiet_step (fail))
   refine wpQuiet_nil ?_;intro _ hw';obtain⟨uq,hw''⟩:=hw';subst hw'';go_wp2;go_ret;exact⟨rfl,bl.trans ((aB _ _).mono (by simp))⟩
 |true=>
  rw[show(if mp % 8≠0∨mf % 8≠0 then 3 else 0)=(3:Int) by simp only[bne_iff_ne] at g0;rw[if_pos (by omega)]];go_enter func125,ntmps125;go_wp2_with(first|(go_at_call 137;refine(bM _ _).mono ?_;rintro e w' ⟨rfl,rfl⟩))
  refine ap (by kernel_rfl) (by kernel_rfl) ?_;repeat(first|go_big_quiet_step (fail)|quiet_step (fail))
  refine wpQuiet_nil ?_;intro _ hw';obtain⟨uq,hw''⟩:=hw';subst hw'';go_wp2;go_ret;exact⟨rfl,bl.trans ((aB _ _).mono (by simp))⟩
theorem pL(mp mf mr:Int)(w:C)(h:0≤mp∧mp<4096∧0≤mf∧mf<1048576∧0≤mr∧mr≤7):
  I prog 125 #[.agg #[y z mp,y z 2,y z mf,y z mr]] w (Pure (y z (if mp % 64≠0∨mf % 64≠0 then 3 else 0)) w):=by
 obtain⟨p0,p1,f0,f1,r0,r1⟩:=h;have h1:=D (aT w) #[y z mp,y z 2,y z mf,y z mr] 39;have x1:=(G w).alloc (.cells #[y z mp,y z 2,y z mf,y z mr] 39);have bl:=aq h1.right x1;obtain⟨c0,c1,c2,c3⟩:=h1.cells4;have v0:=ae c0;have v2:=ae c2;clear c0 c1 c2 c3 h1 x1;have hs:bn 2=64:=rfl;cases g0:(mp / 64*64 !=mp) with
 |false=>
  cases g1:(mf / 64*64 !=mf) with
  |false=>
   rw[show(if mp % 64≠0∨mf % 64≠0 then 3 else 0)=(0:Int) by simp only[bne_eq_false_iff_eq] at g0 g1;rw[if_neg (by omega)]];go_enter func125,ntmps125;go_wp2_with(first|(go_at_call 137;refine(bM _ _).mono ?_;rintro e w' ⟨rfl,rfl⟩))
   refine ap (by kernel_rfl) (by kernel_rfl) ?_;repeat(first|go_big_quiet_step (fail)|quiet_step (fail))
   refine wpQuiet_nil ?_;intro _ hw';obtain⟨uq,hw''⟩:=hw';subst hw'';go_wp2;go_ret;exact⟨rfl,bl.trans ((aB _ _).mono (by simp))⟩
  |true=>
   rw[show(if mp % 64≠0∨mf % 64≠0 then 3 else 0)=(3:Int) by simp only[bne_iff_ne] at g1;rw[if_pos (by omega)]];go_enter func125,ntmps125;go_wp2_with(first|(go_at_call 137;refine(bM _ _).mono ?_;rintro e w' ⟨rfl,rfl⟩))
   refine ap (by kernel_rfl) (by kernel_rfl) ?_;repeat(first|go_big_quiet_step (fail)|quiet_step (fail))
   refine wpQuiet_nil ?_;intro _ hw';obtain⟨uq,hw''⟩:=hw';subst hw'';go_wp2;go_ret;exact⟨rfl,bl.trans ((aB _ _).mono (by simp))⟩
 |true=>
  rw[show(if mp % 64≠0∨mf % 64≠0 then 3 else 0)=(3:Int) by simp only[bne_iff_ne] at g0;rw[if_pos (by omega)]];go_enter func125,ntmps125;go_wp2_with(first|(go_at_call 137;refine(bM _ _).mono ?_;rintro e w' ⟨rfl,rfl⟩))
  refine ap (by kernel_rfl) (by kernel_rfl) ?_;repeat(first|go_big_quiet_step (fail)|quiet_step (fail))
  refine wpQuiet_nil ?_;intro _ hw';obtain⟨uq,hw''⟩:=hw';subst hw'';go_wp2;go_ret;exact⟨rfl,bl.trans ((aB _ _).mono (by simp))⟩
theorem gx(m:Mp)(w:C):I prog 125 #[.agg #[y z m.page,y z m.size,y z m.frame,y z m.rights]] w (Pure (y z (ba m)) w):=by
 have bl:=aq (D (aT w) #[y z m.page,y z m.size,y z m.frame,y z m.rights] 39).right ((G w).alloc (.cells #[y z m.page,y z m.size,y z m.frame,y z m.rights] 39));by_cases s0:bn m.size=0
 ·skip
  have hy:=g (show ba m=2 by unfold ba;rw[if_pos s0]);go_enter func125,ntmps125;go_wp2_with(first|(go_at_call 137;refine(bM _ _).mono ?_;rintro e w' ⟨rfl,rfl⟩))
  go_ret;exact⟨by rw[hy.out];rfl,bl⟩
 have s1:m.size=0∨m.size=1∨m.size=2:=by unfold bn at s0;split at s0<;>(try split at s0)<;>(try split at s0)<;>simp_all
 have s0':(bn m.size==0)=o:=by simpa using s0
 by_cases p0:m.page<0
 ·skip
  have hy:=g (show ba m=1 by unfold ba;rw[if_neg s0,if_pos (by omega)]);go_enter func125,ntmps125;go_wp2_with(first|(go_at_call 137;refine(bM _ _).mono ?_;rintro e w' ⟨rfl,rfl⟩))
  go_ret;exact⟨by rw[hy.out];rfl,bl⟩
 by_cases p1:4096≤m.page
 ·skip
  have hy:=g (show ba m=1 by unfold ba;rw[if_neg s0,if_pos (by omega)]);go_enter func125,ntmps125;go_wp2_with(first|(go_at_call 137;refine(bM _ _).mono ?_;rintro e w' ⟨rfl,rfl⟩))
  go_ret;exact⟨by rw[hy.out];rfl,bl⟩
 by_cases f0:m.frame<0
 ·skip
  have hy:=g (show ba m=1 by unfold ba;rw[if_neg s0,if_pos (by omega)]);go_enter func125,ntmps125;go_wp2_with(first|(go_at_call 137;refine(bM _ _).mono ?_;rintro e w' ⟨rfl,rfl⟩))
  go_ret;exact⟨by rw[hy.out];rfl,bl⟩
 by_cases f1:1048576≤m.frame
 ·skip
  have hy:=g (show ba m=1 by unfold ba;rw[if_neg s0,if_pos (by omega)]);go_enter func125,ntmps125;go_wp2_with(first|(go_at_call 137;refine(bM _ _).mono ?_;rintro e w' ⟨rfl,rfl⟩))
  go_ret;exact⟨by rw[hy.out];rfl,bl⟩
 by_cases r0:m.rights<0
 ·skip
  have hy:=g (show ba m=1 by unfold ba;rw[if_neg s0,if_pos (by omega)]);go_enter func125,ntmps125;go_wp2_with(first|(go_at_call 137;refine(bM _ _).mono ?_;rintro e w' ⟨rfl,rfl⟩))
  go_ret;exact⟨by rw[hy.out];rfl,bl⟩
 by_cases r1:7<m.rights
 ·skip
  have hy:=g (show ba m=1 by unfold ba;rw[if_neg s0,if_pos (by omega)]);go_enter func125,ntmps125;go_wp2_with(first|(go_at_call 137;refine(bM _ _).mono ?_;rintro e w' ⟨rfl,rfl⟩))
  go_ret;exact⟨by rw[hy.out];rfl,bl⟩
 have e:ba m=if m.page % bn m.size≠0∨m.frame % bn m.size≠0 then 3 else 0:=by unfold ba;rw[if_neg s0,if_neg (by omega)]
 rw[e];obtain⟨mp,ms,mf,mr⟩:=m;dsimp only at*
 rcases s1 with rfl|rfl|rfl
 ·exact pJ _ _ _ _ ⟨by omega,by omega,by omega,by omega,by omega,by omega⟩
 ·exact pK _ _ _ _ ⟨by omega,by omega,by omega,by omega,by omega,by omega⟩
 ·exact pL _ _ _ _ ⟨by omega,by omega,by omega,by omega,by omega,by omega⟩
theorem ua(s:Int):0≤bn s∧bn s≤64:=by unfold bn;split<;>(try split)<;>(try split)<;>omega
theorem iW(m:Mp)(p:Int)(w:C)(hm:cL m.page)(hp:cL p):
  I prog 147 #[.agg #[y z m.page,y z m.size,y z m.frame,y z m.rights],.int .i64 p] w (Pure (K (over m p)) w):=by
 have h1:=D (aT w) #[y z m.page,y z m.size,y z m.frame,y z m.rights] 39;have x1:=(G w).alloc (.cells #[y z m.page,y z m.size,y z m.frame,y z m.rights] 39);have bl:=aq h1.right x1;obtain⟨c0,c1,c2,c3⟩:=h1.cells4;obtain⟨hm0,hm1⟩:=hm;obtain⟨hp0,hp1⟩:=hp;clear h1 x1;by_cases h0:p<m.page
 ·have hy:=g (show over m p=o by unfold over;simp;omega)
  go_enter func147,ntmps147;go_wp2_with fail
  go_ret;exact⟨by rw[hy.out];rfl,bl⟩
 ·obtain⟨s0,s1⟩:=ua m.size
  go_enter func147,ntmps147;go_wp2_with fail
  refine(bM _ _).mono ?_;rintro e w' ⟨rfl,rfl⟩;generalize hs:bn m.size=n at*
  have hS:=g hs;clear hs;go_wp2_with fail
  go_loop [1,6] (fun x t=>∃j:Nat,(j:Int)≤n∧(j:Int)≤p - m.page∧t=y z j∧x=y z (p - j)) (fun _ t=>n.toNat - (intOf t).toNat)
  case atStart=>exact⟨0,by omega,by omega,rfl,by simp⟩
  case round=>
   obtain⟨j,hj,hjp,rfl,rfl⟩:=hrel;by_cases hjn:(j:Int)<n
   ·by_cases he:p - j=m.page
    ·have hy:=g (show over m p=A by unfold over;rw[hS.out];simp;omega)
     have he':(p - (j:Int)==m.page)=A:=by simpa using he
     go_wp2_with fail
     go_ret;exact⟨by rw[hy.out];rfl,bl⟩
    ·have he':(p - (j:Int)==m.page)=o:=by simpa using he
     have he2:(p - (j:Int)== -9223372036854775808)=o:=by simp;omega
     go_wp2_with fail
     go_round
     case rel=>exact⟨j+1,by omega,by omega,by go_num,by go_num⟩
     case measure=>simp[intOf];omega
   ·have hy:=g (show over m p=o by unfold over;rw[hS.out];simp;omega)
    go_wp2_with fail
    go_ret;exact⟨by rw[hy.out];rfl,bl⟩
theorem oB(a b:Mp)(w:C)(ha:cL a.page)(hb:cL b.page):
  I prog 146 #[.agg #[y z a.page,y z a.size,y z a.frame,y z a.rights],.agg #[y z b.page,y z b.size,y z b.frame,y z b.rights]] w (Pure (K (du a b)) w):=by
 have h1:=D (aT w) #[y z a.page,y z a.size,y z a.frame,y z a.rights] 39;have h2:=h1.new #[y z b.page,y z b.size,y z b.frame,y z b.rights] 39;have x2:=((G w).alloc (.cells #[y z a.page,y z a.size,y z a.frame,y z a.rights] 39)).alloc (.cells #[y z b.page,y z b.size,y z b.frame,y z b.rights] 39);simp only[N] at h2;go_enter func146,ntmps146;go_wp2_with fail
 refine(iW a b.page _ ha hb).mono ?_;rintro e w2 ⟨rfl,b2⟩;have h3:=h2.below b2;obtain⟨c0,c1,c2,c3⟩:=h3.cells4;obtain⟨d0,d1,d2,d3⟩:=h3.right.cells4;cases ho:over a b.page with
 |true=>
  have hy:=g (show du a b=A by unfold du;rw[ho];rfl);go_wp2_with fail
  go_ret;exact⟨by rw[hy.out];rfl,aq h3.right.right (x2.below b2)⟩
 |false=>
  go_wp2_with fail
  refine(iW b a.page _ hb ha).mono ?_;rintro e w3 ⟨rfl,b3⟩;have h4:=h3.below b3;have hy:=g (show du a b=over b a.page by unfold du;rw[ho];rfl);go_wp2_with fail
  go_ret;exact⟨by rw[hy.out];rfl,aq h4.right.right ((x2.below b2).below b3)⟩
theorem vt(r:Int):(bits .and .i64 r 1==0)= !aK r 1:=by
 have h':bits .and .i64 r 1=(((r % 8).toNat &&& 1:Nat):Int):=fA r 1 (by omega);rw[h'];unfold aK;have e1:r / 1 % 2=r % 8 % 2:=by omega
 have e2:r / 2 % 2=r % 8 / 2 % 2:=by omega
 have e4:r / 4 % 2=r % 8 / 4 % 2:=by omega
 first|rw[e4]|rw[e1]|rw[e2]
 rcases oh r with h|h|h|h|h|h|h|h<;>rw[h]<;>rfl
theorem vu(r:Int):(bits .and .i64 r 2==0)= !aK r 2:=by
 have h':bits .and .i64 r 2=(((r % 8).toNat &&& 2:Nat):Int):=fA r 2 (by omega);rw[h'];unfold aK;have e1:r / 1 % 2=r % 8 % 2:=by omega
 have e2:r / 2 % 2=r % 8 / 2 % 2:=by omega
 have e4:r / 4 % 2=r % 8 / 4 % 2:=by omega
 first|rw[e4]|rw[e1]|rw[e2]
 rcases oh r with h|h|h|h|h|h|h|h<;>rw[h]<;>rfl
theorem vv(r:Int):(bits .and .i64 r 4==0)= !aK r 4:=by
 have h':bits .and .i64 r 4=(((r % 8).toNat &&& 4:Nat):Int):=fA r 4 (by omega);rw[h'];unfold aK;have e1:r / 1 % 2=r % 8 % 2:=by omega
 have e2:r / 2 % 2=r % 8 / 2 % 2:=by omega
 have e4:r / 4 % 2=r % 8 / 4 % 2:=by omega
 first|rw[e4]|rw[e1]|rw[e2]
 rcases oh r with h|h|h|h|h|h|h|h<;>rw[h]<;>rfl
theorem jt(r p k:Int)(u:Bool)(w:C):I prog 123 #[.int .i64 r,.agg #[y z p,y z k,K u]] w (Pure (K (may r ⟨p,k,u⟩)) w):=by
 have h1:=D (aT w) #[y z p,y z k,K u] 41;have bl:=aq h1.right ((G w).alloc (.cells #[y z p,y z k,K u] 41));clear h1;have z1:=vt r;have z2:=vu r;have z4:=vv r;have z2':(bits .and .i64 r 2 !=0)=aK r 2:=by
  unfold bne;rw[z2];simp
 by_cases k1:k=1
 ·subst k1
  clear z4 z2;cases g1:aK r 1 with
  |true=>
   rw[g1] at z1;cases u with
   |true=>
    rw[show may r ⟨p,1,A⟩=(aK r 2) by unfold may;rw[g1];simp];go_enter func123,ntmps123;go_wp2;go_ret;exact⟨rfl,bl⟩
   |false=>
    rw[show may r ⟨p,1,o⟩=(A) by unfold may;rw[g1];simp];go_enter func123,ntmps123;go_wp2;go_ret;exact⟨rfl,bl⟩
  |false=>
   rw[g1] at z1;rw[show may r ⟨p,1,u⟩=(o) by unfold may;rw[g1];simp];go_enter func123,ntmps123;go_wp2;go_ret;exact⟨rfl,bl⟩
 by_cases k2:k=2
 ·subst k2
  clear z1 z2;cases g4:aK r 4 with
  |true=>
   rw[g4] at z4;cases u with
   |true=>
    rw[show may r ⟨p,2,A⟩=(aK r 2) by unfold may;rw[g4];simp];go_enter func123,ntmps123;go_wp2;go_ret;exact⟨rfl,bl⟩
   |false=>
    rw[show may r ⟨p,2,o⟩=(A) by unfold may;rw[g4];simp];go_enter func123,ntmps123;go_wp2;go_ret;exact⟨rfl,bl⟩
  |false=>
   rw[g4] at z4;rw[show may r ⟨p,2,u⟩=(o) by unfold may;rw[g4];simp];go_enter func123,ntmps123;go_wp2;go_ret;exact⟨rfl,bl⟩
 have g1:(k==1)=o:=by simpa using k1
 have g2:(k==2)=o:=by simpa using k2
 clear z1 z4 z2;cases u with
 |true=>
  rw[show may r ⟨p,k,A⟩=(aK r 2) by unfold may;simp[k1,k2]];go_enter func123,ntmps123;go_wp2;go_ret;exact⟨rfl,bl⟩
 |false=>
  rw[show may r ⟨p,k,o⟩=(A) by unfold may;simp[k1,k2]];go_enter func123,ntmps123;go_wp2;go_ret;exact⟨rfl,bl⟩
theorem eW(p k:Int)(u:Bool)(w:C):I prog 50 #[.agg #[y z p,y z k,K u]] w (Pure (y z (au ⟨p,k,u⟩)) w):=by
 have h1:=D (aT w) #[y z p,y z k,K u] 41;have bl:=aq h1.right ((G w).alloc (.cells #[y z p,y z k,K u] 41));clear h1;by_cases k0:k=0
 ·subst k0
  by_cases p0:p<0
  ·skip
   have hy:=g (show au ⟨p,0,u⟩=1 by unfold au;rw[if_neg (by simp),if_pos (by simp;omega)]);go_enter func50,ntmps50;go_wp2;go_ret;exact⟨by rw[hy.out];rfl,bl⟩
  by_cases p1:4096≤p
  ·skip
   have hy:=g (show au ⟨p,0,u⟩=1 by unfold au;rw[if_neg (by simp),if_pos (by simp;omega)]);go_enter func50,ntmps50;go_wp2;go_ret;exact⟨by rw[hy.out];rfl,bl⟩
  have hy:=g (show au ⟨p,0,u⟩=0 by unfold au;rw[if_neg (by simp),if_neg (by simp;omega)]);go_enter func50,ntmps50;go_wp2;go_ret;exact⟨by rw[hy.out];rfl,bl⟩
 by_cases k1:k=1
 ·subst k1
  by_cases p0:p<0
  ·skip
   have hy:=g (show au ⟨p,1,u⟩=1 by unfold au;rw[if_neg (by simp),if_pos (by simp;omega)]);go_enter func50,ntmps50;go_wp2;go_ret;exact⟨by rw[hy.out];rfl,bl⟩
  by_cases p1:4096≤p
  ·skip
   have hy:=g (show au ⟨p,1,u⟩=1 by unfold au;rw[if_neg (by simp),if_pos (by simp;omega)]);go_enter func50,ntmps50;go_wp2;go_ret;exact⟨by rw[hy.out];rfl,bl⟩
  have hy:=g (show au ⟨p,1,u⟩=0 by unfold au;rw[if_neg (by simp),if_neg (by simp;omega)]);go_enter func50,ntmps50;go_wp2;go_ret;exact⟨by rw[hy.out];rfl,bl⟩
 by_cases k2:k=2
 ·subst k2
  by_cases p0:p<0
  ·skip
   have hy:=g (show au ⟨p,2,u⟩=1 by unfold au;rw[if_neg (by simp),if_pos (by simp;omega)]);go_enter func50,ntmps50;go_wp2;go_ret;exact⟨by rw[hy.out];rfl,bl⟩
  by_cases p1:4096≤p
  ·skip
   have hy:=g (show au ⟨p,2,u⟩=1 by unfold au;rw[if_neg (by simp),if_pos (by simp;omega)]);go_enter func50,ntmps50;go_wp2;go_ret;exact⟨by rw[hy.out];rfl,bl⟩
  have hy:=g (show au ⟨p,2,u⟩=0 by unfold au;rw[if_neg (by simp),if_neg (by simp;omega)]);go_enter func50,ntmps50;go_wp2;go_ret;exact⟨by rw[hy.out];rfl,bl⟩
 have g0:(k !=0)=A:=by simpa using k0
 have g1:(k !=1)=A:=by simpa using k1
 have g2:(k !=2)=A:=by simpa using k2
 have hk:=g (show k<0∨2<k by omega);clear k0 k1 k2;have hy:=g (show au ⟨p,k,u⟩=2 by unfold au;rw[if_pos (by simpa using hk.out)]);go_enter func50,ntmps50;go_wp2;go_ret;exact⟨by rw[hy.out];rfl,bl⟩
theorem nC(f p q:Int):wrap64 (f+wrap64 (p - q))=wrap64 (wrap64 (f+p) - q):=by
 unfold wrap64;omega
theorem iX(m:Mp)(p k:Int)(u:Bool)(w:C):
  I prog 92 #[.agg #[y z m.page,y z m.size,y z m.frame,y z m.rights],.agg #[y z p,y z k,K u]] w (Pure (bJ m ⟨p,k,u⟩).val w):=by
 have h1:=D (aT w) #[y z m.page,y z m.size,y z m.frame,y z m.rights] 39;have h2:=h1.new #[y z p,y z k,K u] 41;have h3:=h2.new #[y z 0,y z 0,y z 0] 34;have x3:=(((G w).alloc (.cells #[y z m.page,y z m.size,y z m.frame,y z m.rights] 39)).alloc (.cells #[y z p,y z k,K u] 41)).alloc (.cells #[y z 0,y z 0,y z 0] 34);simp only[N] at h3;cases hm:may m.rights ⟨p,k,u⟩ with
 |true=>
  have hy:=g (show bJ m ⟨p,k,u⟩=⟨0,wrap64 (m.frame+wrap64 (p - m.page)),m.rights⟩ by unfold bJ;rw[hm,nC];rfl);go_enter func92,ntmps92;go_wp2_with fail
  refine(jt _ _ _ _ _).mono ?_;rintro e w1 ⟨rfl,b1⟩;have h4:=h3.below b1;have e1:=h4.lt;obtain⟨c0,c1,c2⟩:=h4.cells3;obtain⟨d0,d1,d2⟩:=h4.right.cells3;obtain⟨m0,m1,m2,m3⟩:=h4.right.right.cells4;obtain⟨f0,f1,f2⟩:=h4.frees3;have h5:=((h4.set 0 (y z 0)).set 1 (y z (wrap64 (m.frame+wrap64 (p - m.page))))).set 2 (y z m.rights);go_wp2_with fail
  exact O (v:= .agg #[y z 0,y z (wrap64 (m.frame+wrap64 (p - m.page))),y z m.rights]) (by simp[results,results92,go_sem,c0,c1,c2]) rfl
   ⟨by rw[hy.out];rfl,aq h5.r3 (ah)⟩
 |false=>
  have hy:=g (show bJ m ⟨p,k,u⟩=⟨2,0,0⟩ by unfold bJ;rw[hm];rfl);go_enter func92,ntmps92;go_wp2_with fail
  refine(jt _ _ _ _ _).mono ?_;rintro e w1 ⟨rfl,b1⟩;have h4:=h3.below b1;have e1:=h4.lt;obtain⟨c0,c1,c2⟩:=h4.cells3;obtain⟨f0,f1,f2⟩:=h4.frees3;have h5:=((h4.set 0 (y z 2)).set 1 (y z 0)).set 2 (y z 0);go_wp2_with fail
  exact O (v:= .agg #[y z 2,y z 0,y z 0]) (by simp[results,results92,go_sem,c0,c1,c2]) rfl
   ⟨by rw[hy.out];rfl,aq h5.r3 (ah)⟩
theorem cr(c:Int)(w:C):I prog 196 #[.bool o,.int .i64 c] w (Same (.tuple #[]) w):=by
 go_enter func196,ntmps196;go_wp2;go_end0
 exact⟨rfl,rfl⟩
def xK(c:Int)(w:C)(e:Ending)(w':C):Prop:=e= .panicked [{v:= .iface 254 (y z c),recovered:=o}]∧w=w'
theorem bQ(c:Int)(w:C):I prog 196 #[.bool A,.int .i64 c] w (xK c w):=by
 go_enter func196,ntmps196;go_wp2;exact⟨rfl,rfl,rfl⟩
theorem ej(l:Int)(w:C):I prog 174 #[.int .i64 l] w (Same (y z l) w):=by
 go_enter func174,ntmps174;go_wp2;go_ret;exact⟨rfl,rfl⟩
theorem jL(b:Bool)(n:Int)(w:C):I prog 183 #[.bool b,.int .u64 n] w (Same (y vU (iC b n)) w):=by
 cases b with
 |true=>
  go_enter func183,ntmps183;go_wp2;go_ret;exact⟨rfl,rfl⟩
 |false=>
  go_enter func183,ntmps183;go_wp2;go_ret;exact⟨rfl,rfl⟩
theorem oC(c:Int)(w:C):(Instr.typeAssert (.iface 254 (y z c)) 20 254 A).run prog w= .ok (.tuple #[y z c,K A]) w:=by kernel_rfl
theorem mD(p:Q)(x c:Int)(older:List PanicEntry)(w:C)(hc:w.cell? p=H (y z x))(hz:w.frozen? p=o):
  CallsD prog 195 #[.pointer (H p)] (.panicking ({v:= .iface 254 (y z c),recovered:=o}::older)) w fun e u' w'=>
   e= .returned (.tuple #[])∧u'= .panicking ({v:= .iface 254 (y z c),recovered:=A}::older)∧w'=w.setCell p (y z c):=by
 have hta:=oC c;refine callsD_of_wpS func195 rfl fun c₀ cs hu=> ?_;apply wpS_seq;apply wpS_region;simp[wpOpsS,go_sem,recoverD,hu,ntmps195,Exit.thenS];apply wpS_seq;apply wpS_region;simp[wpOpsS,go_sem,Exit.thenS];refine wpS_cond (t:=A) (by simp[Act.eval,Array.replicate]) ?_;simp only[if_true];apply wpS_seq;apply wpS_region;simp[wpOpsS,go_sem,Exit.thenS,hta];apply wpS_seq;apply wpS_seq;apply wpS_region;simp[wpOpsS,go_sem,Exit.thenS];refine wpS_cond (t:=o) (by simp[Act.eval,Array.replicate]) ?_;simp only[Bool.false_eq_true,if_false];refine wpS_of_wp (wp_skip ?_);simp only[Exit.thenS];apply wpS_region;simp[wpOpsS,go_sem,hc,hz,bodyPostS,results,results195]
theorem nD(p:Q)(w:C):
  CallsD prog 195 #[.pointer (H p)] .returning w fun e u' w'=>e= .returned (.tuple #[])∧u'= .returning ∧w'=w:=by
 refine callsD_of_wpS func195 rfl fun c₀ cs hu=> ?_;apply wpS_seq;apply wpS_region;simp[wpOpsS,go_sem,recoverD,hu,ntmps195,Exit.thenS];apply wpS_seq;apply wpS_region;simp[wpOpsS,go_sem,Exit.thenS];refine wpS_cond (t:=o) (by simp[Act.eval,Array.replicate]) ?_;simp only[Bool.false_eq_true,if_false];refine wpS_of_wp (wp_skip ?_);cases c₀;simp_all [bodyPostS,results,results195]
def cV(c:Int):Ending:=if c=0 then .returned (.tuple #[]) else .panicked [{v:= .iface 254 (y z c),recovered:=o}]
def wP(c:Int)(w:C)(e:Ending)(w':C):Prop:=e=cV c∧Below w.heap.size w w'
set_option maxHeartbeats 4000000 in
theorem lR(th leaf u d:Bool)(r f l:Int)(w:C):I prog 189 #[.agg #[K th,K leaf,y z r,K u,K d,y z f],y z l] w (wP (aj ⟨th,leaf,r,u,d,f⟩ l) w):=by
 have h1:=D (aT w) #[K th,K leaf,y z r,K u,K d,y z f] 70;have bl:=aq h1.right ((G w).alloc (.cells #[K th,K leaf,y z r,K u,K d,y z f] 70));clear h1;by_cases l0:l<0
 ·have hy:=g (show cV (aj ⟨th,leaf,r,u,d,f⟩ l)= .panicked [{v:= .iface 254 (y z 1),recovered:=o}] by unfold aj;rw[if_pos (.inl l0)];rfl)
  go_enter func189,ntmps189;go_wp2_with(go_at_call 196;first|((with_reducible refine(cr _ _).mono ?_);rintro e w' ⟨rfl,rfl⟩)|((with_reducible refine(bQ _ _).mono ?_);rintro e w' ⟨rfl,rfl⟩))
  exact⟨rfl,by rw[hy.out],bl⟩
 by_cases l4:4≤l
 ·have hy:=g (show cV (aj ⟨th,leaf,r,u,d,f⟩ l)= .panicked [{v:= .iface 254 (y z 1),recovered:=o}] by unfold aj;rw[if_pos (.inr l4)];rfl)
  go_enter func189,ntmps189;go_wp2_with(go_at_call 196;first|((with_reducible refine(cr _ _).mono ?_);rintro e w' ⟨rfl,rfl⟩)|((with_reducible refine(bQ _ _).mono ?_);rintro e w' ⟨rfl,rfl⟩))
  exact⟨rfl,by rw[hy.out],bl⟩
 have hl:¬(l<0∨4≤l):=by omega
 cases th with
 |false=>
  by_cases hz:leaf=o∧r=0∧u=o∧d=o∧f=0
  ·obtain⟨rfl,rfl,rfl,rfl,rfl⟩:=hz
   have hy:=g (show cV (aj ⟨o,o,0,o,o,0⟩ l)= .returned (.tuple #[]) by unfold aj;rw[if_neg hl];rfl);clear hl;go_enter func189,ntmps189;go_wp2_with(go_at_call 196;first|((with_reducible refine(cr _ _).mono ?_);rintro e w' ⟨rfl,rfl⟩)|((with_reducible refine(bQ _ _).mono ?_);rintro e w' ⟨rfl,rfl⟩))
   go_end0
   exact⟨by rw[hy.out],bl⟩
  ·have hy:=g (show cV (aj ⟨o,leaf,r,u,d,f⟩ l)= .panicked [{v:= .iface 254 (y z 7),recovered:=o}] by
    unfold aj;rw[if_neg hl,if_pos rfl,if_neg (fun e=>hz (by unfold En.zero at e;injection e with _ a b c d e;exact⟨a,b,c,d,e⟩))];rfl)
   clear hl;generalize aj ⟨o,leaf,r,u,d,f⟩ l=c at hy⊢;cases leaf with
   |true=>((clear hz);go_enter func189,ntmps189;(go_wp2_with(go_at_call 196;first|((with_reducible refine(cr _ _).mono ?_);rintro e w' ⟨rfl,rfl⟩)|((with_reducible refine(bQ _ _).mono ?_);rintro e w' ⟨rfl,rfl⟩)));exact⟨rfl,by rw[hy.out],bl⟩)
   |false=>
    by_cases r0:r=0
    ·subst r0
     cases u with
     |true=>((clear hz);go_enter func189,ntmps189;(go_wp2_with(go_at_call 196;first|((with_reducible refine(cr _ _).mono ?_);rintro e w' ⟨rfl,rfl⟩)|((with_reducible refine(bQ _ _).mono ?_);rintro e w' ⟨rfl,rfl⟩)));exact⟨rfl,by rw[hy.out],bl⟩)
     |false=>
      cases d with
      |true=>((clear hz);go_enter func189,ntmps189;(go_wp2_with(go_at_call 196;first|((with_reducible refine(cr _ _).mono ?_);rintro e w' ⟨rfl,rfl⟩)|((with_reducible refine(bQ _ _).mono ?_);rintro e w' ⟨rfl,rfl⟩)));exact⟨rfl,by rw[hy.out],bl⟩)
      |false=>
       have f0:(f==0)=o:=by
        rw[Bool.eq_false_iff];intro h;exact hz ⟨rfl,rfl,rfl,rfl,by simpa using h⟩
       ((clear hz);go_enter func189,ntmps189;(go_wp2_with(go_at_call 196;first|((with_reducible refine(cr _ _).mono ?_);rintro e w' ⟨rfl,rfl⟩)|((with_reducible refine(bQ _ _).mono ?_);rintro e w' ⟨rfl,rfl⟩)));exact⟨rfl,by rw[hy.out],bl⟩)
    ·have r0':(r==0)=o:=by simpa using r0
     clear r0
     ((clear hz);go_enter func189,ntmps189;(go_wp2_with(go_at_call 196;first|((with_reducible refine(cr _ _).mono ?_);rintro e w' ⟨rfl,rfl⟩)|((with_reducible refine(bQ _ _).mono ?_);rintro e w' ⟨rfl,rfl⟩)));exact⟨rfl,by rw[hy.out],bl⟩)
 |true=>
  have ht:¬((⟨A,leaf,r,u,d,f⟩:En).there =o):=by simp
  by_cases hb:r<0
  ·have hy:=g (show cV (aj ⟨A,leaf,r,u,d,f⟩ l)= .panicked [{v:= .iface 254 (y z 1),recovered:=o}] by
    unfold aj;rw[if_neg hl,if_neg ht,if_pos (.inl hb)];rfl)
   clear hl ht;generalize aj ⟨A,leaf,r,u,d,f⟩ l=c at hy⊢;go_enter func189,ntmps189;go_wp2_with(go_at_call 196;first|((with_reducible refine(cr _ _).mono ?_);rintro e w' ⟨rfl,rfl⟩)|((with_reducible refine(bQ _ _).mono ?_);rintro e w' ⟨rfl,rfl⟩))
   exact⟨rfl,by rw[hy.out],bl⟩
  by_cases hb:7<r
  ·have hy:=g (show cV (aj ⟨A,leaf,r,u,d,f⟩ l)= .panicked [{v:= .iface 254 (y z 1),recovered:=o}] by
    unfold aj;rw[if_neg hl,if_neg ht,if_pos (.inr (.inl hb))];rfl)
   clear hl ht;generalize aj ⟨A,leaf,r,u,d,f⟩ l=c at hy⊢;go_enter func189,ntmps189;go_wp2_with(go_at_call 196;first|((with_reducible refine(cr _ _).mono ?_);rintro e w' ⟨rfl,rfl⟩)|((with_reducible refine(bQ _ _).mono ?_);rintro e w' ⟨rfl,rfl⟩))
   exact⟨rfl,by rw[hy.out],bl⟩
  by_cases hb:f<0
  ·have hy:=g (show cV (aj ⟨A,leaf,r,u,d,f⟩ l)= .panicked [{v:= .iface 254 (y z 1),recovered:=o}] by
    unfold aj;rw[if_neg hl,if_neg ht,if_pos (.inr (.inr (.inl hb)))];rfl)
   clear hl ht;generalize aj ⟨A,leaf,r,u,d,f⟩ l=c at hy⊢;go_enter func189,ntmps189;go_wp2_with(go_at_call 196;first|((with_reducible refine(cr _ _).mono ?_);rintro e w' ⟨rfl,rfl⟩)|((with_reducible refine(bQ _ _).mono ?_);rintro e w' ⟨rfl,rfl⟩))
   exact⟨rfl,by rw[hy.out],bl⟩
  by_cases hb:1048576≤f
  ·have hy:=g (show cV (aj ⟨A,leaf,r,u,d,f⟩ l)= .panicked [{v:= .iface 254 (y z 1),recovered:=o}] by
    unfold aj;rw[if_neg hl,if_neg ht,if_pos (.inr (.inr (.inr hb)))];rfl)
   clear hl ht;generalize aj ⟨A,leaf,r,u,d,f⟩ l=c at hy⊢;go_enter func189,ntmps189;go_wp2_with(go_at_call 196;first|((with_reducible refine(cr _ _).mono ?_);rintro e w' ⟨rfl,rfl⟩)|((with_reducible refine(bQ _ _).mono ?_);rintro e w' ⟨rfl,rfl⟩))
   exact⟨rfl,by rw[hy.out],bl⟩
  have hr:¬(r<0∨7<r∨f<0∨1048576≤f):=by omega
  have d1:decide (r<0)=o:=by simp;omega
  have d2:decide (7<r)=o:=by simp;omega
  have d3:decide (f<0)=o:=by simp;omega
  have d4:decide (1048576≤f)=o:=by simp;omega
  cases leaf with
  |false=>
   by_cases lz:l=0
   ·subst lz
    have hy:=g (show cV (aj ⟨A,o,r,u,d,f⟩ 0)= .panicked [{v:= .iface 254 (y z 2),recovered:=o}] by
     unfold aj;rw[if_neg hl,if_neg ht,if_neg hr,if_pos (.inr ⟨rfl,rfl⟩)];rfl)
    clear hl ht hr;generalize aj ⟨A,o,r,u,d,f⟩ 0=c at hy⊢;go_enter func189,ntmps189;go_wp2_with(go_at_call 196;first|((with_reducible refine(cr _ _).mono ?_);rintro e w' ⟨rfl,rfl⟩)|((with_reducible refine(bQ _ _).mono ?_);rintro e w' ⟨rfl,rfl⟩))
    exact⟨rfl,by rw[hy.out],bl⟩
   have hk:¬((o=A∧l=3)∨(o=o∧l=0)):=by simp[lz]
   by_cases hx:r≠7∨u=A∨d=A
   ·have hy:=g (show cV (aj ⟨A,o,r,u,d,f⟩ l)= .panicked [{v:= .iface 254 (y z 7),recovered:=o}] by
     unfold aj;rw[if_neg hl,if_neg ht,if_neg hr,if_neg hk,if_pos rfl,if_pos hx];rfl)
    clear hl ht hr hk;have lz':(l==0)=o:=by simpa using lz
    generalize aj ⟨A,o,r,u,d,f⟩ l=c at hy⊢;by_cases r7:r=7
    ·cases u with
     |true=>
      clear hx;subst r7;go_enter func189,ntmps189;go_wp2_with(go_at_call 196;first|((with_reducible refine(cr _ _).mono ?_);rintro e w' ⟨rfl,rfl⟩)|((with_reducible refine(bQ _ _).mono ?_);rintro e w' ⟨rfl,rfl⟩))
      exact⟨rfl,by rw[hy.out],bl⟩
     |false=>
      obtain rfl:d=A:=by rcases hx with hx|hx|hx;exact absurd r7 hx;cases hx;exact hx
      subst r7;clear hx;go_enter func189,ntmps189;go_wp2_with(go_at_call 196;first|((with_reducible refine(cr _ _).mono ?_);rintro e w' ⟨rfl,rfl⟩)|((with_reducible refine(bQ _ _).mono ?_);rintro e w' ⟨rfl,rfl⟩))
      exact⟨rfl,by rw[hy.out],bl⟩
    ·have r7':(r !=7)=A:=by simpa using r7
     clear hx r7;go_enter func189,ntmps189;go_wp2_with(go_at_call 196;first|((with_reducible refine(cr _ _).mono ?_);rintro e w' ⟨rfl,rfl⟩)|((with_reducible refine(bQ _ _).mono ?_);rintro e w' ⟨rfl,rfl⟩))
     exact⟨rfl,by rw[hy.out],bl⟩
   ·obtain⟨rfl,rfl,rfl⟩:r=7∧u=o∧d=o:=by
     refine⟨?_,?_,?_⟩
     ·exact Decidable.of_not_not fun h=>hx (.inl h)
     ·cases u with
      |false=>rfl
      |true=>exact absurd (.inr (.inl rfl)) hx
     ·cases d with
      |false=>rfl
      |true=>exact absurd (.inr (.inr rfl)) hx
    have hy:=g (show cV (aj ⟨A,o,7,o,o,f⟩ l)= .returned (.tuple #[]) by
     unfold aj;rw[if_neg hl,if_neg ht,if_neg hr,if_neg hk,if_pos rfl,if_neg hx];rfl)
    have lz':(l==0)=o:=by simpa using lz
    clear hl ht hr hk hx lz;generalize aj ⟨A,o,7,o,o,f⟩ l=c at hy⊢;go_enter func189,ntmps189;go_wp2_with(go_at_call 196;first|((with_reducible refine(cr _ _).mono ?_);rintro e w' ⟨rfl,rfl⟩)|((with_reducible refine(bQ _ _).mono ?_);rintro e w' ⟨rfl,rfl⟩))
    go_end0
    exact⟨by rw[hy.out],bl⟩
  |true=>
   by_cases l3:l=3
   ·subst l3
    have hy:=g (show cV (aj ⟨A,A,r,u,d,f⟩ 3)= .panicked [{v:= .iface 254 (y z 2),recovered:=o}] by
     unfold aj;rw[if_neg hl,if_neg ht,if_neg hr,if_pos (.inl ⟨rfl,rfl⟩)];rfl)
    clear hl ht hr;generalize aj ⟨A,A,r,u,d,f⟩ 3=c at hy⊢;go_enter func189,ntmps189;go_wp2_with(go_at_call 196;first|((with_reducible refine(cr _ _).mono ?_);rintro e w' ⟨rfl,rfl⟩)|((with_reducible refine(bQ _ _).mono ?_);rintro e w' ⟨rfl,rfl⟩))
    exact⟨rfl,by rw[hy.out],bl⟩
   have hk:¬((A=A∧l=3)∨(A=o∧l=0)):=by simp[l3]
   have hsp:aj ⟨A,A,r,u,d,f⟩ l=if f % bn l≠0 then 3 else 0:=by
    unfold aj;rw[if_neg hl,if_neg ht,if_neg hr,if_neg hk,if_neg (by simp)]
   have hl3:l=0∨l=1∨l=2:=by omega
   clear ht hr hk l3;rcases hl3 with rfl|rfl|rfl
   ·skip
    have hs:bn 0=1:=rfl;rw[hs] at hsp;have hsc:∀W,I prog 173 #[.int .i64 0] W (Same (y z 1) W):=fun W=>by
     have:=cU 0 W;rwa [hs] at this
    have HS:=g hsc;clear hs hsc;have hm:f % 1=0:=Int.emod_one f;have hy:=g (show cV (aj ⟨A,A,r,u,d,f⟩ 0)= .returned (.tuple #[]) by rw[hsp,if_neg (fun h=>h hm)];rfl);have hm':(f.tmod 1 !=0)=o:=by rw[Int.tmod_eq_emod_of_nonneg (by omega)];rw[bne_eq_false_iff_eq];exact hm
    clear hl hsp hm;generalize aj ⟨A,A,r,u,d,f⟩ 0=c at hy⊢;go_enter func189,ntmps189;go_wp2_with(go_at_call 196;first|((with_reducible refine(cr _ _).mono ?_);rintro e w' ⟨rfl,rfl⟩)|((with_reducible refine(bQ _ _).mono ?_);rintro e w' ⟨rfl,rfl⟩))
    go_region_with (first|(go_at_call 174;(with_reducible refine(ej _ _).mono ?_);rintro e w' ⟨rfl,rfl⟩)|(go_at_call 173;(with_reducible refine(HS.out _).mono ?_);rintro e w' ⟨rfl,rfl⟩)|(go_at_call 196;first|((with_reducible refine(cr _ _).mono ?_);rintro e w' ⟨rfl,rfl⟩)|((with_reducible refine(bQ _ _).mono ?_);rintro e w' ⟨rfl,rfl⟩)))
    all_goals
     go_wp2;go_end0
     exact⟨by rw[hy.out],bl.drew⟩
   ·skip
    have hs:bn 1=8:=rfl;rw[hs] at hsp;have hsc:∀W,I prog 173 #[.int .i64 1] W (Same (y z 8) W):=fun W=>by
     have:=cU 1 W;rwa [hs] at this
    have HS:=g hsc;clear hs hsc;by_cases hm:f % 8=0
    ·have hy:=g (show cV (aj ⟨A,A,r,u,d,f⟩ 1)= .returned (.tuple #[]) by rw[hsp,if_neg (fun h=>h hm)];rfl)
     have hm':(f.tmod 8 !=0)=o:=by rw[Int.tmod_eq_emod_of_nonneg (by omega)];rw[bne_eq_false_iff_eq];exact hm
     clear hl hsp hm;generalize aj ⟨A,A,r,u,d,f⟩ 1=c at hy⊢;go_enter func189,ntmps189;go_wp2_with(go_at_call 196;first|((with_reducible refine(cr _ _).mono ?_);rintro e w' ⟨rfl,rfl⟩)|((with_reducible refine(bQ _ _).mono ?_);rintro e w' ⟨rfl,rfl⟩))
     go_region_with (first|(go_at_call 174;(with_reducible refine(ej _ _).mono ?_);rintro e w' ⟨rfl,rfl⟩)|(go_at_call 173;(with_reducible refine(HS.out _).mono ?_);rintro e w' ⟨rfl,rfl⟩)|(go_at_call 196;first|((with_reducible refine(cr _ _).mono ?_);rintro e w' ⟨rfl,rfl⟩)|((with_reducible refine(bQ _ _).mono ?_);rintro e w' ⟨rfl,rfl⟩)))
     all_goals
      go_wp2;go_end0
      exact⟨by rw[hy.out],bl.drew⟩
    ·have hy:=g (show cV (aj ⟨A,A,r,u,d,f⟩ 1)= .panicked [{v:= .iface 254 (y z 3),recovered:=o}] by rw[hsp,if_pos hm];rfl)
     have hm':(f.tmod 8 !=0)=A:=by rw[Int.tmod_eq_emod_of_nonneg (by omega)];rw[bne_iff_ne];exact hm
     clear hl hsp hm;generalize aj ⟨A,A,r,u,d,f⟩ 1=c at hy⊢;go_enter func189,ntmps189;go_wp2_with(go_at_call 196;first|((with_reducible refine(cr _ _).mono ?_);rintro e w' ⟨rfl,rfl⟩)|((with_reducible refine(bQ _ _).mono ?_);rintro e w' ⟨rfl,rfl⟩))
     have hw1:=D (aT w) #[K A,K A,y z r,K u,K d,y z f] 70;generalize w.alloc _=W at*
     have cd:W.cell? (E w.heap.size 5 B)=H (y z f):=hw1.cells6.2.2.2.2.2;clear hw1;go_still_tail 7,(by kernel_rfl)
     still_call ((ej _ _).mono fun _ _ ⟨a,b⟩=>⟨a,b.symm⟩)
     still_call ((HS.out _).mono fun _ _ ⟨a,b⟩=>⟨a,b.symm⟩)
     repeat still_step
     try refine wpStill_nil ?_
     go_wp2_with(go_at_call 196;first|((with_reducible refine(cr _ _).mono ?_);rintro e w' ⟨rfl,rfl⟩)|((with_reducible refine(bQ _ _).mono ?_);rintro e w' ⟨rfl,rfl⟩))
     exact⟨rfl,by rw[hy.out],bl.drew⟩
   ·skip
    have hs:bn 2=64:=rfl;rw[hs] at hsp;have hsc:∀W,I prog 173 #[.int .i64 2] W (Same (y z 64) W):=fun W=>by
     have:=cU 2 W;rwa [hs] at this
    have HS:=g hsc;clear hs hsc;by_cases hm:f % 64=0
    ·have hy:=g (show cV (aj ⟨A,A,r,u,d,f⟩ 2)= .returned (.tuple #[]) by rw[hsp,if_neg (fun h=>h hm)];rfl)
     have hm':(f.tmod 64 !=0)=o:=by rw[Int.tmod_eq_emod_of_nonneg (by omega)];rw[bne_eq_false_iff_eq];exact hm
     clear hl hsp hm;generalize aj ⟨A,A,r,u,d,f⟩ 2=c at hy⊢;go_enter func189,ntmps189;go_wp2_with(go_at_call 196;first|((with_reducible refine(cr _ _).mono ?_);rintro e w' ⟨rfl,rfl⟩)|((with_reducible refine(bQ _ _).mono ?_);rintro e w' ⟨rfl,rfl⟩))
     go_region_with (first|(go_at_call 174;(with_reducible refine(ej _ _).mono ?_);rintro e w' ⟨rfl,rfl⟩)|(go_at_call 173;(with_reducible refine(HS.out _).mono ?_);rintro e w' ⟨rfl,rfl⟩)|(go_at_call 196;first|((with_reducible refine(cr _ _).mono ?_);rintro e w' ⟨rfl,rfl⟩)|((with_reducible refine(bQ _ _).mono ?_);rintro e w' ⟨rfl,rfl⟩)))
     all_goals
      go_wp2;go_end0
      exact⟨by rw[hy.out],bl.drew⟩
    ·have hy:=g (show cV (aj ⟨A,A,r,u,d,f⟩ 2)= .panicked [{v:= .iface 254 (y z 3),recovered:=o}] by rw[hsp,if_pos hm];rfl)
     have hm':(f.tmod 64 !=0)=A:=by rw[Int.tmod_eq_emod_of_nonneg (by omega)];rw[bne_iff_ne];exact hm
     clear hl hsp hm;generalize aj ⟨A,A,r,u,d,f⟩ 2=c at hy⊢;go_enter func189,ntmps189;go_wp2_with(go_at_call 196;first|((with_reducible refine(cr _ _).mono ?_);rintro e w' ⟨rfl,rfl⟩)|((with_reducible refine(bQ _ _).mono ?_);rintro e w' ⟨rfl,rfl⟩))
     have hw1:=D (aT w) #[K A,K A,y z r,K u,K d,y z f] 70;generalize w.alloc _=W at*
     have cd:W.cell? (E w.heap.size 5 B)=H (y z f):=hw1.cells6.2.2.2.2.2;clear hw1;go_still_tail 7,(by kernel_rfl)
     still_call ((ej _ _).mono fun _ _ ⟨a,b⟩=>⟨a,b.symm⟩)
     still_call ((HS.out _).mono fun _ _ ⟨a,b⟩=>⟨a,b.symm⟩)
     repeat still_step
     try refine wpStill_nil ?_
     go_wp2_with(go_at_call 196;first|((with_reducible refine(cr _ _).mono ?_);rintro e w' ⟨rfl,rfl⟩)|((with_reducible refine(bQ _ _).mono ?_);rintro e w' ⟨rfl,rfl⟩))
     exact⟨rfl,by rw[hy.out],bl.drew⟩
theorem oD(b q:Nat)(th leaf u d:Bool)(r f l:Int)(w:C)(c0:w.cell? (E b 0 B)=H (K th))(c1:w.cell? (E b 1 B)=H (K leaf))(c2:w.cell? (E b 2 B)=H (y z r))(c3:w.cell? (E b 3 B)=H (K u))(c4:w.cell? (E b 4 B)=H (K d))(c5:w.cell? (E b 5 B)=H (y z f))(c6:w.cell? (E q 0 B)=H (y z l)):
  I prog 188 #[.pointer (H (E b 0 B)),.pointer (H (E q 0 B))] w (wP (aj ⟨th,leaf,r,u,d,f⟩ l) w):=by
 by_cases hc:aj ⟨th,leaf,r,u,d,f⟩ l=0
 ·have hy:=g (show cV (aj ⟨th,leaf,r,u,d,f⟩ l)= .returned (.tuple #[]) by unfold cV;rw[if_pos hc])
  have HC:=g (fun W=>lR th leaf u d r f l W);clear hc;go_enter func188,ntmps188;go_wp2_with fail
  refine(HC.out _).mono ?_;rintro e w' ⟨he,bl⟩;rw[hy.out] at he;subst he;go_wp2;go_end0
  exact⟨hy.out.symm,bl⟩
 ·have hy:=g (show cV (aj ⟨th,leaf,r,u,d,f⟩ l)= .panicked [{v:= .iface 254 (y z (aj ⟨th,leaf,r,u,d,f⟩ l)),recovered:=o}] by unfold cV;rw[if_neg hc])
  have HC:=g (fun W=>lR th leaf u d r f l W);clear hc;go_enter func188,ntmps188;go_wp2_with fail
  refine(HC.out _).mono ?_;rintro e w' ⟨he,bl⟩;rw[hy.out] at he;subst he;go_wp2;exact⟨rfl,hy.out.symm,bl⟩
theorem pM(b q:Nat)(th leaf u d:Bool)(r f l:Int)(w:C)(c0:w.cell? (E b 0 B)=H (K th))(c1:w.cell? (E b 1 B)=H (K leaf))(c2:w.cell? (E b 2 B)=H (y z r))(c3:w.cell? (E b 3 B)=H (K u))(c4:w.cell? (E b 4 B)=H (K d))(c5:w.cell? (E b 5 B)=H (y z f))(c6:w.cell? (E q 0 B)=H (y z l))
  (hb:b<w.heap.size) (hq:q<w.heap.size):
  I prog 187 #[.func (.func 188) #[] #[.pointer (H (E b 0 B)),.pointer (H (E q 0 B))]] w (Pure (y z (aj ⟨th,leaf,r,u,d,f⟩ l)) w):=by
 have hmf:∀(fn:Fn) (first cap:Array M) (w:C),(Instr.makeFunc fn first cap).run prog w= .ok (.func fn first cap) w:=fun _ _ _ _=>rfl;have b1:=Below.alloc (Below.refl w.heap.size w) (Nat.le_refl _) (.cells #[y z 0] 3);have k0:=(b1.cell (p:=(E b 0 B)) hb).trans c0;have k1:=(b1.cell (p:=(E b 1 B)) hb).trans c1;have k2:=(b1.cell (p:=(E b 2 B)) hb).trans c2;have k3:=(b1.cell (p:=(E b 3 B)) hb).trans c3;have k4:=(b1.cell (p:=(E b 4 B)) hb).trans c4;have k5:=(b1.cell (p:=(E b 5 B)) hb).trans c5;have k6:=(b1.cell (p:=(E q 0 B)) hq).trans c6;clear c0 c1 c2 c3 c4 c5 c6;have h1:=D (aT w) #[y z 0] 3;by_cases hc:aj ⟨th,leaf,r,u,d,f⟩ l=0
 ·have hy:=g (show cV (aj ⟨th,leaf,r,u,d,f⟩ l)= .returned (.tuple #[]) by unfold cV;rw[if_pos hc])
  rw[hc];have HC:=g (oD b q th leaf u d r f l _ k0 k1 k2 k3 k4 k5 k6);clear hc k0 k1 k2 k3 k4 k5 k6;go_enter_defers func187,ntmps187
  go_wp2_with fail
  refine(HC.out).mono ?_;rintro e w2 ⟨he,bl⟩;rw[hy.out] at he;subst he;have h2:=h1.below bl;have x2:=((G w).alloc (.cells #[y z 0] 3)).below bl;have z0:w2.cell? (E w.heap.size 0 B)=H (y z 0):=h2.cell 0;have zf:=h2.free 0;have zl:=h2.lt;clear h1 bl hy HC;go_wp2_with fail
  refine leaves_cons (f:=195) (args:= #[.pointer (H (E w.heap.size 0 B))]) (by simp) (by simp[go_sem]) ?_;refine(nD (E w.heap.size 0 B) _).mono ?_;rintro e u' w'' ⟨rfl,rfl,rfl⟩;have zz:(w2.setCell (E w.heap.size 0 B) (y z 0)).cell? (E w.heap.size 0 B)=H (y z 0):=(h2.set 0 (y z 0)).cell 0;simp[Leaves,settle,results,results187,go_sem,zz];exact⟨rfl,aq (h2.set 0 _).right (x2.set _ _)⟩
 ·have hy:=g (show cV (aj ⟨th,leaf,r,u,d,f⟩ l)= .panicked [{v:= .iface 254 (y z (aj ⟨th,leaf,r,u,d,f⟩ l)),recovered:=o}] by unfold cV;rw[if_neg hc])
  have HC:=g (oD b q th leaf u d r f l _ k0 k1 k2 k3 k4 k5 k6);clear hc k0 k1 k2 k3 k4 k5 k6;generalize aj ⟨th,leaf,r,u,d,f⟩ l=c at*
  go_enter_defers func187,ntmps187
  go_wp2_with fail
  refine(HC.out).mono ?_;rintro e w2 ⟨he,bl⟩;rw[hy.out] at he;subst he;have h2:=h1.below bl;have x2:=((G w).alloc (.cells #[y z 0] 3)).below bl;have z0:w2.cell? (E w.heap.size 0 B)=H (y z 0):=h2.cell 0;have zf:=h2.free 0;have zl:=h2.lt;clear h1 bl hy HC;go_wp2_with fail
  refine leaves_cons (f:=195) (args:= #[.pointer (H (E w.heap.size 0 B))]) (by simp) (by simp[go_sem]) ?_;refine(mD (E w.heap.size 0 B) 0 c [] _ z0 zf).mono ?_;rintro e u' w'' ⟨rfl,rfl,rfl⟩;have zz:(w2.setCell (E w.heap.size 0 B) (y z c)).cell? (E w.heap.size 0 B)=H (y z c):=(h2.set 0 (y z c)).cell 0;simp[Leaves,settle,results,results187,go_sem,zz];exact⟨rfl,aq (h2.set 0 _).right (x2.set _ _)⟩
theorem gy(e:En)(l:Int)(w:C):I prog 172 #[.agg #[K e.there,K e.leaf,y z e.rights,K e.used,K e.dirty,y z e.frame],.int .i64 l] w (Pure (y z (aj e l)) w):=by
 obtain⟨th,leaf,r,u,d,f⟩:=e;have hmf:∀(fn:Fn) (first cap:Array M) (w:C),(Instr.makeFunc fn first cap).run prog w= .ok (.func fn first cap) w:=fun _ _ _ _=>rfl;have h1:=(D (aT w) #[K th,K leaf,y z r,K u,K d,y z f] 70).new #[y z l] 3;have x1:=((G w).alloc (.cells #[K th,K leaf,y z r,K u,K d,y z f] 70)).alloc (.cells #[y z l] 3);simp only[N] at h1;have c6:=h1.cell 0;obtain⟨c0,c1,c2,c3,c4,c5⟩:=h1.right.cells6;have HC:=g (pM w.heap.size (w.heap.size+1) th leaf u d r f l _ c0 c1 c2 c3 c4 c5 c6 h1.right.lt h1.lt);clear c0 c1 c2 c3 c4 c5 c6;go_enter func172,ntmps172;go_wp2_with fail
 refine(HC.out).mono ?_;rintro e w2 ⟨rfl,bl⟩;go_wp2;go_ret;exact⟨rfl,aq (h1.below bl).right.right (x1.below bl)⟩
theorem nE(r f:Int)(u d lf:Bool)(r0:0≤r)(r7:r≤7)(f0:0≤f)(f1:f<1048576):
  bits .or .u64 (bits .or .u64 (bits .or .u64 (bits .or .u64 (bits .or .u64 1 (r*2)) (iC u 32)) (iC d 64)) (iC lf 128)) (f*4096)=f*4096+r*2+1+iC u 32+iC d 64+iC lf 128:=by
 have hu:iC u 32=0∨iC u 32=32:=by cases u<;>simp[iC]
 have hd:iC d 64=0∨iC d 64=64:=by cases d<;>simp[iC]
 have hl:iC lf 128=0∨iC lf 128=128:=by cases lf<;>simp[iC]
 generalize iC u 32=a at*
 generalize iC d 64=b at*
 generalize iC lf 128=c at*
 rw[bits_join_low .u64 64 (by decide) wraps_u64 1 1 (r*2) (by omega) (by omega) (by omega) (by omega) (by omega) (by omega)];rw[bits_join_low .u64 64 (by decide) wraps_u64 5 (1+r*2) a (by omega) (by omega) (by omega) (by omega) (by omega) (by omega)];rw[bits_join_low .u64 64 (by decide) wraps_u64 6 (1+r*2+a) b (by omega) (by omega) (by omega) (by omega) (by omega) (by omega)];rw[bits_join_low .u64 64 (by decide) wraps_u64 7 (1+r*2+a+b) c (by omega) (by omega) (by omega) (by omega) (by omega) (by omega)];rw[bits_join_low .u64 64 (by decide) wraps_u64 12 (1+r*2+a+b+c) (f*4096) (by omega) (by omega) (by omega) (by omega) (by omega) (by omega)];omega
set_option maxHeartbeats 2000000 in
theorem j9(e:En)(l:Int)(w:C):I prog 157 #[.agg #[K e.there,K e.leaf,y z e.rights,K e.used,K e.dirty,y z e.frame],.int .i64 l] w (Pure (.tuple #[y vU (bt e l),y z (aj e l)]) w):=by
 obtain⟨th,leaf,r,u,d,f⟩:=e;have h1:=D (aT w) #[K th,K leaf,y z r,K u,K d,y z f] 70;have x1:=(G w).alloc (.cells #[K th,K leaf,y z r,K u,K d,y z f] 70);have HC:=g (fun W=>gy ⟨th,leaf,r,u,d,f⟩ l W);by_cases hc:aj ⟨th,leaf,r,u,d,f⟩ l=0
 ·rw[hc] at HC⊢
  cases th with
  |false=>
   have hy:=g (show bt ⟨o,leaf,r,u,d,f⟩ l=0 by unfold bt;rw[if_neg (by simp)]);clear hc;go_enter func157,ntmps157;go_wp2_with fail
   refine(HC.out _).mono ?_;rintro e w2 ⟨rfl,bl⟩;have h2:=h1.below bl;obtain⟨c0,c1,c2,c3,c4,c5⟩:=h2.cells6;go_wp2;go_ret2
   exact⟨by rw[hy.out];rfl,aq h2.right (x1.below bl)⟩
  |true=>
   have hk:=dB hc rfl;have hy:=g (show bt ⟨A,leaf,r,u,d,f⟩ l=ft ⟨A,leaf,r,u,d,f⟩ l by unfold bt;rw[if_pos ⟨hc,rfl⟩]);have r0:0≤r:=hk.r0;have r7:r≤7:=hk.r7;have f0:0≤f:=hk.f0;have f1:f<1048576:=hk.f1;have l0:=hk.l0;have l4:=hk.l4;clear hc hk;cases leaf with
   |false=>
    go_enter func157,ntmps157;go_wp2_with fail
    refine(HC.out _).mono ?_;rintro e w2 ⟨rfl,bl⟩;have h2:=h1.below bl;obtain⟨c0,c1,c2,c3,c4,c5⟩:=h2.cells6;have v0:=ae c0;have v1:=ae c1;have v2:=ae c2;have v3:=ae c3;have v4:=ae c4;have v5:=ae c5;clear c1 c2 c3 c4 c5;go_wp2;refine ap (by kernel_rfl) (by kernel_rfl) ?_;repeat(first|go_big_quiet_step ((go_at_call 183;exact Same.via (jL _ _ _)))|quiet_step ((go_at_call 183;exact Same.via (jL _ _ _))))
    refine wpQuiet_nil ?_;intro _ hw';obtain⟨uq,hw''⟩:=hw';subst hw'';go_wp2;go_ret2
    refine⟨?_,aq (h2.via _).right ((x1.below bl).below (aB _ _))⟩;rw[hy.out];show J (.tuple #[y vU _,y z 0])=_;refine congrArg (fun n:Int=>J (.tuple #[y vU n,y z 0])) ?_;exact(nE r f u d _ r0 r7 f0 f1).trans (by unfold ft;simp)
   |true=>
    by_cases lz:l=0
    ·subst lz
     go_enter func157,ntmps157;go_wp2_with fail
     refine(HC.out _).mono ?_;rintro e w2 ⟨rfl,bl⟩;have h2:=h1.below bl;obtain⟨c0,c1,c2,c3,c4,c5⟩:=h2.cells6;have v0:=ae c0;have v1:=ae c1;have v2:=ae c2;have v3:=ae c3;have v4:=ae c4;have v5:=ae c5;clear c1 c2 c3 c4 c5;go_wp2;refine ap (by kernel_rfl) (by kernel_rfl) ?_;repeat(first|go_big_quiet_step ((go_at_call 183;exact Same.via (jL _ _ _)))|quiet_step ((go_at_call 183;exact Same.via (jL _ _ _))))
     refine wpQuiet_nil ?_;intro _ hw';obtain⟨uq,hw''⟩:=hw';subst hw'';go_wp2;go_ret2
     refine⟨?_,aq (h2.via _).right ((x1.below bl).below (aB _ _))⟩;rw[hy.out];show J (.tuple #[y vU _,y z 0])=_;refine congrArg (fun n:Int=>J (.tuple #[y vU n,y z 0])) ?_;exact(nE r f u d _ r0 r7 f0 f1).trans (by unfold ft;simp)
    ·have l1:0<l:=by omega
     have hz:=g (show(l !=0)=A by simpa using lz);clear lz;go_enter func157,ntmps157;go_wp2_with fail
     refine(HC.out _).mono ?_;rintro e w2 ⟨rfl,bl⟩;have h2:=h1.below bl;obtain⟨c0,c1,c2,c3,c4,c5⟩:=h2.cells6;have v0:=ae c0;have v1:=ae c1;have v2:=ae c2;have v3:=ae c3;have v4:=ae c4;have v5:=ae c5;clear c1 c2 c3 c4 c5;go_wp2;refine ap (by kernel_rfl) (by kernel_rfl) ?_;repeat(first|go_big_quiet_step ((go_at_call 183;exact Same.via (jL _ _ _)))|quiet_step ((go_at_call 183;exact Same.via (jL _ _ _))))
     refine wpQuiet_nil ?_;intro _ hw';obtain⟨uq,hw''⟩:=hw';subst hw'';go_wp2;go_ret2
     refine⟨?_,aq (h2.via _).right ((x1.below bl).below (aB _ _))⟩;rw[hy.out];show J (.tuple #[y vU _,y z 0])=_;refine congrArg (fun n:Int=>J (.tuple #[y vU n,y z 0])) ?_;exact(nE r f u d _ r0 r7 f0 f1).trans (by unfold ft;rw[hz.out];simp)
 ·have hy:=g (show bt ⟨th,leaf,r,u,d,f⟩ l=0 from l6 hc)
  have hn:(aj ⟨th,leaf,r,u,d,f⟩ l !=0)=A:=by simpa using hc
  clear hc;generalize aj ⟨th,leaf,r,u,d,f⟩ l=c at*
  go_enter func157,ntmps157;go_wp2_with fail
  refine(HC.out _).mono ?_;rintro e w2 ⟨rfl,bl⟩;have h2:=h1.below bl;go_wp2;go_ret2
  exact⟨by rw[hy.out];rfl,aq h2.right (x1.below bl)⟩
theorem jM(W m k:Nat):W&&& (m*2 ^ k)=((W / 2 ^ k)&&& m)*2 ^ k:=by
 apply Nat.eq_of_testBit_eq;intro i;rw[Nat.testBit_and,Nat.testBit_mul_two_pow,Nat.testBit_mul_two_pow,Nat.testBit_and,Nat.testBit_div_two_pow];by_cases h:k≤i
 ·rw[show i - k+k=i by omega]
  simp[h]
 ·simp[h]
theorem qZ(W:Nat):(W&&& 18446744069414588176=0)↔(W / 16 % 2=0∧W / 256 % 16=0∧W / 4294967296 % 4294967296=0):=by
 have e:18446744069414588176=(1*2 ^ 4)|||((15*2 ^ 8)|||(4294967295*2 ^ 32)):=by decide
 have a1:∀x:Nat,x&&& 1=x % 2:=fun x=>Nat.and_two_pow_sub_one_eq_mod x 1;have a2:∀x:Nat,x&&& 15=x % 16:=fun x=>Nat.and_two_pow_sub_one_eq_mod x 4;have a3:∀x:Nat,x&&& 4294967295=x % 4294967296:=fun x=>Nat.and_two_pow_sub_one_eq_mod x 32;rw[e,Nat.and_or_distrib_left,Nat.and_or_distrib_left,jM,jM,jM,a1,a2,a3,Nat.or_eq_zero_iff,Nat.or_eq_zero_iff];omega
theorem kV(n:Nat)(h:n<18446744073709551616):(BitVec.ofInt 64 (n:Int)).toNat =n:=by
 rw[BitVec.ofInt_natCast,BitVec.toNat_ofNat];omega
theorem uM(n:Nat)(h:n<18446744073709551616):IntKind.u64.wrap (n:Int)=n:=by rw[IntKind.wrap_u64];omega
def ju(w:Int):Bool:= !(decide (w / 16 % 2=0)&&(decide (w / 256 % 16=0)&&decide (w<4294967296)))
theorem nF(w:Int)(h0:0≤w)(h1:w<18446744073709551616):(bits .andNot .u64 w 4294963439 !=0)=ju w:=by
 obtain⟨n,rfl⟩:=L h0;have hv:bits .andNot .u64 (n:Int) 4294963439=((n&&& 18446744069414588176:Nat):Int):=by
  show IntKind.u64.wrap ((BitVec.ofInt 64 (n:Int)&&& ~~~BitVec.ofInt 64 ((4294963439:Nat):Int)).toNat :Int)=_;rw[BitVec.toNat_and,BitVec.toNat_not,kV n (by omega),kV 4294963439 (by decide)];rw[show 2 ^ 64 - 1 - 4294963439=18446744069414588176 by decide];exact uM _ (Nat.lt_of_le_of_lt Nat.and_le_left (by omega))
 rw[hv];have hk:=qZ n;unfold ju;by_cases h:n&&& 18446744069414588176=0
 ·rw[h]
  obtain⟨a,b,c⟩:=hk.1 h;have a':(n:Int) / 16 % 2=0:=by omega
  have b':(n:Int) / 256 % 16=0:=by omega
  have c':(n:Int)<4294967296:=by omega
  simp[a',b',c']
 ·have:(((n&&& 18446744069414588176:Nat):Int) !=0)=A:=by
   rw[bne_iff_ne];omega
  rw[this];symm;rw[Bool.not_eq_true',Bool.eq_false_iff];intro hh;simp only[Bool.and_eq_true,decide_eq_true_eq] at hh;obtain⟨a,b,c⟩:=hh;exact h (hk.2 ⟨by omega,by omega,by omega⟩)
theorem nG(w:Int)(k:Nat)(hk:k<64)(h0:0≤w)(h1:w<18446744073709551616):(bits .and .u64 w ((2 ^ k:Nat):Int) !=0)=aK w ((2 ^ k:Nat):Int):=by
 obtain⟨n,rfl⟩:=L h0;have hp:2 ^ k<18446744073709551616:=by
  have:2 ^ k<2 ^ 64:=Nat.pow_lt_pow_right (by omega) hk;simpa using this
 have hv:bits .and .u64 (n:Int) ((2 ^ k:Nat):Int)=((n / 2 ^ k % 2*2 ^ k:Nat):Int):=by
  show IntKind.u64.wrap ((BitVec.ofInt 64 (n:Int)&&& BitVec.ofInt 64 ((2 ^ k:Nat):Int)).toNat :Int)=_;rw[BitVec.toNat_and,kV n (by omega),kV _ hp];have a1:∀x:Nat,x&&& 1=x % 2:=fun x=>Nat.and_two_pow_sub_one_eq_mod x 1;have:=jM n 1 k;rw[Nat.one_mul,a1] at this;rw[this];exact uM _ (by rw[←this];exact Nat.lt_of_le_of_lt Nat.and_le_left (by omega))
 rw[hv];unfold aK;rw[←Int.natCast_ediv];have hpos:0<2 ^ k:=Nat.two_pow_pos k;have:n / 2 ^ k % 2=0∨n / 2 ^ k % 2=1:=by omega
 generalize n / 2 ^ k=m at*
 rcases this with h|h
 ·have e:(m:Int) % 2=0:=by omega
  rw[h,e,Nat.zero_mul];rfl
 ·have e:(m:Int) % 2=1:=by omega
  rw[h,e];rw[bne_iff_ne.2 (by omega)];rfl
theorem wQ(w:Int)(h0:0≤w)(h1:w<18446744073709551616):(bits .and .u64 w 32 !=0)=aK w 32:=nG w 5 (by decide) h0 h1
theorem wR(w:Int)(h0:0≤w)(h1:w<18446744073709551616):(bits .and .u64 w 64 !=0)=aK w 64:=nG w 6 (by decide) h0 h1
theorem vw(w:Int)(h0:0≤w)(h1:w<18446744073709551616):(bits .and .u64 w 128 !=0)=aK w 128:=nG w 7 (by decide) h0 h1
theorem xN(w:Int)(h0:0≤w)(h1:w<18446744073709551616):bits .and .u64 w 1=w % 2:=by
 have h:=bits_mask .u64 64 (by decide) wraps_u64 1 (by decide) w h0 (by omega);simpa using h
theorem xO(w:Int)(h0:0≤w)(h1:w<18446744073709551616):bits .and .u64 (w / 2) 7=w / 2 % 8:=by
 have h:=bits_mask .u64 64 (by decide) wraps_u64 3 (by decide) (w / 2) (by omega) (by omega);simpa using h
def eZ(w l:Int):M:= .tuple #[.agg #[K (aE w l).there,K (aE w l).leaf,y z (aE w l).rights,K (aE w l).used,K (aE w l).dirty,y z (aE w l).frame],y z (bu w l)]
theorem dd{w l c:Int}(h:bu w l=c)(hc:c≠0∨w=0):eZ w l= .tuple #[.agg #[K o,K o,y z 0,K o,K o,y z 0],y z c]:=by
 unfold eZ;have:aE w l=En.zero:=by
  unfold aE;rw[if_neg];rintro⟨a,b⟩;rcases hc with hc|hc
  ·exact hc (h▸a)
  ·exact b hc
 rw[this,h];rfl
theorem ka{w l:Int}(hl:0≤l∧l<4)(h:ju w=A∨(w % 2=0∧w≠0)∨(l=0∧aK w 128=A)):bu w l=7:=by
 unfold bu;rw[if_neg (by omega),if_pos];rintro⟨a,b,c,d,e⟩;rcases h with h|h|⟨h1,h2⟩
 ·unfold ju at h
  simp[a,b,c] at h
 ·omega
 ·have:=e h1
  unfold aK at h2;simp at h2;omega
theorem qj{w l:Int}(hl:0≤l∧l<4)(h1:ju w=o)(h2:w=0∨w % 2=1)(h3:l=0→aK w 128=o):bu w l=if w=0 then 0 else aj (dv w l) l:=by
 unfold bu;rw[if_neg (by omega),if_neg];rw[Decidable.not_not];unfold ju at h1;simp at h1;obtain⟨a,b,c⟩:=h1;refine⟨a,b,c,h2,fun e=> ?_⟩;have:=h3 e;unfold aK at this;simp at this;omega
theorem fb{e:En}{l a:Int}(h:aj e l≠0∨e.leaf=o∨cP a=o):aA e l a=Mp.zero:=by
 unfold aA;rw[if_neg];rintro⟨h1,h2,h3,h4⟩;rcases h with h|h|h
 ·exact h h1
 ·rw[h] at h2;cases h2
 ·unfold cP at h
  simp at h;omega
theorem Has.set6{w:C}{R:ab}{b:Nat}{v0 v1 v2 v3 v4 v5:M}{t:TypeId}(h:Has w (aa b #[v0,v1,v2,v3,v4,v5] t*R))(u0 u1 u2 u3 u4 u5:M):
  Has ((((((w.setCell (E b 0 B) u0).setCell (E b 1 B) u1).setCell (E b 2 B) u2).setCell (E b 3 B) u3).setCell (E b 4 B) u4).setCell (E b 5 B) u5) (aa b #[u0,u1,u2,u3,u4,u5] t*R):=
 (((((h.set 0 u0).set 1 u1).set 2 u2).set 3 u3).set 4 u4).set 5 u5
theorem Has.frees6{w:C}{R:ab}{b:Nat}{v0 v1 v2 v3 v4 v5:M}{t:TypeId}(h:Has w (aa b #[v0,v1,v2,v3,v4,v5] t*R)):
  w.frozen? (E b 0 B)=o∧w.frozen? (E b 1 B)=o∧w.frozen? (E b 2 B)=o∧w.frozen? (E b 3 B)=o∧w.frozen? (E b 4 B)=o∧w.frozen? (E b 5 B)=o:=
 ⟨h.free 0,h.free 1,h.free 2,h.free 3,h.free 4,h.free 5⟩
theorem ak{P:Program}{fn:Func}{R:Ending→C→Prop}{a:Act}{w:C}(F:C→Prop)(hF:F w)(h:∀wz,F wz→bodyPost P fn R .ret a wz):bodyPost P fn R .ret a w:=h w hF
section
variable {P:Program} {fn:Func} {tmps:Array M} {w:C}
theorem aD{a:Nat}{t:TypeId}{p:Q}{v:M}(hr:fn.results= #[.cell a t])(ha:tmps.getD a undef= .pointer (H p))(hl:(loadVar t p).run P w= .ok v w):(results fn tmps).run P w= .ok v w:=by
 unfold results;rw[hr];simp only[Array.getD_eq_getD_getElem?] at ha;simp[asAddr,ha,hl]
theorem av{a b:Nat}{t:TypeId}{p:Q}{v u:M}(hr:fn.results= #[.cell a t,.tmp b])(ha:tmps.getD a undef= .pointer (H p))(hb:tmps.getD b undef=u)(hl:(loadVar t p).run P w= .ok v w):
  (results fn tmps).run P w= .ok (.tuple #[v,u]) w:=by
 unfold results;rw[hr];simp only[Array.getD_eq_getD_getElem?] at ha hb;simp[asAddr,ha,hb,hl]
theorem be{a b c:Nat}{t:TypeId}{p:Q}{v u x:M}(hr:fn.results= #[.cell a t,.tmp b,.tmp c])(ha:tmps.getD a undef= .pointer (H p))(hb:tmps.getD b undef=u)(hc:tmps.getD c undef=x)(hl:(loadVar t p).run P w= .ok v w):
  (results fn tmps).run P w= .ok (.tuple #[v,u,x]) w:=by
 unfold results;rw[hr];simp only[Array.getD_eq_getD_getElem?] at ha hb hc;simp[asAddr,ha,hb,hc,hl]
end
theorem bC{w:C}{R:ab}{b:Nat}{v0 v1 v2 v3 v4 v5:M}(h:Has w (aa b #[v0,v1,v2,v3,v4,v5] 70*R)):(loadVar 70 (E b 0 B)).run prog w= .ok (.agg #[v0,v1,v2,v3,v4,v5]) w:=
 run_loadVar_row w b 70 70 _ _ _ h.heap underlying70 rfl (by kernel_rfl)
theorem aV{w:C}{R:ab}{b:Nat}{v0 v1 v2 v3:M}(h:Has w (aa b #[v0,v1,v2,v3] 39*R)):(loadVar 39 (E b 0 B)).run prog w= .ok (.agg #[v0,v1,v2,v3]) w:=
 run_loadVar_row w b 39 39 _ _ _ h.heap underlying39 rfl (by kernel_rfl)
theorem br{w:C}{R:ab}{b:Nat}{v0 v1 v2:M}(h:Has w (aa b #[v0,v1,v2] 34*R)):(loadVar 34 (E b 0 B)).run prog w= .ok (.agg #[v0,v1,v2]) w:=
 run_loadVar_row w b 34 34 _ _ _ h.heap underlying34 rfl (by kernel_rfl)
theorem cM{w:C}{R:ab}{b:Nat}{v0 v1:M}(h:Has w (aa b #[v0,v1] 27*R)):(loadVar 27 (E b 0 B)).run prog w= .ok (.agg #[v0,v1]) w:=
 run_loadVar_row w b 27 27 _ _ _ h.heap underlying27 rfl (by kernel_rfl)
end Go.Proofs.YtmfheghbgihdmaaGreat
