/- The contract of entry's check: it returns, or gives up with a code. -/
import Derived.Test.YtmfheghbgihdmaaGreatTblM4
import Derived.Deep.RegionWith
import Derived.StillTailTactics
import Derived.Lib.VarintBits
import Derived.Test.YtmfheghbgihdmaaGreatSep
import Derived.Laws.Rows
import Derived.Deep.RegionHeld3
import Derived.Deep.Cut
import Derived.Deep.DeepCutAuto
namespace Go.Proofs.YtmfheghbgihdmaaGreat
open Go.IntKind renaming u64→vU
open Bool renaming false→g,true→M
open Option renaming none→D,some→N
open Go.Value renaming int→G,bool→Z
open Go.IntKind renaming i64→I,wrap_i64→a6
open Go.Lib renaming hid→J
open Go.Addr renaming mk→U
open Go renaming World→Y,bodyPost_ret→ad,Value→a4,Calls→bb,Addr→b4
open Go.Ending renaming returned→af
open Go.Proofs.YtmfheghbgihdmaaGreat renaming Has→ag,Ext→bi,way→bz,Pure→b0
open Go.World renaming size_alloc→ax
open List renaming length_append→a5,getElem?_eq_some_iff→bs
open Go.Proofs.YtmfheghbgihdmaaGreat.Ext renaming refl→a7
open Go.Proofs.YtmfheghbgihdmaaGreat.Has renaming rowNil→bd,new→bk
open Int renaming eq_ofNat_of_zero_le→bf
open Tryz
open Go.RowKit
set_option maxRecDepth 100000
def db(c:Int):Ending:=if c=0 then .returned (.tuple #[]) else .panicked [{v:= .iface 254 (G I c),recovered:=g}]
def zh(c:Int)(w:Y)(e:Ending)(w':Y):Prop:=e=db c∧Below w.heap.size w w'
set_option maxHeartbeats 4000000 in
theorem mb(th leaf u d:Bool)(r f l:Int)(w:Y):bb prog 189 #[.agg #[Z th,Z leaf,G I r,Z u,Z d,G I f],G I l] w (zh (aj ⟨th,leaf,r,u,d,f⟩ l) w):=by
 have h1:=bk (aT w) #[Z th,Z leaf,G I r,Z u,Z d,G I f] 70;have bl:=ar h1.right ((a7 w).alloc (.cells #[Z th,Z leaf,G I r,Z u,Z d,G I f] 70));clear h1;by_cases l0:l<0
 ·have hy:=J (show db (aj ⟨th,leaf,r,u,d,f⟩ l)= .panicked [{v:= .iface 254 (G I 1),recovered:=g}] by unfold aj;rw[if_pos (.inl l0)];rfl)
  go_enter func189,ntmps189;go_wp2_with(go_at_call 196;first|((with_reducible refine(cB _ _).mono ?_);rintro e w' ⟨rfl,rfl⟩)|((with_reducible refine(bQ _ _).mono ?_);rintro e w' ⟨rfl,rfl⟩))
  exact⟨rfl,by rw[hy.out],bl⟩
 by_cases l4:4≤l
 ·have hy:=J (show db (aj ⟨th,leaf,r,u,d,f⟩ l)= .panicked [{v:= .iface 254 (G I 1),recovered:=g}] by unfold aj;rw[if_pos (.inr l4)];rfl)
  go_enter func189,ntmps189;go_wp2_with(go_at_call 196;first|((with_reducible refine(cB _ _).mono ?_);rintro e w' ⟨rfl,rfl⟩)|((with_reducible refine(bQ _ _).mono ?_);rintro e w' ⟨rfl,rfl⟩))
  exact⟨rfl,by rw[hy.out],bl⟩
 have hl:¬(l<0∨4≤l):=by omega
 cases th with
 |false=>
  by_cases hz:leaf=g∧r=0∧u=g∧d=g∧f=0
  ·obtain⟨rfl,rfl,rfl,rfl,rfl⟩:=hz
   have hy:=J (show db (aj ⟨g,g,0,g,g,0⟩ l)= .returned (.tuple #[]) by unfold aj;rw[if_neg hl];rfl);clear hl;go_enter func189,ntmps189;go_wp2_with(go_at_call 196;first|((with_reducible refine(cB _ _).mono ?_);rintro e w' ⟨rfl,rfl⟩)|((with_reducible refine(bQ _ _).mono ?_);rintro e w' ⟨rfl,rfl⟩))
   go_end0
   exact⟨by rw[hy.out],bl⟩
  ·have hy:=J (show db (aj ⟨g,leaf,r,u,d,f⟩ l)= .panicked [{v:= .iface 254 (G I 7),recovered:=g}] by
    unfold aj;rw[if_neg hl,if_pos rfl,if_neg (fun e=>hz (by unfold En.zero at e;injection e with _ a b c d e;exact⟨a,b,c,d,e⟩))];rfl)
   clear hl;generalize aj ⟨g,leaf,r,u,d,f⟩ l=c at hy⊢;cases leaf with
   |true=>((clear hz);go_enter func189,ntmps189;(go_wp2_with(go_at_call 196;first|((with_reducible refine(cB _ _).mono ?_);rintro e w' ⟨rfl,rfl⟩)|((with_reducible refine(bQ _ _).mono ?_);rintro e w' ⟨rfl,rfl⟩)));exact⟨rfl,by rw[hy.out],bl⟩)
   |false=>
    by_cases r0:r=0
    ·subst r0
     cases u with
     |true=>((clear hz);go_enter func189,ntmps189;(go_wp2_with(go_at_call 196;first|((with_reducible refine(cB _ _).mono ?_);rintro e w' ⟨rfl,rfl⟩)|((with_reducible refine(bQ _ _).mono ?_);rintro e w' ⟨rfl,rfl⟩)));exact⟨rfl,by rw[hy.out],bl⟩)
     |false=>
      cases d with
      |true=>((clear hz);go_enter func189,ntmps189;(go_wp2_with(go_at_call 196;first|((with_reducible refine(cB _ _).mono ?_);rintro e w' ⟨rfl,rfl⟩)|((with_reducible refine(bQ _ _).mono ?_);rintro e w' ⟨rfl,rfl⟩)));exact⟨rfl,by rw[hy.out],bl⟩)
      |false=>
       have f0:(f==0)=g:=by
        rw[Bool.eq_false_iff];intro h;exact hz ⟨rfl,rfl,rfl,rfl,by simpa using h⟩
       ((clear hz);go_enter func189,ntmps189;(go_wp2_with(go_at_call 196;first|((with_reducible refine(cB _ _).mono ?_);rintro e w' ⟨rfl,rfl⟩)|((with_reducible refine(bQ _ _).mono ?_);rintro e w' ⟨rfl,rfl⟩)));exact⟨rfl,by rw[hy.out],bl⟩)
    ·have r0':(r==0)=g:=by simpa using r0
     clear r0
     ((clear hz);go_enter func189,ntmps189;(go_wp2_with(go_at_call 196;first|((with_reducible refine(cB _ _).mono ?_);rintro e w' ⟨rfl,rfl⟩)|((with_reducible refine(bQ _ _).mono ?_);rintro e w' ⟨rfl,rfl⟩)));exact⟨rfl,by rw[hy.out],bl⟩)
 |true=>
  have ht:¬((⟨M,leaf,r,u,d,f⟩:En).there =g):=by simp
  by_cases hb:r<0
  ·have hy:=J (show db (aj ⟨M,leaf,r,u,d,f⟩ l)= .panicked [{v:= .iface 254 (G I 1),recovered:=g}] by
    unfold aj;rw[if_neg hl,if_neg ht,if_pos (.inl hb)];rfl)
   clear hl ht;generalize aj ⟨M,leaf,r,u,d,f⟩ l=c at hy⊢;go_enter func189,ntmps189;go_wp2_with(go_at_call 196;first|((with_reducible refine(cB _ _).mono ?_);rintro e w' ⟨rfl,rfl⟩)|((with_reducible refine(bQ _ _).mono ?_);rintro e w' ⟨rfl,rfl⟩))
   exact⟨rfl,by rw[hy.out],bl⟩
  by_cases hb:7<r
  ·have hy:=J (show db (aj ⟨M,leaf,r,u,d,f⟩ l)= .panicked [{v:= .iface 254 (G I 1),recovered:=g}] by
    unfold aj;rw[if_neg hl,if_neg ht,if_pos (.inr (.inl hb))];rfl)
   clear hl ht;generalize aj ⟨M,leaf,r,u,d,f⟩ l=c at hy⊢;go_enter func189,ntmps189;go_wp2_with(go_at_call 196;first|((with_reducible refine(cB _ _).mono ?_);rintro e w' ⟨rfl,rfl⟩)|((with_reducible refine(bQ _ _).mono ?_);rintro e w' ⟨rfl,rfl⟩))
   exact⟨rfl,by rw[hy.out],bl⟩
  by_cases hb:f<0
  ·have hy:=J (show db (aj ⟨M,leaf,r,u,d,f⟩ l)= .panicked [{v:= .iface 254 (G I 1),recovered:=g}] by
    unfold aj;rw[if_neg hl,if_neg ht,if_pos (.inr (.inr (.inl hb)))];rfl)
   clear hl ht;generalize aj ⟨M,leaf,r,u,d,f⟩ l=c at hy⊢;go_enter func189,ntmps189;go_wp2_with(go_at_call 196;first|((with_reducible refine(cB _ _).mono ?_);rintro e w' ⟨rfl,rfl⟩)|((with_reducible refine(bQ _ _).mono ?_);rintro e w' ⟨rfl,rfl⟩))
   exact⟨rfl,by rw[hy.out],bl⟩
  by_cases hb:1048576≤f
  ·have hy:=J (show db (aj ⟨M,leaf,r,u,d,f⟩ l)= .panicked [{v:= .iface 254 (G I 1),recovered:=g}] by
    unfold aj;rw[if_neg hl,if_neg ht,if_pos (.inr (.inr (.inr hb)))];rfl)
   clear hl ht;generalize aj ⟨M,leaf,r,u,d,f⟩ l=c at hy⊢;go_enter func189,ntmps189;go_wp2_with(go_at_call 196;first|((with_reducible refine(cB _ _).mono ?_);rintro e w' ⟨rfl,rfl⟩)|((with_reducible refine(bQ _ _).mono ?_);rintro e w' ⟨rfl,rfl⟩))
   exact⟨rfl,by rw[hy.out],bl⟩
  have hr:¬(r<0∨7<r∨f<0∨1048576≤f):=by omega
  have d1:decide (r<0)=g:=by simp;omega
  have d2:decide (7<r)=g:=by simp;omega
  have d3:decide (f<0)=g:=by simp;omega
  have d4:decide (1048576≤f)=g:=by simp;omega
  cases leaf with
  |false=>
   by_cases lz:l=0
   ·subst lz
    have hy:=J (show db (aj ⟨M,g,r,u,d,f⟩ 0)= .panicked [{v:= .iface 254 (G I 2),recovered:=g}] by
     unfold aj;rw[if_neg hl,if_neg ht,if_neg hr,if_pos (.inr ⟨rfl,rfl⟩)];rfl)
    clear hl ht hr;generalize aj ⟨M,g,r,u,d,f⟩ 0=c at hy⊢;go_enter func189,ntmps189;go_wp2_with(go_at_call 196;first|((with_reducible refine(cB _ _).mono ?_);rintro e w' ⟨rfl,rfl⟩)|((with_reducible refine(bQ _ _).mono ?_);rintro e w' ⟨rfl,rfl⟩))
    exact⟨rfl,by rw[hy.out],bl⟩
   have hk:¬((g=M∧l=3)∨(g=g∧l=0)):=by simp[lz]
   by_cases hx:r≠7∨u=M∨d=M
   ·have hy:=J (show db (aj ⟨M,g,r,u,d,f⟩ l)= .panicked [{v:= .iface 254 (G I 7),recovered:=g}] by
     unfold aj;rw[if_neg hl,if_neg ht,if_neg hr,if_neg hk,if_pos rfl,if_pos hx];rfl)
    clear hl ht hr hk;have lz':(l==0)=g:=by simpa using lz
    generalize aj ⟨M,g,r,u,d,f⟩ l=c at hy⊢;by_cases r7:r=7
    ·cases u with
     |true=>
      clear hx;subst r7;go_enter func189,ntmps189;go_wp2_with(go_at_call 196;first|((with_reducible refine(cB _ _).mono ?_);rintro e w' ⟨rfl,rfl⟩)|((with_reducible refine(bQ _ _).mono ?_);rintro e w' ⟨rfl,rfl⟩))
      exact⟨rfl,by rw[hy.out],bl⟩
     |false=>
      obtain rfl:d=M:=by rcases hx with hx|hx|hx;exact absurd r7 hx;cases hx;exact hx
      subst r7;clear hx;go_enter func189,ntmps189;go_wp2_with(go_at_call 196;first|((with_reducible refine(cB _ _).mono ?_);rintro e w' ⟨rfl,rfl⟩)|((with_reducible refine(bQ _ _).mono ?_);rintro e w' ⟨rfl,rfl⟩))
      exact⟨rfl,by rw[hy.out],bl⟩
    ·have r7':(r !=7)=M:=by simpa using r7
     clear hx r7;go_enter func189,ntmps189;go_wp2_with(go_at_call 196;first|((with_reducible refine(cB _ _).mono ?_);rintro e w' ⟨rfl,rfl⟩)|((with_reducible refine(bQ _ _).mono ?_);rintro e w' ⟨rfl,rfl⟩))
     exact⟨rfl,by rw[hy.out],bl⟩
   ·obtain⟨rfl,rfl,rfl⟩:r=7∧u=g∧d=g:=by
     refine⟨?_,?_,?_⟩
     ·exact Decidable.of_not_not fun h=>hx (.inl h)
     ·cases u with
      |false=>rfl
      |true=>exact absurd (.inr (.inl rfl)) hx
     ·cases d with
      |false=>rfl
      |true=>exact absurd (.inr (.inr rfl)) hx
    have hy:=J (show db (aj ⟨M,g,7,g,g,f⟩ l)= .returned (.tuple #[]) by
     unfold aj;rw[if_neg hl,if_neg ht,if_neg hr,if_neg hk,if_pos rfl,if_neg hx];rfl)
    have lz':(l==0)=g:=by simpa using lz
    clear hl ht hr hk hx lz;generalize aj ⟨M,g,7,g,g,f⟩ l=c at hy⊢;go_enter func189,ntmps189;go_wp2_with(go_at_call 196;first|((with_reducible refine(cB _ _).mono ?_);rintro e w' ⟨rfl,rfl⟩)|((with_reducible refine(bQ _ _).mono ?_);rintro e w' ⟨rfl,rfl⟩))
    go_end0
    exact⟨by rw[hy.out],bl⟩
  |true=>
   by_cases l3:l=3
   ·subst l3
    have hy:=J (show db (aj ⟨M,M,r,u,d,f⟩ 3)= .panicked [{v:= .iface 254 (G I 2),recovered:=g}] by
     unfold aj;rw[if_neg hl,if_neg ht,if_neg hr,if_pos (.inl ⟨rfl,rfl⟩)];rfl)
    clear hl ht hr;generalize aj ⟨M,M,r,u,d,f⟩ 3=c at hy⊢;go_enter func189,ntmps189;go_wp2_with(go_at_call 196;first|((with_reducible refine(cB _ _).mono ?_);rintro e w' ⟨rfl,rfl⟩)|((with_reducible refine(bQ _ _).mono ?_);rintro e w' ⟨rfl,rfl⟩))
    exact⟨rfl,by rw[hy.out],bl⟩
   have hk:¬((M=M∧l=3)∨(M=g∧l=0)):=by simp[l3]
   have hsp:aj ⟨M,M,r,u,d,f⟩ l=if f % bn l≠0 then 3 else 0:=by
    unfold aj;rw[if_neg hl,if_neg ht,if_neg hr,if_neg hk,if_neg (by simp)]
   have hl3:l=0∨l=1∨l=2:=by omega
   clear ht hr hk l3;rcases hl3 with rfl|rfl|rfl
   ·skip
    have hs:bn 0=1:=rfl;rw[hs] at hsp;have hsc:∀W,bb prog 173 #[.int .i64 0] W (Same (G I 1) W):=fun W=>by
     have:=df 0 W;rwa [hs] at this
    have HS:=J hsc;clear hs hsc;have hm:f % 1=0:=Int.emod_one f;have hy:=J (show db (aj ⟨M,M,r,u,d,f⟩ 0)= .returned (.tuple #[]) by rw[hsp,if_neg (fun h=>h hm)];rfl);have hm':(f.tmod 1 !=0)=g:=by rw[Int.tmod_eq_emod_of_nonneg (by omega)];rw[bne_eq_false_iff_eq];exact hm
    clear hl hsp hm;generalize aj ⟨M,M,r,u,d,f⟩ 0=c at hy⊢;go_enter func189,ntmps189;go_wp2_with(go_at_call 196;first|((with_reducible refine(cB _ _).mono ?_);rintro e w' ⟨rfl,rfl⟩)|((with_reducible refine(bQ _ _).mono ?_);rintro e w' ⟨rfl,rfl⟩))
    go_region_with (first|(go_at_call 174;(with_reducible refine(eM _ _).mono ?_);rintro e w' ⟨rfl,rfl⟩)|(go_at_call 173;(with_reducible refine(HS.out _).mono ?_);rintro e w' ⟨rfl,rfl⟩)|(go_at_call 196;first|((with_reducible refine(cB _ _).mono ?_);rintro e w' ⟨rfl,rfl⟩)|((with_reducible refine(bQ _ _).mono ?_);rintro e w' ⟨rfl,rfl⟩)))
    all_goals
     go_wp2;go_end0
     exact⟨by rw[hy.out],bl.drew⟩
   ·skip
    have hs:bn 1=8:=rfl;rw[hs] at hsp;have hsc:∀W,bb prog 173 #[.int .i64 1] W (Same (G I 8) W):=fun W=>by
     have:=df 1 W;rwa [hs] at this
    have HS:=J hsc;clear hs hsc;by_cases hm:f % 8=0
    ·have hy:=J (show db (aj ⟨M,M,r,u,d,f⟩ 1)= .returned (.tuple #[]) by rw[hsp,if_neg (fun h=>h hm)];rfl)
     have hm':(f.tmod 8 !=0)=g:=by rw[Int.tmod_eq_emod_of_nonneg (by omega)];rw[bne_eq_false_iff_eq];exact hm
     clear hl hsp hm;generalize aj ⟨M,M,r,u,d,f⟩ 1=c at hy⊢;go_enter func189,ntmps189;go_wp2_with(go_at_call 196;first|((with_reducible refine(cB _ _).mono ?_);rintro e w' ⟨rfl,rfl⟩)|((with_reducible refine(bQ _ _).mono ?_);rintro e w' ⟨rfl,rfl⟩))
     go_region_with (first|(go_at_call 174;(with_reducible refine(eM _ _).mono ?_);rintro e w' ⟨rfl,rfl⟩)|(go_at_call 173;(with_reducible refine(HS.out _).mono ?_);rintro e w' ⟨rfl,rfl⟩)|(go_at_call 196;first|((with_reducible refine(cB _ _).mono ?_);rintro e w' ⟨rfl,rfl⟩)|((with_reducible refine(bQ _ _).mono ?_);rintro e w' ⟨rfl,rfl⟩)))
     all_goals
      go_wp2;go_end0
      exact⟨by rw[hy.out],bl.drew⟩
    ·have hy:=J (show db (aj ⟨M,M,r,u,d,f⟩ 1)= .panicked [{v:= .iface 254 (G I 3),recovered:=g}] by rw[hsp,if_pos hm];rfl)
     have hm':(f.tmod 8 !=0)=M:=by rw[Int.tmod_eq_emod_of_nonneg (by omega)];rw[bne_iff_ne];exact hm
     clear hl hsp hm;generalize aj ⟨M,M,r,u,d,f⟩ 1=c at hy⊢;go_enter func189,ntmps189;go_wp2_with(go_at_call 196;first|((with_reducible refine(cB _ _).mono ?_);rintro e w' ⟨rfl,rfl⟩)|((with_reducible refine(bQ _ _).mono ?_);rintro e w' ⟨rfl,rfl⟩))
     have hw1:=bk (aT w) #[Z M,Z M,G I r,Z u,Z d,G I f] 70;generalize w.alloc _=W at*
     have cd:W.cell? (U w.heap.size 5 D)=N (G I f):=hw1.cells6.2.2.2.2.2;clear hw1;go_still_tail 7,(by kernel_rfl)
     still_call ((eM _ _).mono fun _ _ ⟨a,b⟩=>⟨a,b.symm⟩)
     still_call ((HS.out _).mono fun _ _ ⟨a,b⟩=>⟨a,b.symm⟩)
     repeat still_step
     try refine wpStill_nil ?_
     go_wp2_with(go_at_call 196;first|((with_reducible refine(cB _ _).mono ?_);rintro e w' ⟨rfl,rfl⟩)|((with_reducible refine(bQ _ _).mono ?_);rintro e w' ⟨rfl,rfl⟩))
     exact⟨rfl,by rw[hy.out],bl.drew⟩
   ·skip
    have hs:bn 2=64:=rfl;rw[hs] at hsp;have hsc:∀W,bb prog 173 #[.int .i64 2] W (Same (G I 64) W):=fun W=>by
     have:=df 2 W;rwa [hs] at this
    have HS:=J hsc;clear hs hsc;by_cases hm:f % 64=0
    ·have hy:=J (show db (aj ⟨M,M,r,u,d,f⟩ 2)= .returned (.tuple #[]) by rw[hsp,if_neg (fun h=>h hm)];rfl)
     have hm':(f.tmod 64 !=0)=g:=by rw[Int.tmod_eq_emod_of_nonneg (by omega)];rw[bne_eq_false_iff_eq];exact hm
     clear hl hsp hm;generalize aj ⟨M,M,r,u,d,f⟩ 2=c at hy⊢;go_enter func189,ntmps189;go_wp2_with(go_at_call 196;first|((with_reducible refine(cB _ _).mono ?_);rintro e w' ⟨rfl,rfl⟩)|((with_reducible refine(bQ _ _).mono ?_);rintro e w' ⟨rfl,rfl⟩))
     go_region_with (first|(go_at_call 174;(with_reducible refine(eM _ _).mono ?_);rintro e w' ⟨rfl,rfl⟩)|(go_at_call 173;(with_reducible refine(HS.out _).mono ?_);rintro e w' ⟨rfl,rfl⟩)|(go_at_call 196;first|((with_reducible refine(cB _ _).mono ?_);rintro e w' ⟨rfl,rfl⟩)|((with_reducible refine(bQ _ _).mono ?_);rintro e w' ⟨rfl,rfl⟩)))
     all_goals
      go_wp2;go_end0
      exact⟨by rw[hy.out],bl.drew⟩
    ·have hy:=J (show db (aj ⟨M,M,r,u,d,f⟩ 2)= .panicked [{v:= .iface 254 (G I 3),recovered:=g}] by rw[hsp,if_pos hm];rfl)
     have hm':(f.tmod 64 !=0)=M:=by rw[Int.tmod_eq_emod_of_nonneg (by omega)];rw[bne_iff_ne];exact hm
     clear hl hsp hm;generalize aj ⟨M,M,r,u,d,f⟩ 2=c at hy⊢;go_enter func189,ntmps189;go_wp2_with(go_at_call 196;first|((with_reducible refine(cB _ _).mono ?_);rintro e w' ⟨rfl,rfl⟩)|((with_reducible refine(bQ _ _).mono ?_);rintro e w' ⟨rfl,rfl⟩))
     have hw1:=bk (aT w) #[Z M,Z M,G I r,Z u,Z d,G I f] 70;generalize w.alloc _=W at*
     have cd:W.cell? (U w.heap.size 5 D)=N (G I f):=hw1.cells6.2.2.2.2.2;clear hw1;go_still_tail 7,(by kernel_rfl)
     still_call ((eM _ _).mono fun _ _ ⟨a,b⟩=>⟨a,b.symm⟩)
     still_call ((HS.out _).mono fun _ _ ⟨a,b⟩=>⟨a,b.symm⟩)
     repeat still_step
     try refine wpStill_nil ?_
     go_wp2_with(go_at_call 196;first|((with_reducible refine(cB _ _).mono ?_);rintro e w' ⟨rfl,rfl⟩)|((with_reducible refine(bQ _ _).mono ?_);rintro e w' ⟨rfl,rfl⟩))
     exact⟨rfl,by rw[hy.out],bl.drew⟩
theorem pF(b q:Nat)(th leaf u d:Bool)(r f l:Int)(w:Y)(c0:w.cell? (U b 0 D)=N (Z th))(c1:w.cell? (U b 1 D)=N (Z leaf))(c2:w.cell? (U b 2 D)=N (G I r))(c3:w.cell? (U b 3 D)=N (Z u))(c4:w.cell? (U b 4 D)=N (Z d))(c5:w.cell? (U b 5 D)=N (G I f))(c6:w.cell? (U q 0 D)=N (G I l)):
  bb prog 188 #[.pointer (N (U b 0 D)),.pointer (N (U q 0 D))] w (zh (aj ⟨th,leaf,r,u,d,f⟩ l) w):=by
 by_cases hc:aj ⟨th,leaf,r,u,d,f⟩ l=0
 ·have hy:=J (show db (aj ⟨th,leaf,r,u,d,f⟩ l)= .returned (.tuple #[]) by unfold db;rw[if_pos hc])
  have HC:=J (fun W=>mb th leaf u d r f l W);clear hc;go_enter func188,ntmps188;go_wp2_with fail
  refine(HC.out _).mono ?_;rintro e w' ⟨he,bl⟩;rw[hy.out] at he;subst he;go_wp2;go_end0
  exact⟨hy.out.symm,bl⟩
 ·have hy:=J (show db (aj ⟨th,leaf,r,u,d,f⟩ l)= .panicked [{v:= .iface 254 (G I (aj ⟨th,leaf,r,u,d,f⟩ l)),recovered:=g}] by unfold db;rw[if_neg hc])
  have HC:=J (fun W=>mb th leaf u d r f l W);clear hc;go_enter func188,ntmps188;go_wp2_with fail
  refine(HC.out _).mono ?_;rintro e w' ⟨he,bl⟩;rw[hy.out] at he;subst he;go_wp2;exact⟨rfl,hy.out.symm,bl⟩
theorem qN(b q:Nat)(th leaf u d:Bool)(r f l:Int)(w:Y)(c0:w.cell? (U b 0 D)=N (Z th))(c1:w.cell? (U b 1 D)=N (Z leaf))(c2:w.cell? (U b 2 D)=N (G I r))(c3:w.cell? (U b 3 D)=N (Z u))(c4:w.cell? (U b 4 D)=N (Z d))(c5:w.cell? (U b 5 D)=N (G I f))(c6:w.cell? (U q 0 D)=N (G I l))
  (hb:b<w.heap.size) (hq:q<w.heap.size):
  bb prog 187 #[.func (.func 188) #[] #[.pointer (N (U b 0 D)),.pointer (N (U q 0 D))]] w (b0 (G I (aj ⟨th,leaf,r,u,d,f⟩ l)) w):=by
 have hmf:∀(fn:Fn) (first cap:Array a4) (w:Y),(Instr.makeFunc fn first cap).run prog w= .ok (.func fn first cap) w:=fun _ _ _ _=>rfl;have b1:=Below.alloc (Below.refl w.heap.size w) (Nat.le_refl _) (.cells #[G I 0] 3);have k0:=(b1.cell (p:=(U b 0 D)) hb).trans c0;have k1:=(b1.cell (p:=(U b 1 D)) hb).trans c1;have k2:=(b1.cell (p:=(U b 2 D)) hb).trans c2;have k3:=(b1.cell (p:=(U b 3 D)) hb).trans c3;have k4:=(b1.cell (p:=(U b 4 D)) hb).trans c4;have k5:=(b1.cell (p:=(U b 5 D)) hb).trans c5;have k6:=(b1.cell (p:=(U q 0 D)) hq).trans c6;clear c0 c1 c2 c3 c4 c5 c6;have h1:=bk (aT w) #[G I 0] 3;by_cases hc:aj ⟨th,leaf,r,u,d,f⟩ l=0
 ·have hy:=J (show db (aj ⟨th,leaf,r,u,d,f⟩ l)= .returned (.tuple #[]) by unfold db;rw[if_pos hc])
  rw[hc];have HC:=J (pF b q th leaf u d r f l _ k0 k1 k2 k3 k4 k5 k6);clear hc k0 k1 k2 k3 k4 k5 k6;go_enter_defers func187,ntmps187
  go_wp2_with fail
  refine(HC.out).mono ?_;rintro e w2 ⟨he,bl⟩;rw[hy.out] at he;subst he;have h2:=h1.below bl;have x2:=((a7 w).alloc (.cells #[G I 0] 3)).below bl;have z0:w2.cell? (U w.heap.size 0 D)=N (G I 0):=h2.cell 0;have zf:=h2.free 0;have zl:=h2.lt;clear h1 bl hy HC;go_wp2_with fail
  refine leaves_cons (f:=195) (args:= #[.pointer (N (U w.heap.size 0 D))]) (by simp) (by simp[go_sem]) ?_;refine(o8 (U w.heap.size 0 D) _).mono ?_;rintro e u' w'' ⟨rfl,rfl,rfl⟩;have zz:(w2.setCell (U w.heap.size 0 D) (G I 0)).cell? (U w.heap.size 0 D)=N (G I 0):=(h2.set 0 (G I 0)).cell 0;simp[Leaves,settle,results,results187,go_sem,zz];exact⟨rfl,ar (h2.set 0 _).right (x2.set _ _)⟩
 ·have hy:=J (show db (aj ⟨th,leaf,r,u,d,f⟩ l)= .panicked [{v:= .iface 254 (G I (aj ⟨th,leaf,r,u,d,f⟩ l)),recovered:=g}] by unfold db;rw[if_neg hc])
  have HC:=J (pF b q th leaf u d r f l _ k0 k1 k2 k3 k4 k5 k6);clear hc k0 k1 k2 k3 k4 k5 k6;generalize aj ⟨th,leaf,r,u,d,f⟩ l=c at*
  go_enter_defers func187,ntmps187
  go_wp2_with fail
  refine(HC.out).mono ?_;rintro e w2 ⟨he,bl⟩;rw[hy.out] at he;subst he;have h2:=h1.below bl;have x2:=((a7 w).alloc (.cells #[G I 0] 3)).below bl;have z0:w2.cell? (U w.heap.size 0 D)=N (G I 0):=h2.cell 0;have zf:=h2.free 0;have zl:=h2.lt;clear h1 bl hy HC;go_wp2_with fail
  refine leaves_cons (f:=195) (args:= #[.pointer (N (U w.heap.size 0 D))]) (by simp) (by simp[go_sem]) ?_;refine(nG (U w.heap.size 0 D) 0 c [] _ z0 zf).mono ?_;rintro e u' w'' ⟨rfl,rfl,rfl⟩;have zz:(w2.setCell (U w.heap.size 0 D) (G I c)).cell? (U w.heap.size 0 D)=N (G I c):=(h2.set 0 (G I c)).cell 0;simp[Leaves,settle,results,results187,go_sem,zz];exact⟨rfl,ar (h2.set 0 _).right (x2.set _ _)⟩
theorem gR(e:En)(l:Int)(w:Y):bb prog 172 #[.agg #[Z e.there,Z e.leaf,G I e.rights,Z e.used,Z e.dirty,G I e.frame],.int .i64 l] w (b0 (G I (aj e l)) w):=by
 obtain⟨th,leaf,r,u,d,f⟩:=e;have hmf:∀(fn:Fn) (first cap:Array a4) (w:Y),(Instr.makeFunc fn first cap).run prog w= .ok (.func fn first cap) w:=fun _ _ _ _=>rfl;have h1:=(bk (aT w) #[Z th,Z leaf,G I r,Z u,Z d,G I f] 70).new #[G I l] 3;have x1:=((a7 w).alloc (.cells #[Z th,Z leaf,G I r,Z u,Z d,G I f] 70)).alloc (.cells #[G I l] 3);simp only[ax] at h1;have c6:=h1.cell 0;obtain⟨c0,c1,c2,c3,c4,c5⟩:=h1.right.cells6;have HC:=J (qN w.heap.size (w.heap.size+1) th leaf u d r f l _ c0 c1 c2 c3 c4 c5 c6 h1.right.lt h1.lt);clear c0 c1 c2 c3 c4 c5 c6;go_enter func172,ntmps172;go_wp2_with fail
 refine(HC.out).mono ?_;rintro e w2 ⟨rfl,bl⟩;go_wp2;go_ret;exact⟨rfl,ar (h1.below bl).right.right (x1.below bl)⟩
theorem oG(r f:Int)(u d lf:Bool)(r0:0≤r)(r7:r≤7)(f0:0≤f)(f1:f<1048576):
  bits .or .u64 (bits .or .u64 (bits .or .u64 (bits .or .u64 (bits .or .u64 1 (r*2)) (iS u 32)) (iS d 64)) (iS lf 128)) (f*4096)=f*4096+r*2+1+iS u 32+iS d 64+iS lf 128:=by
 have hu:iS u 32=0∨iS u 32=32:=by cases u<;>simp[iS]
 have hd:iS d 64=0∨iS d 64=64:=by cases d<;>simp[iS]
 have hl:iS lf 128=0∨iS lf 128=128:=by cases lf<;>simp[iS]
 generalize iS u 32=a at*
 generalize iS d 64=b at*
 generalize iS lf 128=c at*
 rw[bits_join_low .u64 64 (by decide) wraps_u64 1 1 (r*2) (by omega) (by omega) (by omega) (by omega) (by omega) (by omega)];rw[bits_join_low .u64 64 (by decide) wraps_u64 5 (1+r*2) a (by omega) (by omega) (by omega) (by omega) (by omega) (by omega)];rw[bits_join_low .u64 64 (by decide) wraps_u64 6 (1+r*2+a) b (by omega) (by omega) (by omega) (by omega) (by omega) (by omega)];rw[bits_join_low .u64 64 (by decide) wraps_u64 7 (1+r*2+a+b) c (by omega) (by omega) (by omega) (by omega) (by omega) (by omega)];rw[bits_join_low .u64 64 (by decide) wraps_u64 12 (1+r*2+a+b+c) (f*4096) (by omega) (by omega) (by omega) (by omega) (by omega) (by omega)];omega
set_option maxHeartbeats 2000000 in
theorem kq(e:En)(l:Int)(w:Y):bb prog 157 #[.agg #[Z e.there,Z e.leaf,G I e.rights,Z e.used,Z e.dirty,G I e.frame],.int .i64 l] w (b0 (.tuple #[G vU (bq e l),G I (aj e l)]) w):=by
 obtain⟨th,leaf,r,u,d,f⟩:=e;have h1:=bk (aT w) #[Z th,Z leaf,G I r,Z u,Z d,G I f] 70;have x1:=(a7 w).alloc (.cells #[Z th,Z leaf,G I r,Z u,Z d,G I f] 70);have HC:=J (fun W=>gR ⟨th,leaf,r,u,d,f⟩ l W);by_cases hc:aj ⟨th,leaf,r,u,d,f⟩ l=0
 ·rw[hc] at HC⊢
  cases th with
  |false=>
   have hy:=J (show bq ⟨g,leaf,r,u,d,f⟩ l=0 by unfold bq;rw[if_neg (by simp)]);clear hc;go_enter func157,ntmps157;go_wp2_with fail
   refine(HC.out _).mono ?_;rintro e w2 ⟨rfl,bl⟩;have h2:=h1.below bl;obtain⟨c0,c1,c2,c3,c4,c5⟩:=h2.cells6;go_wp2;go_ret2
   exact⟨by rw[hy.out];rfl,ar h2.right (x1.below bl)⟩
  |true=>
   have hk:=dF hc rfl;have hy:=J (show bq ⟨M,leaf,r,u,d,f⟩ l=fI ⟨M,leaf,r,u,d,f⟩ l by unfold bq;rw[if_pos ⟨hc,rfl⟩]);have r0:0≤r:=hk.r0;have r7:r≤7:=hk.r7;have f0:0≤f:=hk.f0;have f1:f<1048576:=hk.f1;have l0:=hk.l0;have l4:=hk.l4;clear hc hk;cases leaf with
   |false=>
    go_enter func157,ntmps157;go_wp2_with fail
    refine(HC.out _).mono ?_;rintro e w2 ⟨rfl,bl⟩;have h2:=h1.below bl;obtain⟨c0,c1,c2,c3,c4,c5⟩:=h2.cells6;have v0:=ae c0;have v1:=ae c1;have v2:=ae c2;have v3:=ae c3;have v4:=ae c4;have v5:=ae c5;clear c1 c2 c3 c4 c5;go_wp2;refine au (by kernel_rfl) (by kernel_rfl) ?_;repeat(first|go_big_quiet_step ((go_at_call 183;exact Same.via (j5 _ _ _)))|quiet_step ((go_at_call 183;exact Same.via (j5 _ _ _))))
    refine wpQuiet_nil ?_;intro _ hw';obtain⟨uq,hw''⟩:=hw';subst hw'';go_wp2;go_ret2
    refine⟨?_,ar (h2.via _).right ((x1.below bl).below (aE _ _))⟩;rw[hy.out];show af (.tuple #[G vU _,G I 0])=_;refine congrArg (fun n:Int=>af (.tuple #[G vU n,G I 0])) ?_;exact(oG r f u d _ r0 r7 f0 f1).trans (by unfold fI;simp)
   |true=>
    by_cases lz:l=0
    ·subst lz
     go_enter func157,ntmps157;go_wp2_with fail
     refine(HC.out _).mono ?_;rintro e w2 ⟨rfl,bl⟩;have h2:=h1.below bl;obtain⟨c0,c1,c2,c3,c4,c5⟩:=h2.cells6;have v0:=ae c0;have v1:=ae c1;have v2:=ae c2;have v3:=ae c3;have v4:=ae c4;have v5:=ae c5;clear c1 c2 c3 c4 c5;go_wp2;refine au (by kernel_rfl) (by kernel_rfl) ?_;repeat(first|go_big_quiet_step ((go_at_call 183;exact Same.via (j5 _ _ _)))|quiet_step ((go_at_call 183;exact Same.via (j5 _ _ _))))
     refine wpQuiet_nil ?_;intro _ hw';obtain⟨uq,hw''⟩:=hw';subst hw'';go_wp2;go_ret2
     refine⟨?_,ar (h2.via _).right ((x1.below bl).below (aE _ _))⟩;rw[hy.out];show af (.tuple #[G vU _,G I 0])=_;refine congrArg (fun n:Int=>af (.tuple #[G vU n,G I 0])) ?_;exact(oG r f u d _ r0 r7 f0 f1).trans (by unfold fI;simp)
    ·have l1:0<l:=by omega
     have hz:=J (show(l !=0)=M by simpa using lz);clear lz;go_enter func157,ntmps157;go_wp2_with fail
     refine(HC.out _).mono ?_;rintro e w2 ⟨rfl,bl⟩;have h2:=h1.below bl;obtain⟨c0,c1,c2,c3,c4,c5⟩:=h2.cells6;have v0:=ae c0;have v1:=ae c1;have v2:=ae c2;have v3:=ae c3;have v4:=ae c4;have v5:=ae c5;clear c1 c2 c3 c4 c5;go_wp2;refine au (by kernel_rfl) (by kernel_rfl) ?_;repeat(first|go_big_quiet_step ((go_at_call 183;exact Same.via (j5 _ _ _)))|quiet_step ((go_at_call 183;exact Same.via (j5 _ _ _))))
     refine wpQuiet_nil ?_;intro _ hw';obtain⟨uq,hw''⟩:=hw';subst hw'';go_wp2;go_ret2
     refine⟨?_,ar (h2.via _).right ((x1.below bl).below (aE _ _))⟩;rw[hy.out];show af (.tuple #[G vU _,G I 0])=_;refine congrArg (fun n:Int=>af (.tuple #[G vU n,G I 0])) ?_;exact(oG r f u d _ r0 r7 f0 f1).trans (by unfold fI;rw[hz.out];simp)
 ·have hy:=J (show bq ⟨th,leaf,r,u,d,f⟩ l=0 from mF hc)
  have hn:(aj ⟨th,leaf,r,u,d,f⟩ l !=0)=M:=by simpa using hc
  clear hc;generalize aj ⟨th,leaf,r,u,d,f⟩ l=c at*
  go_enter func157,ntmps157;go_wp2_with fail
  refine(HC.out _).mono ?_;rintro e w2 ⟨rfl,bl⟩;have h2:=h1.below bl;go_wp2;go_ret2
  exact⟨by rw[hy.out];rfl,ar h2.right (x1.below bl)⟩
theorem jV(W m k:Nat):W&&& (m*2 ^ k)=((W / 2 ^ k)&&& m)*2 ^ k:=by
 apply Nat.eq_of_testBit_eq;intro i;rw[Nat.testBit_and,Nat.testBit_mul_two_pow,Nat.testBit_mul_two_pow,Nat.testBit_and,Nat.testBit_div_two_pow];by_cases h:k≤i
 ·rw[show i - k+k=i by omega]
  simp[h]
 ·simp[h]
theorem sE(W:Nat):(W&&& 18446744069414588176=0)↔(W / 16 % 2=0∧W / 256 % 16=0∧W / 4294967296 % 4294967296=0):=by
 have e:18446744069414588176=(1*2 ^ 4)|||((15*2 ^ 8)|||(4294967295*2 ^ 32)):=by decide
 have a1:∀x:Nat,x&&& 1=x % 2:=fun x=>Nat.and_two_pow_sub_one_eq_mod x 1;have a2:∀x:Nat,x&&& 15=x % 16:=fun x=>Nat.and_two_pow_sub_one_eq_mod x 4;have a3:∀x:Nat,x&&& 4294967295=x % 4294967296:=fun x=>Nat.and_two_pow_sub_one_eq_mod x 32;rw[e,Nat.and_or_distrib_left,Nat.and_or_distrib_left,jV,jV,jV,a1,a2,a3,Nat.or_eq_zero_iff,Nat.or_eq_zero_iff];omega
theorem lU(n:Nat)(h:n<18446744073709551616):(BitVec.ofInt 64 (n:Int)).toNat =n:=by
 rw[BitVec.ofInt_natCast,BitVec.toNat_ofNat];omega
theorem xq(n:Nat)(h:n<18446744073709551616):IntKind.u64.wrap (n:Int)=n:=by rw[IntKind.wrap_u64];omega
def jy(w:Int):Bool:= !(decide (w / 16 % 2=0)&&(decide (w / 256 % 16=0)&&decide (w<4294967296)))
theorem oH(w:Int)(h0:0≤w)(h1:w<18446744073709551616):(bits .andNot .u64 w 4294963439 !=0)=jy w:=by
 obtain⟨n,rfl⟩:=bf h0;have hv:bits .andNot .u64 (n:Int) 4294963439=((n&&& 18446744069414588176:Nat):Int):=by
  show IntKind.u64.wrap ((BitVec.ofInt 64 (n:Int)&&& ~~~BitVec.ofInt 64 ((4294963439:Nat):Int)).toNat :Int)=_;rw[BitVec.toNat_and,BitVec.toNat_not,lU n (by omega),lU 4294963439 (by decide)];rw[show 2 ^ 64 - 1 - 4294963439=18446744069414588176 by decide];exact xq _ (Nat.lt_of_le_of_lt Nat.and_le_left (by omega))
 rw[hv];have hk:=sE n;unfold jy;by_cases h:n&&& 18446744069414588176=0
 ·rw[h]
  obtain⟨a,b,c⟩:=hk.1 h;have a':(n:Int) / 16 % 2=0:=by omega
  have b':(n:Int) / 256 % 16=0:=by omega
  have c':(n:Int)<4294967296:=by omega
  simp[a',b',c']
 ·have:(((n&&& 18446744069414588176:Nat):Int) !=0)=M:=by
   rw[bne_iff_ne];omega
  rw[this];symm;rw[Bool.not_eq_true',Bool.eq_false_iff];intro hh;simp only[Bool.and_eq_true,decide_eq_true_eq] at hh;obtain⟨a,b,c⟩:=hh;exact h (hk.2 ⟨by omega,by omega,by omega⟩)
theorem oI(w:Int)(k:Nat)(hk:k<64)(h0:0≤w)(h1:w<18446744073709551616):(bits .and .u64 w ((2 ^ k:Nat):Int) !=0)=aK w ((2 ^ k:Nat):Int):=by
 obtain⟨n,rfl⟩:=bf h0;have hp:2 ^ k<18446744073709551616:=by
  have:2 ^ k<2 ^ 64:=Nat.pow_lt_pow_right (by omega) hk;simpa using this
 have hv:bits .and .u64 (n:Int) ((2 ^ k:Nat):Int)=((n / 2 ^ k % 2*2 ^ k:Nat):Int):=by
  show IntKind.u64.wrap ((BitVec.ofInt 64 (n:Int)&&& BitVec.ofInt 64 ((2 ^ k:Nat):Int)).toNat :Int)=_;rw[BitVec.toNat_and,lU n (by omega),lU _ hp];have a1:∀x:Nat,x&&& 1=x % 2:=fun x=>Nat.and_two_pow_sub_one_eq_mod x 1;have:=jV n 1 k;rw[Nat.one_mul,a1] at this;rw[this];exact xq _ (by rw[←this];exact Nat.lt_of_le_of_lt Nat.and_le_left (by omega))
 rw[hv];unfold aK;rw[←Int.natCast_ediv];have hpos:0<2 ^ k:=Nat.two_pow_pos k;have:n / 2 ^ k % 2=0∨n / 2 ^ k % 2=1:=by omega
 generalize n / 2 ^ k=m at*
 rcases this with h|h
 ·have e:(m:Int) % 2=0:=by omega
  rw[h,e,Nat.zero_mul];rfl
 ·have e:(m:Int) % 2=1:=by omega
  rw[h,e];rw[bne_iff_ne.2 (by omega)];rfl
theorem zj(w:Int)(h0:0≤w)(h1:w<18446744073709551616):(bits .and .u64 w 32 !=0)=aK w 32:=oI w 5 (by decide) h0 h1
theorem zk(w:Int)(h0:0≤w)(h1:w<18446744073709551616):(bits .and .u64 w 64 !=0)=aK w 64:=oI w 6 (by decide) h0 h1
theorem ye(w:Int)(h0:0≤w)(h1:w<18446744073709551616):(bits .and .u64 w 128 !=0)=aK w 128:=oI w 7 (by decide) h0 h1
theorem Ar(w:Int)(h0:0≤w)(h1:w<18446744073709551616):bits .and .u64 w 1=w % 2:=by
 have h:=bits_mask .u64 64 (by decide) wraps_u64 1 (by decide) w h0 (by omega);simpa using h
theorem As(w:Int)(h0:0≤w)(h1:w<18446744073709551616):bits .and .u64 (w / 2) 7=w / 2 % 8:=by
 have h:=bits_mask .u64 64 (by decide) wraps_u64 3 (by decide) (w / 2) (by omega) (by omega);simpa using h
def fv(w l:Int):a4:= .tuple #[.agg #[Z (aD w l).there,Z (aD w l).leaf,G I (aD w l).rights,Z (aD w l).used,Z (aD w l).dirty,G I (aD w l).frame],G I (br w l)]
theorem dh{w l c:Int}(h:br w l=c)(hc:c≠0∨w=0):fv w l= .tuple #[.agg #[Z g,Z g,G I 0,Z g,Z g,G I 0],G I c]:=by
 unfold fv;have:aD w l=En.zero:=by
  unfold aD;rw[if_neg];rintro⟨a,b⟩;rcases hc with hc|hc
  ·exact hc (h▸a)
  ·exact b hc
 rw[this,h];rfl
theorem kr{w l:Int}(hl:0≤l∧l<4)(h:jy w=M∨(w % 2=0∧w≠0)∨(l=0∧aK w 128=M)):br w l=7:=by
 unfold br;rw[if_neg (by omega),if_pos];rintro⟨a,b,c,d,e⟩;rcases h with h|h|⟨h1,h2⟩
 ·unfold jy at h
  simp[a,b,c] at h
 ·omega
 ·have:=e h1
  unfold aK at h2;simp at h2;omega
theorem rJ{w l:Int}(hl:0≤l∧l<4)(h1:jy w=g)(h2:w=0∨w % 2=1)(h3:l=0→aK w 128=g):br w l=if w=0 then 0 else aj (dC w l) l:=by
 unfold br;rw[if_neg (by omega),if_neg];rw[Decidable.not_not];unfold jy at h1;simp at h1;obtain⟨a,b,c⟩:=h1;refine⟨a,b,c,h2,fun e=> ?_⟩;have:=h3 e;unfold aK at this;simp at this;omega
theorem fw{e:En}{l a:Int}(h:aj e l≠0∨e.leaf=g∨cY a=g):aB e l a=Mp.zero:=by
 unfold aB;rw[if_neg];rintro⟨h1,h2,h3,h4⟩;rcases h with h|h|h
 ·exact h h1
 ·rw[h] at h2;cases h2
 ·unfold cY at h
  simp at h;omega
theorem Has.set6{w:Y}{R:ab}{b:Nat}{v0 v1 v2 v3 v4 v5:a4}{t:TypeId}(h:ag w (aa b #[v0,v1,v2,v3,v4,v5] t*R))(u0 u1 u2 u3 u4 u5:a4):
  ag ((((((w.setCell (U b 0 D) u0).setCell (U b 1 D) u1).setCell (U b 2 D) u2).setCell (U b 3 D) u3).setCell (U b 4 D) u4).setCell (U b 5 D) u5) (aa b #[u0,u1,u2,u3,u4,u5] t*R):=
 (((((h.set 0 u0).set 1 u1).set 2 u2).set 3 u3).set 4 u4).set 5 u5
theorem Has.frees6{w:Y}{R:ab}{b:Nat}{v0 v1 v2 v3 v4 v5:a4}{t:TypeId}(h:ag w (aa b #[v0,v1,v2,v3,v4,v5] t*R)):
  w.frozen? (U b 0 D)=g∧w.frozen? (U b 1 D)=g∧w.frozen? (U b 2 D)=g∧w.frozen? (U b 3 D)=g∧w.frozen? (U b 4 D)=g∧w.frozen? (U b 5 D)=g:=
 ⟨h.free 0,h.free 1,h.free 2,h.free 3,h.free 4,h.free 5⟩
theorem am{P:Program}{fn:Func}{R:Ending→Y→Prop}{a:Act}{w:Y}(F:Y→Prop)(hF:F w)(h:∀wz,F wz→bodyPost P fn R .ret a wz):bodyPost P fn R .ret a w:=h w hF
section
variable {P:Program} {fn:Func} {tmps:Array a4} {w:Y}
theorem aG{a:Nat}{t:TypeId}{p:b4}{v:a4}(hr:fn.results= #[.cell a t])(ha:tmps.getD a undef= .pointer (N p))(hl:(loadVar t p).run P w= .ok v w):(results fn tmps).run P w= .ok v w:=by
 unfold results;rw[hr];simp only[Array.getD_eq_getD_getElem?] at ha;simp[asAddr,ha,hl]
theorem aA{a b:Nat}{t:TypeId}{p:b4}{v u:a4}(hr:fn.results= #[.cell a t,.tmp b])(ha:tmps.getD a undef= .pointer (N p))(hb:tmps.getD b undef=u)(hl:(loadVar t p).run P w= .ok v w):
  (results fn tmps).run P w= .ok (.tuple #[v,u]) w:=by
 unfold results;rw[hr];simp only[Array.getD_eq_getD_getElem?] at ha hb;simp[asAddr,ha,hb,hl]
theorem bg{a b c:Nat}{t:TypeId}{p:b4}{v u x:a4}(hr:fn.results= #[.cell a t,.tmp b,.tmp c])(ha:tmps.getD a undef= .pointer (N p))(hb:tmps.getD b undef=u)(hc:tmps.getD c undef=x)(hl:(loadVar t p).run P w= .ok v w):
  (results fn tmps).run P w= .ok (.tuple #[v,u,x]) w:=by
 unfold results;rw[hr];simp only[Array.getD_eq_getD_getElem?] at ha hb hc;simp[asAddr,ha,hb,hc,hl]
end
theorem bw{w:Y}{R:ab}{b:Nat}{v0 v1 v2 v3 v4 v5:a4}(h:ag w (aa b #[v0,v1,v2,v3,v4,v5] 70*R)):(loadVar 70 (U b 0 D)).run prog w= .ok (.agg #[v0,v1,v2,v3,v4,v5]) w:=
 run_loadVar_row w b 70 70 _ _ _ h.heap underlying70 rfl (by kernel_rfl)
theorem bh{w:Y}{R:ab}{b:Nat}{v0 v1 v2 v3:a4}(h:ag w (aa b #[v0,v1,v2,v3] 39*R)):(loadVar 39 (U b 0 D)).run prog w= .ok (.agg #[v0,v1,v2,v3]) w:=
 run_loadVar_row w b 39 39 _ _ _ h.heap underlying39 rfl (by kernel_rfl)
theorem bj{w:Y}{R:ab}{b:Nat}{v0 v1 v2:a4}(h:ag w (aa b #[v0,v1,v2] 34*R)):(loadVar 34 (U b 0 D)).run prog w= .ok (.agg #[v0,v1,v2]) w:=
 run_loadVar_row w b 34 34 _ _ _ h.heap underlying34 rfl (by kernel_rfl)
theorem dx{w:Y}{R:ab}{b:Nat}{v0 v1:a4}(h:ag w (aa b #[v0,v1] 27*R)):(loadVar 27 (U b 0 D)).run prog w= .ok (.agg #[v0,v1]) w:=
 run_loadVar_row w b 27 27 _ _ _ h.heap underlying27 rfl (by kernel_rfl)
set_option maxHeartbeats 4000000 in
theorem kt(w l:Int)(W:Y)(h0:0≤w)(h1:w<18446744073709551616):bb prog 171 #[.int .u64 w,.int .i64 l] W (b0 (fv w l) W):=by
 have hw:=bk (aT W) #[Z g,Z g,G I 0,Z g,Z g,G I 0] 70;have xw:=(a7 W).alloc (.cells #[Z g,Z g,G I 0,Z g,Z g,G I 0] 70);by_cases l0:l<0
 ·have hy:=J (dh (w:=w) (l:=l) (c:=1) (by unfold br;rw[if_pos (.inl l0)]) (.inl (by decide)))
  generalize fv _ l=V at hy⊢;go_enter func171,ntmps171;go_wp2
  all_goals exact ad (aA results171 rfl rfl (bw hw)) rfl ⟨congrArg af hy.out.symm,ar hw.right xw⟩
 by_cases l4:4≤l
 ·have hy:=J (dh (w:=w) (l:=l) (c:=1) (by unfold br;rw[if_pos (.inr l4)]) (.inl (by decide)))
  generalize fv _ l=V at hy⊢;go_enter func171,ntmps171;go_wp2
  all_goals exact ad (aA results171 rfl rfl (bw hw)) rfl ⟨congrArg af hy.out.symm,ar hw.right xw⟩
 have e1:=Ar w h0 h1;have e7:=As w h0 h1;have e32:=zj w h0 h1;have e64:=zk w h0 h1;have e128:=ye w h0 h1;have eA:=oH w h0 h1;have hl:0≤l∧l<4:=by omega
 cases hs:jy w with
 |true=>
  have hy:=J (dh (kr hl (.inl hs)) (.inl (by decide)));rw[hs] at eA;clear hs hl;generalize fv _ l=V at hy⊢;go_enter func171,ntmps171;go_wp2
  all_goals exact ad (aA results171 rfl rfl (bw hw)) rfl ⟨congrArg af hy.out.symm,ar hw.right xw⟩
 |false=>
  rw[hs] at eA;by_cases wz:w=0
  ·subst wz
   have hy:=J (dh (w:=0) (l:=l) (c:=0) (by rw[rJ hl hs (.inl rfl) (fun _=>rfl)];rfl) (.inr rfl));have z:(bits .and .u64 0 128 !=0)=g:=rfl;clear hs hl e1 e7 e32 e64 e128;have e1:bits .and .u64 0 1=0:=rfl;generalize fv _ l=V at hy⊢;go_enter func171,ntmps171;go_wp2
   all_goals exact ad (aA results171 rfl rfl (bw hw)) rfl ⟨congrArg af hy.out.symm,ar hw.right xw⟩
  have wz':(w !=0)=M:=by simpa using wz
  have wz'':(w==0)=g:=by simpa using wz
  by_cases w1:w % 2=0
  ·have hy:=J (dh (kr hl (.inr (.inl ⟨w1,wz⟩))) (.inl (by decide)))
   have w1':(w % 2==0)=M:=by simpa using w1
   clear hs hl w1 wz;generalize fv _ l=V at hy⊢;go_enter func171,ntmps171;go_wp2
   all_goals exact ad (aA results171 rfl rfl (bw hw)) rfl ⟨congrArg af hy.out.symm,ar hw.right xw⟩
  have w1':(w % 2==0)=g:=by simpa using w1
  have w2:w % 2=1:=by omega
  by_cases lz:l=0∧aK w 128=M
  ·obtain⟨rfl,lb⟩:=lz
   have hy:=J (dh (kr hl (.inr (.inr ⟨rfl,lb⟩))) (.inl (by decide)));rw[lb] at e128;clear hs hl w1 wz w2 lb;generalize fv _ 0=V at hy⊢;go_enter func171,ntmps171;go_wp2
   all_goals exact ad (aA results171 rfl rfl (bw hw)) rfl ⟨congrArg af hy.out.symm,ar hw.right xw⟩
  have hd:br w l=aj (dC w l) l:=by
   rw[rJ hl hs (.inr w2) (fun e=> ?_),if_neg wz];cases hb:aK w 128 with
   |false=>rfl
   |true=>exact absurd ⟨e,hb⟩ lz
  have b32:w<4294967296:=by
   unfold jy at hs;simp at hs;exact hs.2.2
  have hv0:br w l=0→fv w l= .tuple #[.agg #[Z M,Z (dC w l).leaf,G I (w / 2 % 8),Z (aK w 32),Z (aK w 64),G I (w / 4096)],G I 0]:=fun hc=>by
   unfold fv aD;rw[if_pos ⟨hc,wz⟩,hc];rfl
  have hv0:=J hv0;by_cases l00:l=0
  ·subst l00
   have he:dC w 0=⟨M,M,w / 2 % 8,aK w 32,aK w 64,w / 4096⟩:=rfl;have e128':aK w 128=g:=by
    cases hb:aK w 128 with
    |false=>rfl
    |true=>exact absurd ⟨rfl,hb⟩ lz
   rw[e128'] at e128;clear e128';have HC:∀X,bb prog 172 #[.agg #[Z M,Z (M),G I (w / 2 % 8),Z (aK w 32),Z (aK w 64),G I (w / 4096)],.int .i64 0] X (b0 (G I (br w 0)) X):=fun X=>by
    have:=gR (dC w 0) 0 X;rw[←hd,he] at this;exact this
   have HC:=J HC;rw[he] at hv0;have hx:=hw.new #[Z M,Z (M),G I (w / 2 % 8),Z (aK w 32),Z (aK w 64),G I (w / 4096)] 70;have xx:=xw.alloc (.cells #[Z M,Z (M),G I (w / 2 % 8),Z (aK w 32),Z (aK w 64),G I (w / 4096)] 70);simp only[ax] at hx;have hno:=J (fun hc=>dh (w:=w) (l:=0) (c:=br w 0) rfl (.inl hc));clear hs hl w1 wz w2 lz hd he;by_cases hc:br w 0=0
   ·have hy:=J (hv0.out hc)
    rw[hc] at HC;clear hc hv0 hno;generalize fv w 0=V at hy⊢;go_enter func171,ntmps171;go_wp2_with fail
    refine(HC.out _).mono ?_;rintro e w2 ⟨rfl,bl⟩;have h2:=hx.below bl;have x2:=xx.below bl;obtain⟨c0,c1,c2,c3,c4,c5⟩:=h2.cells6;obtain⟨d0,d1,d2,d3,d4,d5⟩:=h2.right.cells6;obtain⟨f0,f1,f2,f3,f4,f5⟩:=h2.right.frees6;have l2:=h2.right.lt;clear HC bl hx xx hw xw;go_wp2;refine am (fun wz=>ag wz (aa W.heap.size #[Z M,Z (M),G I (w / 2 % 8),Z (aK w 32),Z (aK w 64),G I (w / 4096)] 70*bE W W.heap.size)∧bi W wz) ⟨h2.right.set6 _ _ _ _ _ _,ah⟩ ?_;rintro wz ⟨hz,xz⟩;exact ad (aA results171 rfl rfl (bw hz)) rfl ⟨congrArg af hy.out.symm,ar hz.right xz⟩
   ·have hy:=J (hno.out hc)
    have hn:(br w 0 !=0)=M:=by simpa using hc
    clear hc hv0 hno;generalize fv w 0=V at hy⊢;generalize br w 0=c at*
    go_enter func171,ntmps171;go_wp2_with fail
    refine(HC.out _).mono ?_;rintro e w2 ⟨rfl,bl⟩;have h2:=hx.below bl;have x2:=xx.below bl;obtain⟨c0,c1,c2,c3,c4,c5⟩:=h2.cells6;obtain⟨d0,d1,d2,d3,d4,d5⟩:=h2.right.cells6;obtain⟨f0,f1,f2,f3,f4,f5⟩:=h2.right.frees6;have l2:=h2.right.lt;clear HC bl hx xx hw xw;go_wp2;refine am (fun wz=>ag wz (aa W.heap.size #[Z g,Z g,G I 0,Z g,Z g,G I 0] 70*bE W W.heap.size)∧bi W wz) ⟨h2.right.set6 _ _ _ _ _ _,ah⟩ ?_;rintro wz ⟨hz,xz⟩;exact ad (aA results171 rfl rfl (bw hz)) rfl ⟨congrArg af hy.out.symm,ar hz.right xz⟩
  ·have l00':(l==0)=g:=by simpa using l00
   have he:dC w l=⟨M,aK w 128,w / 2 % 8,aK w 32,aK w 64,w / 4096⟩:=by unfold dC;rw[l00'];rfl
   clear l00;have HC:∀X,bb prog 172 #[.agg #[Z M,Z (aK w 128),G I (w / 2 % 8),Z (aK w 32),Z (aK w 64),G I (w / 4096)],.int .i64 l] X (b0 (G I (br w l)) X):=fun X=>by
    have:=gR (dC w l) l X;rw[←hd,he] at this;exact this
   have HC:=J HC;rw[he] at hv0;have hx:=hw.new #[Z M,Z (aK w 128),G I (w / 2 % 8),Z (aK w 32),Z (aK w 64),G I (w / 4096)] 70;have xx:=xw.alloc (.cells #[Z M,Z (aK w 128),G I (w / 2 % 8),Z (aK w 32),Z (aK w 64),G I (w / 4096)] 70);simp only[ax] at hx;have hno:=J (fun hc=>dh (w:=w) (l:=l) (c:=br w l) rfl (.inl hc));clear hs hl w1 wz w2 lz hd he;by_cases hc:br w l=0
   ·have hy:=J (hv0.out hc)
    rw[hc] at HC;clear hc hv0 hno;generalize fv w l=V at hy⊢;go_enter func171,ntmps171;go_wp2_with fail
    refine(HC.out _).mono ?_;rintro e w2 ⟨rfl,bl⟩;have h2:=hx.below bl;have x2:=xx.below bl;obtain⟨c0,c1,c2,c3,c4,c5⟩:=h2.cells6;obtain⟨d0,d1,d2,d3,d4,d5⟩:=h2.right.cells6;obtain⟨f0,f1,f2,f3,f4,f5⟩:=h2.right.frees6;have l2:=h2.right.lt;clear HC bl hx xx hw xw;go_wp2;refine am (fun wz=>ag wz (aa W.heap.size #[Z M,Z (aK w 128),G I (w / 2 % 8),Z (aK w 32),Z (aK w 64),G I (w / 4096)] 70*bE W W.heap.size)∧bi W wz) ⟨h2.right.set6 _ _ _ _ _ _,ah⟩ ?_;rintro wz ⟨hz,xz⟩;exact ad (aA results171 rfl rfl (bw hz)) rfl ⟨congrArg af hy.out.symm,ar hz.right xz⟩
   ·have hy:=J (hno.out hc)
    have hn:(br w l !=0)=M:=by simpa using hc
    clear hc hv0 hno;generalize fv w l=V at hy⊢;generalize br w l=c at*
    go_enter func171,ntmps171;go_wp2_with fail
    refine(HC.out _).mono ?_;rintro e w2 ⟨rfl,bl⟩;have h2:=hx.below bl;have x2:=xx.below bl;obtain⟨c0,c1,c2,c3,c4,c5⟩:=h2.cells6;obtain⟨d0,d1,d2,d3,d4,d5⟩:=h2.right.cells6;obtain⟨f0,f1,f2,f3,f4,f5⟩:=h2.right.frees6;have l2:=h2.right.lt;clear HC bl hx xx hw xw;go_wp2;refine am (fun wz=>ag wz (aa W.heap.size #[Z g,Z g,G I 0,Z g,Z g,G I 0] 70*bE W W.heap.size)∧bi W wz) ⟨h2.right.set6 _ _ _ _ _ _,ah⟩ ?_;rintro wz ⟨hz,xz⟩;exact ad (aA results171 rfl rfl (bw hz)) rfl ⟨congrArg af hy.out.symm,ar hz.right xz⟩
section
variable {P:Program} {md:Region.Mode} {ops:Array Oper} {Q:Exit→Act→Y→Prop} (S:Array Bool→Y→Prop)
def mc(P:Program)(md:Region.Mode)(ops:Array Oper)(Q:Exit→Act→Y→Prop):Nat→Array Bool→Act→Y→Prop
 |0,L,a,w=>Region.ready md ops L=[]∧Q .normal a w
 |n+1,L,a,w=>(Region.ready md ops L=[]→Q .normal a w)∧
   ∀k,k∈Region.ready md ops L→wpOp P ops Q k (fun b u=>S (L.setIfInBounds k M) u∧mc P md ops Q n (L.setIfInBounds k M) b u) a w
variable {S}
theorem pG:∀{n:Nat} {L:Array Bool} {a:Act} {w:Y},mc S P md ops Q n L a w→wpAny P md ops Q n L a w
 |0,_,_,_,h=>h
 |_+1,_,_,_,⟨h1,h2⟩=>⟨h1,fun k hk=>wpOp_mono (fun _ _ h=>pG h.2) (h2 k hk)⟩
def xr(S:Array Bool→Y→Prop)(i:Nat)(w:Y):Prop:=∃L,L.getD i g=g∧S L w
structure Good (md:Region.Mode) (ops:Array Oper) (i:Nat) (S:Array Bool→Y→Prop):Prop where
 up:∀L w,S L w→S (L.setIfInBounds i M) w
 back:∀(L:Array Bool) (j:Nat) (oj:Oper) (w w':Y),S L w→L.getD i g=g→ops[j]? =N oj→j≠i→(∀e∈oj.after,Region.binds md e=M→e.on≠i)→
  S ((L.setIfInBounds j M).setIfInBounds i M) w'→S (L.setIfInBounds j M) w'
theorem Good.and{i:Nat}{S T:Array Bool→Y→Prop}(h1:Good md ops i S)(h2:Good md ops i T):Good md ops i fun L w=>S L w∧T L w:=
 ⟨fun L w h=>⟨h1.up L w h.1,h2.up L w h.2⟩,fun L j oj w w' h hi ho hj hn h'=>⟨h1.back L j oj w w' h.1 hi ho hj hn h'.1,h2.back L j oj w w' h.2 hi ho hj hn h'.2⟩⟩
def Till(k d:Nat)(p:Y→Prop)(L:Array Bool)(w:Y):Prop:=(L.getD k g=M→L.getD d g=M)∧(L.getD k g=g→p w)
theorem pH{L:Array Bool}{j k:Nat}(h:(L.setIfInBounds j M).getD k g=M):k=j∨L.getD k g=M:=by
 by_cases e:j=k
 ·exact .inl e.symm
 ·rw[getD_set_ne g e] at h
  exact .inr h
theorem Good.till{i k d:Nat}{p:Y→Prop}(hk:i≠k)(hd:∃o e,ops[k]? =N o∧e∈o.after∧Region.binds md e=M∧e.on=d):Good md ops i (Till k d p):=by
 constructor
 ·rintro L w ⟨h1,h2⟩
  constructor
  ·intro h
   rw[getD_set_ne g hk] at h;exact getD_set_true (h1 h)
  ·intro h
   rw[getD_set_ne g hk] at h;exact h2 h
 ·rintro L j oj w w' ⟨h1,_⟩ hi hoj hj hn ⟨g1,g2⟩
  constructor
  ·intro h
   have hd':=g1 (getD_set_true h);by_cases e:i=d
   ·exfalso
    rcases pH h with hkj|hkj
    ·obtain⟨o,x,ho,hx,hb,hxd⟩:=hd
     rw[hkj,hoj] at ho;injection ho with ho
     subst ho;exact hn x hx hb (hxd.trans e.symm)
    ·have:=h1 hkj
     rw[←e,hi] at this;cases this
   ·rwa [getD_set_ne g e] at hd'
  ·intro h
   refine g2 ?_;rw[getD_set_ne g hk];exact h
theorem Till.still{k d:Nat}{p:Y→Prop}{w:Y}{L:Array Bool}(h:Till k d p L w)(hd:L.getD d g=g):p w:=by
 refine h.2 ?_;cases hk:L.getD k g with
 |false=>rfl
 |true=>rw[h.1 hk] at hd;cases hd
theorem aS{b:Bool}{p:Prop}(h:b=M)(h':b=g):p:=by rw[h] at h';cases h'
theorem Till.start{k d n:Nat}{p:Y→Prop}{w:Y}(h:p w):Till k d p (Array.replicate n g) w:=by
 have e:(Array.replicate n g).getD k g=g:=by
  rcases Nat.lt_or_ge k n with h|h
  ·simp[h]
  ·simp[h]
 exact⟨fun h=>(by rw[e] at h;cases h),fun _=>h⟩
theorem qO{i:Nat}{o:Oper}{v:a4}(hi:ops[i]? =N o)(hsel:∀(j:Nat) (o:Oper) cs b,ops[j]? =N o→o.op≠ .select cs b)
  (hQ:∀c a w,Q (.panic c) (a.put o.dst v) w→Q (.panic c) a w) (hG:Good md ops i S):
  ∀(n:Nat) (L:Array Bool) (a:Act) (w:Y),
   (∀j oj,ops[j]? =N oj→j≠i→L.getD j M=g→(∀e∈oj.after,Region.binds md e=M→e.on≠i)→o.apart ops oj=M)→
   i∈Region.ready md ops L→YieldsIf P ops (xr S i) o v a→S L w→
   mc S P md ops Q n (L.setIfInBounds i M) (a.put o.dst v) w→mc S P md ops Q (n+1) L a w:=by
 intro n;induction n with
 |zero=>
  intro L a w _ hr hy h0 H;have hun:L.getD i g=g:=by
   have:=(mem_ready.1 hr).1;rcases Nat.lt_or_ge i L.size with h|h
   ·simpa [h] using this
   ·simp[Array.getElem?_eq_none h]
  constructor
  ·intro h
   rw[h] at hr;cases hr
  ·intro j hj
   by_cases e:j=i
   ·subst e
    exact hy.wpOp hi ⟨L,hun,h0⟩ ⟨hG.up _ _ h0,H⟩
   ·have hm:=ready_mono hj e
    rw[H.1] at hm;cases hm
 |succ n ih=>
  intro L a w hfree hr hy h0 H;have hun:L.getD i g=g:=by
   have:=(mem_ready.1 hr).1;rcases Nat.lt_or_ge i L.size with h|h
   ·simpa [h] using this
   ·simp[Array.getElem?_eq_none h]
  constructor
  ·intro h
   rw[h] at hr;cases hr
  ·intro j hj
   by_cases e:j=i
   ·subst e
    exact hy.wpOp hi ⟨L,hun,h0⟩ ⟨hG.up _ _ h0,H⟩
   ·obtain⟨hjun,oj,hoj,hall⟩:=mem_ready.1 hj
    have hno:∀x∈oj.after,Region.binds md x=M→x.on≠i:=by
     intro x hx hb he;have hl:=hall x hx hb;rw[he,hun] at hl;cases hl
    have step:=wpOp_putIf hoj (hfree j oj hoj e hjun hno) (fun cs b=>hsel i o cs b hi) (fun cs b=>hsel j oj cs b hoj) hQ hy (H.2 j (ready_mono hj e));refine wpOp_mono ?_ step;rintro a' w' ⟨y',s',H'⟩;rw[Array.setIfInBounds_comm _ _ (Ne.symm e)] at s' H';refine⟨hG.back L j oj w w' h0 hun hoj e hno s',ih _ a' w' ?_ (ready_mono hr (Ne.symm e)) y' (hG.back L j oj w w' h0 hun hoj e hno s') H'⟩;intro k ok hk hki hku hkn;refine hfree k ok hk hki ?_ hkn;by_cases hjk:j=k
    ·subst hjk
     exact hjun
    ·rwa [getD_set_ne M hjk] at hku
theorem aO{i:Nat}{o:Oper}{v:a4}{n:Nat}{L:Array Bool}{a:Act}{w:Y}(hi:ops[i]? =N o)
  (hs:Region.noSelect ops=M) (hf:Region.free md ops L i=M) (hr:(Region.ready md ops L).contains i=M)
  (hQ:∀c a w,Q (.panic c) (a.put o.dst v) w→Q (.panic c) a w) (hG:Good md ops i S) (hy:YieldsIf P ops (xr S i) o v a) (h0:S L w)
  (h:S (L.setIfInBounds i M) w→mc S P md ops Q n (L.setIfInBounds i M) (a.put o.dst v) w):mc S P md ops Q (n+1) L a w:=
 qO hi (Region.noSelect_spec hs) hQ hG n L a w (Region.free_spec hi hf) (by simpa using hr) hy h0 (h (hG.up _ _ h0))
theorem fD{n:Nat}{L:Array Bool}{a:Act}{w:Y}(hr:Region.ready md ops L=[])(h:Q .normal a w):mc S P md ops Q n L a w:=by
 cases n with
 |zero=>exact⟨hr,h⟩
 |succ n=>exact⟨fun _=>h,fun k hk=>by rw[hr] at hk;cases hk⟩
def OneOf(S:Array Bool→Y→Prop)(P:Program)(md:Region.Mode)(ops:Array Oper)(Q:Exit→Act→Y→Prop)(n:Nat)(L:Array Bool)(a:Act)(w:Y)(rs:List Nat):Prop:=
 ∀k∈rs,wpOp P ops Q k (fun b u=>S (L.setIfInBounds k M) u∧mc S P md ops Q n (L.setIfInBounds k M) b u) a w
theorem OneOf.nil{n:Nat}{L:Array Bool}{a:Act}{w:Y}:OneOf S P md ops Q n L a w []:=fun _ h=>by cases h
theorem OneOf.cons{n:Nat}{L:Array Bool}{a:Act}{w:Y}{i:Nat}{o:Oper}{rs:List Nat}(ho:ops[i]? =N o)
  (h:∀K:Act→Y→Prop,Shut (∀b u,S (L.setIfInBounds i M) u→(S (L.setIfInBounds i M) u→mc S P md ops Q n (L.setIfInBounds i M) b u)→K b u)→
   if Region.wanted o (yielded ops a.tmps)=M then Oper.wp P o a w K Q else K (a.put o.dst undef) w)
  (hs:OneOf S P md ops Q n L a w rs):OneOf S P md ops Q n L a w (i::rs):=by
 intro k hk;rcases List.mem_cons.1 hk with e|hk
 ·subst e
  exact wpOp_step ho fun K hK=>h K fun b u h1 h2=>hK b u ⟨h1,h2 h1⟩
 ·exact hs k hk
theorem aW{rs:List Nat}{n:Nat}{L:Array Bool}{a:Act}{w:Y}(hr:Region.ready md ops L=rs)(hne:rs≠[])
  (h:OneOf S P md ops Q n L a w rs):mc S P md ops Q (n+1) L a w:=by
 constructor
 ·intro e
  exact absurd (hr.symm.trans e) hne
 ·intro k hk
  exact h k (hr▸hk)
theorem iV{id:Nat}{a:Act}{w:Y}(hm:P.follows .mixedOrders =M)(h0:S (Array.replicate ops.size g) w.drew)
  (h:S (Array.replicate ops.size g) w.drew→mc S P .any ops Q ops.size (Array.replicate ops.size g) a w.drew):(Code.region id ops M).wp P Q a w:=
 wp_region_any hm (pG (h h0))
end
def ao(v:a4)(l:List Int):ab:=ct 3 1 v l.length (l.map (G I))
theorem im{p L:Int}(hp:cY p=M)(h0:0≤L)(h3:L≤3):0≤ap p L∧ap p L<8:=by
 have hp':0≤p∧p<4096:=by unfold cY at hp;simpa using hp
 obtain⟨L,rfl⟩:=bf h0;rw[pX hp'.1 hp'.2 (by omega)];omega
theorem eI{s:Ms}{t p L:Int}(hp:cY p=M)(h0:0≤L)(h3:L≤3):s.hasW t (ap p L)=s.has t:=by
 obtain⟨i0,i8⟩:=im hp h0 h3;unfold Ms.hasW;simp[i0,i8]
def aH(p:Int)(n:Nat):List Int:=(List.range n).map fun(i:Nat)=>ap p (3 - (i:Int))
theorem kc(p:Int)(n:Nat):aH p (n+1)=aH p n++[ap p (3 - (n:Int))]:=by simp[aH,List.range_succ]
theorem gS(p:Int)(n:Nat):(aH p n).length =n:=by simp[aH]
theorem Has.set9{w:Y}{R:ab}{b:Nat}{v0 v1 v2 v3 v4 v5 v6 v7 v8:a4}{t:TypeId}(h:ag w (aa b #[v0,v1,v2,v3,v4,v5,v6,v7,v8] t*R))(u0 u1 u2 u3 u4 u5 u6 u7 u8:a4):
  ag ((((((((((w.setCell (U b 0 D) u0).setCell (U b 1 D) u1).setCell (U b 2 D) u2).setCell (U b 3 D) u3).setCell (U b 4 D) u4).setCell (U b 5 D) u5).setCell (U b 6 D) u6).setCell (U b 7 D) u7).setCell (U b 8 D) u8)) (aa b #[u0,u1,u2,u3,u4,u5,u6,u7,u8] t*R):=by
 have h0:ag _ (aa b #[u0,v1,v2,v3,v4,v5,v6,v7,v8] t*R):=h.set 0 u0;have h1:ag _ (aa b #[u0,u1,v2,v3,v4,v5,v6,v7,v8] t*R):=h0.set 1 u1;have h2:ag _ (aa b #[u0,u1,u2,v3,v4,v5,v6,v7,v8] t*R):=h1.set 2 u2;have h3:ag _ (aa b #[u0,u1,u2,u3,v4,v5,v6,v7,v8] t*R):=h2.set 3 u3;have h4:ag _ (aa b #[u0,u1,u2,u3,u4,v5,v6,v7,v8] t*R):=h3.set 4 u4;have h5:ag _ (aa b #[u0,u1,u2,u3,u4,u5,v6,v7,v8] t*R):=h4.set 5 u5;have h6:ag _ (aa b #[u0,u1,u2,u3,u4,u5,u6,v7,v8] t*R):=h5.set 6 u6;have h7:ag _ (aa b #[u0,u1,u2,u3,u4,u5,u6,u7,v8] t*R):=h6.set 7 u7;have h8:ag _ (aa b #[u0,u1,u2,u3,u4,u5,u6,u7,u8] t*R):=h7.set 8 u8;exact h8
theorem Has.frees9{w:Y}{R:ab}{b:Nat}{v0 v1 v2 v3 v4 v5 v6 v7 v8:a4}{t:TypeId}(h:ag w (aa b #[v0,v1,v2,v3,v4,v5,v6,v7,v8] t*R)):
  w.frozen? (U b 0 D)=g∧w.frozen? (U b 1 D)=g∧w.frozen? (U b 2 D)=g∧w.frozen? (U b 3 D)=g∧w.frozen? (U b 4 D)=g∧w.frozen? (U b 5 D)=g∧w.frozen? (U b 6 D)=g∧w.frozen? (U b 7 D)=g∧w.frozen? (U b 8 D)=g:=
 ⟨h.free 0,h.free 1,h.free 2,h.free 3,h.free 4,h.free 5,h.free 6,h.free 7,h.free 8⟩
theorem Ext.set9{w0 w:Y}(h:bi w0 w)(b:Nat)(u0 u1 u2 u3 u4 u5 u6 u7 u8:a4):bi w0 ((((((((((w.setCell (U b 0 D) u0).setCell (U b 1 D) u1).setCell (U b 2 D) u2).setCell (U b 3 D) u3).setCell (U b 4 D) u4).setCell (U b 5 D) u5).setCell (U b 6 D) u6).setCell (U b 7 D) u7).setCell (U b 8 D) u8)):=
 (((((((((h.set _ _).set _ _).set _ _).set _ _).set _ _).set _ _).set _ _).set _ _).set _ _)
theorem fE{w:Y}{R:ab}{b:Nat}{v0 v1 v2 v3 v4 v5 v6 v7 v8:a4}(h:ag w (aa b #[v0,v1,v2,v3,v4,v5,v6,v7,v8] 206*R)):(loadVar 206 (U b 0 D)).run prog w= .ok (.agg #[v0,v1,v2,v3,v4,v5,v6,v7,v8]) w:=
 run_loadVar_row w b 206 206 _ _ _ h.heap underlying206 rfl (by kernel_rfl)
def uk(y:Wy)(A B:Option b4)(n c d:Nat):a4:= .tuple #[.agg #[G I y.lev,Z y.e.there,Z y.e.leaf,G I y.e.rights,Z y.e.used,Z y.e.dirty,G I y.e.frame,.slice A n c,.slice B n d],G I y.code]
def ul(y:Wy)(p:Int)(w:Y)(e:Ending)(w':Y):Prop:=
 ∃A B c d,e= .returned (uk y A B y.tabs.length c d)∧ag w' (ao (.slice A y.tabs.length c) y.tabs*(ao (.slice B y.tabs.length d) (aH p y.tabs.length)*bE w w.heap.size))∧bi w w'
def lev(w:Y)(b:Nat):Nat:=match w.cell? (U b 0 D) with|some (.int _ n)=>n.toNat|_=>0
theorem Has.build{w:Y}{A B C:ab}(h:ag w (A*(B*C)))(cs:Array a4)(t:TypeId):ag (w.alloc (.cells cs t)) (A*(B*(aa w.heap.size cs t*C))):=by
 have h1:=h.new cs t;rw[ay,ay (aa w.heap.size cs t) B C] at h1;exact h1
theorem fF{w:Y}{b:Nat}{v:a4}(h:w.cell? (U b 0 D)=N v):∀j u,([v]:List a4)[j]? =N u→w.cell? (((U b 0 D):b4).add j)=N u:=by
 intro j u hj;match j,hj with
 |0,hj=>simp at hj;subst hj;exact h
theorem mg{w:Y}{A:Option b4}{c:Nat}{l:List Int}{P:ab}(h:ag w (ao (.slice A l.length c) l*P)):ag w (ct 3 1 (.slice A l.length c) l.length (l.map (G I))*P):=h
theorem mh{w:Y}{v:a4}{p:Int}{n:Nat}{P:ab}(h:ag w (ao v (aH p n)*P)):ag w (ct 3 1 v n ((aH p n).map (G I))*P):=by
 unfold ao at h;rw[gS] at h;exact h
theorem mi{w:Y}{A B J1 J2 C:ab}(h:ag w (A*(B*(J1*(J2*C))))):ag w (A*(B*C)):=h.drop3.drop3
theorem mj{w:Y}{A B C:ab}{b:Nat}{v0 v1 v2 v3 v4 v5 v6 v7 v8:a4}{t:TypeId}(h:ag w (A*(B*(aa b #[v0,v1,v2,v3,v4,v5,v6,v7,v8] t*C))))(u7 u8:a4):
  ag ((w.setCell (U b 7 D) u7).setCell (U b 8 D) u8) (A*(B*(aa b #[v0,v1,v2,v3,v4,v5,v6,u7,u8] t*C))):=by
 rw[ay B,ay A] at h;have h1:ag _ (aa b #[v0,v1,v2,v3,v4,v5,v6,u7,v8] t*_):=h.set 7 u7;have h2:ag _ (aa b #[v0,v1,v2,v3,v4,v5,v6,u7,u8] t*_):=h1.set 8 u8;rw[ay B,ay A];exact h2
theorem sG{w:Y}{A B C:ab}{b:Nat}{v0 v1 v2 v3 v4 v5 v6 v7 v8:a4}{t:TypeId}(h:ag w (A*(B*(aa b #[v0,v1,v2,v3,v4,v5,v6,v7,v8] t*C))))(u0:a4):
  ag (w.setCell (U b 0 D) u0) (A*(B*(aa b #[u0,v1,v2,v3,v4,v5,v6,v7,v8] t*C))):=by
 rw[ay B,ay A] at h;have h1:ag _ (aa b #[u0,v1,v2,v3,v4,v5,v6,v7,v8] t*_):=h.set 0 u0;rw[ay B,ay A];exact h1
theorem nL{w:Y}{A B X O:ab}{b r:Nat}{v0 v1 v2 v3 v4 v5 v6 v7 v8 z0 z1 z2 z3 z4 z5 z6 z7 z8:a4}{t:TypeId}(h:ag w (A*(B*(aa b #[v0,v1,v2,v3,v4,v5,v6,v7,v8] t*(X*(aa r #[z0,z1,z2,z3,z4,z5,z6,z7,z8] t*O))))))(u1 u2 u3 u4 u5 u6:a4):
  ag (((((((((((((((w.setCell (U b 1 D) u1).setCell (U b 2 D) u2).setCell (U b 3 D) u3).setCell (U b 4 D) u4).setCell (U b 5 D) u5).setCell (U b 6 D) u6).setCell (U r 0 D) v0).setCell (U r 1 D) u1).setCell (U r 2 D) u2).setCell (U r 3 D) u3).setCell (U r 4 D) u4).setCell (U r 5 D) u5).setCell (U r 6 D) u6).setCell (U r 7 D) v7).setCell (U r 8 D) v8) (aa r #[v0,u1,u2,u3,u4,u5,u6,v7,v8] t*(A*(B*O))):=by
 have h1:=h.drop4;rw[ay B,ay A] at h1;have s1:ag _ (aa b #[v0,u1,v2,v3,v4,v5,v6,v7,v8] t*_):=h1.set 1 u1;have s2:ag _ (aa b #[v0,u1,u2,v3,v4,v5,v6,v7,v8] t*_):=s1.set 2 u2;have s3:ag _ (aa b #[v0,u1,u2,u3,v4,v5,v6,v7,v8] t*_):=s2.set 3 u3;have s4:ag _ (aa b #[v0,u1,u2,u3,u4,v5,v6,v7,v8] t*_):=s3.set 4 u4;have s5:ag _ (aa b #[v0,u1,u2,u3,u4,u5,v6,v7,v8] t*_):=s4.set 5 u5;have s6:ag _ (aa b #[v0,u1,u2,u3,u4,u5,u6,v7,v8] t*_):=s5.set 6 u6;have h2:=s6.right;rw[ay B,ay A] at h2;exact h2.set9 _ _ _ _ _ _ _ _ _
theorem mn{w:Y}{u v:a4}{l:List Int}{x ix p:Int}{C:ab}(hp:aH p (l.length+1)=aH p l.length++[ix])
  (h:ag w (ct 3 1 u (l.length+1) (l.map (G I)++[G I x])*(ct 3 1 v (l.length+1) ((aH p l.length).map (G I)++[G I ix])*C))):ag w (ao u (l++[x])*(ao v (aH p (l.length+1))*C)):=by
 unfold ao;rw[hp,a5,a5,List.length_singleton,List.length_singleton,gS,List.map_append,List.map_append];exact h
theorem iC(n:Int):∀u∈([G I n]:List a4),u.oneCell'=M:=by
 intro u hu;simp at hu;subst hu;rfl
set_option maxHeartbeats 4000000 in
theorem pI(f:Nat)(s:Ms)(root p:Int)(R:ab)(w:Y)(hs:s.Ok)(h:ag w (ai f s*R)):
  bb prog 149 #[.pointer (N (U f 0 D)),.int .i64 root,.int .i64 p] w (ul (bz s root p) p w):=by
 have h1:=(aT w).new #[G I 0,Z g,Z g,G I 0,Z g,Z g,G I 0,.slice D 0 0,.slice D 0 0] 206;have x1:=(a7 w).alloc (.cells #[G I 0,Z g,Z g,G I 0,Z g,Z g,G I 0,.slice D 0 0,.slice D 0 0] 206);have HH:=J (dt p);cases hp:cY p with
 |false=>
  have hy:=J (show bz s root p= .err 1 by unfold bz;rw[hp];rfl);rw[hp] at HH;go_enter func149,ntmps149;go_wp2_with(refine(HH.out _).mono ?_;rintro e w2 ⟨rfl,rfl⟩)
  refine am (fun wz=>ag wz (aa w.heap.size #[G I 0,Z g,Z g,G I 0,Z g,Z g,G I 0,.slice D 0 0,.slice D 0 0] 206*bE w w.heap.size)∧bi w wz) ⟨h1,ah⟩ ?_;rintro wz ⟨hz,xz⟩;exact ad (aA results149 rfl rfl (fE hz)) rfl ⟨D,D,0,0,by rw[hy.out];rfl,by rw[hy.out];exact bd (bd hz.right),xz⟩
 |true=>
  have hwy:=J (show bz s root p=cZ s p 3 root [] by unfold bz;rw[if_pos hp]);rw[hp] at HH;have h2:=h1.new #[G I 3,Z g,Z g,G I 0,Z g,Z g,G I 0,.slice D 0 0,.slice D 0 0] 206;have x2:=x1.alloc (.cells #[G I 3,Z g,Z g,G I 0,Z g,Z g,G I 0,.slice D 0 0,.slice D 0 0] 206);simp only[ax] at h2;have h3:ag ((w.alloc (.cells #[G I 0,Z g,Z g,G I 0,Z g,Z g,G I 0,.slice D 0 0,.slice D 0 0] 206)).alloc (.cells #[G I 3,Z g,Z g,G I 0,Z g,Z g,G I 0,.slice D 0 0,.slice D 0 0] 206))
    (ao (.slice D 0 0) []*(ao (.slice D 0 0) []*(aa (w.heap.size+1) #[G I 3,Z g,Z g,G I 0,Z g,Z g,G I 0,.slice D 0 0,.slice D 0 0] 206*(aa w.heap.size #[G I 0,Z g,Z g,G I 0,Z g,Z g,G I 0,.slice D 0 0,.slice D 0 0] 206*bE w w.heap.size)))):=bd (bd h2)
  clear h1 x1 h2;go_enter func149,ntmps149;go_wp2_with(refine(HH.out _).mono ?_;rintro e w2 ⟨rfl,rfl⟩)
  go_loopw [9] (fun s9 wr=>∃(L:Nat) (t:Int) (acc:List Int) (A B:Option b4) (c d:Nat),s9=G I t∧acc.length+L=3∧Hid (cZ s p 3 root []=cZ s p L t acc)∧
    ag wr (ao (.slice A acc.length c) acc*(ao (.slice B acc.length d) (aH p acc.length)*(aa (w.heap.size+1) #[G I L,Z g,Z g,G I 0,Z g,Z g,G I 0,.slice A acc.length c,.slice B acc.length d] 206*(aa w.heap.size #[G I 0,Z g,Z g,G I 0,Z g,Z g,G I 0,.slice D 0 0,.slice D 0 0] 206*bE w w.heap.size))))∧bi w wr)
   (fun _ wr=>lev wr (w.heap.size+1))
  case atStart=>exact⟨3,root,[],D,D,0,0,rfl,rfl,J rfl,h3,x2⟩
  case round=>
   clear h3 x2;obtain⟨L,t,acc,A,B,c,d,rfl,hL,HW,hr,hx⟩:=hrel;have hlev:=J (show lev wr (w.heap.size+1)=L by unfold lev;rw[hr.right.right.cell 0];rfl);have hL3:(L:Int)≤3:=by omega
   have hL0:(0:Int)≤L:=by omega
   obtain⟨c0,c1,c2,c3,c4,c5,c6,c7,c8⟩:=hr.right.right.cells9;have cl:=hr.right.right.lt;obtain⟨r0,r1,r2,r3,r4,r5,r6,r7,r8⟩:=hr.r3.cells9;obtain⟨g0,g1,g2,g3,g4,g5,g6,g7,g8⟩:=hr.r3.frees9;have rl:=hr.r3.lt;have hF:ag wr (ai f s*R):=(h.onto' (hr.eq (show _=(ao (.slice A acc.length c) acc*(ao (.slice B acc.length d) (aH p acc.length)*(aa (w.heap.size+1) #[G I L,Z g,Z g,G I 0,Z g,Z g,G I 0,.slice A acc.length c,.slice B acc.length d] 206*aa w.heap.size #[G I 0,Z g,Z g,G I 0,Z g,Z g,G I 0,.slice D 0 0,.slice D 0 0] 206)))*bE w w.heap.size by simp only[aX]))).right;have hLD:=rZ f s t (ap p L) R wr hF;rw[eI hp hL0 hL3] at hLD;have hIX:=j4 p L wr;have hwq:s.has t=M→eh s t (ap p L)=av s t (ap p L):=fun e=>by
    unfold eh av;rw[if_pos (by rw[eI hp hL0 hL3];exact e)]
   cases ht:s.has t with
   |false=>
    rw[ht] at hLD;have hy:=J (show bz s root p= .err 12 by rw[hwy.out,HW.out];exact fY ht);clear hwq ht;generalize ap p L=ix at*
    generalize eh s t ix=v at*
    go_wp2_with fail
    refine hIX.mono ?_;rintro e w2 ⟨rfl,rfl⟩;go_wp2_with fail
    refine hLD.mono ?_;rintro e w2 ⟨rfl,rfl⟩;go_wp2_with fail
    refine am (fun wz=>ag wz (aa w.heap.size #[G I 0,Z g,Z g,G I 0,Z g,Z g,G I 0,.slice D 0 0,.slice D 0 0] 206*bE w w.heap.size)∧bi w wz) ⟨hr.r3.set9 _ _ _ _ _ _ _ _ _,hx.set9 _ _ _ _ _ _ _ _ _ _⟩ ?_;rintro wz ⟨hz,xz⟩;exact ad (aA results149 rfl rfl (fE hz)) rfl ⟨D,D,0,0,by rw[hy.out];rfl,by rw[hy.out];exact bd (bd hz.right),xz⟩
   |true=>
    rw[ht] at hLD;rw[hwq ht] at hLD;clear hwq;have hb:=hs.inv.wok t.toNat (ap p L).toNat;have HD:=J (fun W=>kt (av s t (ap p L)) L W hb.1 hb.2);clear hb;by_cases hc:br (av s t (ap p L)) L=0
    case neg=>
     have hy:=J (show bz s root p= .err (br (av s t (ap p L)) L) by rw[hwy.out,HW.out];exact iq ht hc);have hv:=J (dh (w:=av s t (ap p L)) (l:=L) rfl (.inl hc));rw[hv.out] at HD;clear hv;have hn:(br (av s t (ap p L)) L !=0)=M:=by simpa using hc
     clear hc;generalize br (av s t (ap p L)) L=code at*
     generalize av s t (ap p L)=v at*
     generalize ap p L=ix at*
     go_wp2_with fail
     refine hIX.mono ?_;rintro e w2 ⟨rfl,rfl⟩;go_wp2_with fail
     refine hLD.mono ?_;rintro e w2 ⟨rfl,rfl⟩;go_wp2_with fail
     refine(HD.out _).mono ?_;rintro e w2 ⟨rfl,b2⟩;have h2:=(hr.r3.below b2);have x2:=hx.below b2;clear r0 r1 r2 r3 r4 r5 r6 r7 r8 g0 g1 g2 g3 g4 g5 g6 g7 g8 rl;obtain⟨r0,r1,r2,r3,r4,r5,r6,r7,r8⟩:=h2.cells9;obtain⟨g0,g1,g2,g3,g4,g5,g6,g7,g8⟩:=h2.frees9;have rl:=h2.lt;go_wp2_with fail
     refine am (fun wz=>ag wz (aa w.heap.size #[G I 0,Z g,Z g,G I 0,Z g,Z g,G I 0,.slice D 0 0,.slice D 0 0] 206*bE w w.heap.size)∧bi w wz) ⟨(h2.set9 _ _ _ _ _ _ _ _ _).alloc _,(x2.set9 _ _ _ _ _ _ _ _ _ _).alloc _⟩ ?_;rintro wz ⟨hz,xz⟩;exact ad (aA results149 rfl rfl (fE hz)) rfl ⟨D,D,0,0,by rw[hy.out];rfl,by rw[hy.out];exact bd (bd hz.right),xz⟩
    have hy:=J (show bz s root p=cZ s p L t acc by rw[hwy.out,HW.out]);have hend:=J (fun he=>dW (acc:=acc) ht hc he);have hon:=J (fun he=>jh (acc:=acc) ht hc he);have hv:=J (show fv (av s t (ap p L)) L= .tuple #[.agg #[Z (aD (av s t (ap p L)) L).there,Z (aD (av s t (ap p L)) L).leaf,G I (aD (av s t (ap p L)) L).rights,Z (aD (av s t (ap p L)) L).used,Z (aD (av s t (ap p L)) L).dirty,G I (aD (av s t (ap p L)) L).frame],G I 0] by unfold fv;rw[hc]);rw[hv.out] at HD;clear hv hc HW;have hpl:=J (show aH p (acc.length+1)=aH p acc.length++[ap p L] by rw[kc,show(3:Int) - acc.length=L by omega]);generalize aD (av s t (ap p L)) L=e at*
    generalize av s t (ap p L)=v at*
    generalize ap p L=ix at*
    go_wp2_with fail
    refine hIX.mono ?_;rintro e2 w2 ⟨rfl,rfl⟩;go_wp2_with fail
    refine hLD.mono ?_;rintro e2 w2 ⟨rfl,rfl⟩;go_wp2_with fail
    refine(HD.out _).mono ?_;rintro e2 w2 ⟨rfl,b2⟩;have h2:=(hr.below b2).build #[Z e.there,Z e.leaf,G I e.rights,Z e.used,Z e.dirty,G I e.frame] 70;have x2:=(hx.below b2).alloc (.cells #[Z e.there,Z e.leaf,G I e.rights,Z e.used,Z e.dirty,G I e.frame] 70);clear r0 r1 r2 r3 r4 r5 r6 r7 r8 g0 g1 g2 g3 g4 g5 g6 g7 g8 rl c0 c1 c2 c3 c4 c5 c6 c7 c8 cl hF hLD hIX HD hr hx;go_upto_region 13 with fail;generalize w2.alloc _=w4 at*
    generalize w2.heap.size=E at*
    have h3:ag w4 (ao (.slice A acc.length c) acc*(ao (.slice B acc.length d) (aH p acc.length)*(aa (w.heap.size+1) #[G I L,Z g,Z g,G I 0,Z g,Z g,G I 0,.slice A acc.length c,.slice B acc.length d] 206*
      (aa E #[Z e.there,Z e.leaf,G I e.rights,Z e.used,Z e.dirty,G I e.frame] 70*(aa w.heap.size #[G I 0,Z g,Z g,G I 0,Z g,Z g,G I 0,.slice D 0 0,.slice D 0 0] 206*bE w w.heap.size))))):=h2.eq (by congr 2;exact ay _ _ _)
    clear h2 b2;go_cut [] (fun wx=>∃(A' B':Option b4) (c' d':Nat),ag wx (ao (.slice A' (acc.length+1) c') (acc++[t])*(ao (.slice B' (acc.length+1) d') (aH p (acc.length+1))*(aa (w.heap.size+1) #[G I L,Z g,Z g,G I 0,Z g,Z g,G I 0,.slice A' (acc.length+1) c',.slice B' (acc.length+1) d'] 206*
      (aa E #[Z e.there,Z e.leaf,G I e.rights,Z e.used,Z e.dirty,G I e.frame] 70*(aa w.heap.size #[G I 0,Z g,Z g,G I 0,Z g,Z g,G I 0,.slice D 0 0,.slice D 0 0] 206*bE w w.heap.size)))))∧bi w wx)
    case first=>
     have c7:w4.cell? ⟨w.heap.size+1,7,D⟩=N (.slice A acc.length c):=h3.right.right.cell 7;have c8:w4.cell? ⟨w.heap.size+1,8,D⟩=N (.slice B acc.length d):=h3.right.right.cell 8;refine iV (S:=fun L w'=>Till 4 1 (fun w'=>w'.cell? ⟨w.heap.size+1,7,D⟩=N (.slice A acc.length c)) L w'∧Till 9 6 (fun w'=>w'.cell? ⟨w.heap.size+1,8,D⟩=N (.slice B acc.length d)) L w') (by kernel_rfl) ⟨Till.start c7,Till.start c8⟩ (fun hHeld=> ?_);refine aO (i:=0) (v:= ?_) rfl (by kernel_rfl) (by kernel_rfl) (by kernel_rfl) (fun _ _ _ h=>h) (Good.and (Good.till (by decide) ⟨_,⟨1,.data⟩,rfl,by simp,rfl,rfl⟩) (Good.till (by decide) ⟨_,⟨6,.data⟩,rfl,by simp,rfl,rfl⟩)) (Or.inl ⟨by kernel_rfl,?_⟩) hHeld (fun hHeld=> ?_);rotate_left;focus (intro wS hSw;obtain⟨Lx,hLx,hs1,hs2⟩:=hSw;skip;go_simp;first|done|with_reducible rfl)
     try go_simp
     refine aO (i:=1) (v:= ?_) rfl (by kernel_rfl) (by kernel_rfl) (by kernel_rfl) (fun _ _ _ h=>h) (Good.and (Good.till (by decide) ⟨_,⟨1,.data⟩,rfl,by simp,rfl,rfl⟩) (Good.till (by decide) ⟨_,⟨6,.data⟩,rfl,by simp,rfl,rfl⟩)) (Or.inl ⟨by kernel_rfl,?_⟩) hHeld (fun hHeld=> ?_);rotate_left;focus (intro wS hSw;obtain⟨Lx,hLx,hs1,hs2⟩:=hSw;have cS:=hs1.still hLx;go_simp;first|done|with_reducible rfl)
     try go_simp
     refine aO (i:=2) (v:= ?_) rfl (by kernel_rfl) (by kernel_rfl) (by kernel_rfl) (fun _ _ _ h=>h) (Good.and (Good.till (by decide) ⟨_,⟨1,.data⟩,rfl,by simp,rfl,rfl⟩) (Good.till (by decide) ⟨_,⟨6,.data⟩,rfl,by simp,rfl,rfl⟩)) (Or.inl ⟨by kernel_rfl,?_⟩) hHeld (fun hHeld=> ?_);rotate_left;focus (intro wS hSw;obtain⟨Lx,hLx,hs1,hs2⟩:=hSw;skip;go_simp;first|done|with_reducible rfl)
     try go_simp
     refine aO (i:=5) (v:= ?_) rfl (by kernel_rfl) (by kernel_rfl) (by kernel_rfl) (fun _ _ _ h=>h) (Good.and (Good.till (by decide) ⟨_,⟨1,.data⟩,rfl,by simp,rfl,rfl⟩) (Good.till (by decide) ⟨_,⟨6,.data⟩,rfl,by simp,rfl,rfl⟩)) (Or.inl ⟨by kernel_rfl,?_⟩) hHeld (fun hHeld=> ?_);rotate_left;focus (intro wS hSw;obtain⟨Lx,hLx,hs1,hs2⟩:=hSw;skip;go_simp;first|done|with_reducible rfl)
     try go_simp
     refine aO (i:=6) (v:= ?_) rfl (by kernel_rfl) (by kernel_rfl) (by kernel_rfl) (fun _ _ _ h=>h) (Good.and (Good.till (by decide) ⟨_,⟨1,.data⟩,rfl,by simp,rfl,rfl⟩) (Good.till (by decide) ⟨_,⟨6,.data⟩,rfl,by simp,rfl,rfl⟩)) (Or.inl ⟨by kernel_rfl,?_⟩) hHeld (fun hHeld=> ?_);rotate_left;focus (intro wS hSw;obtain⟨Lx,hLx,hs1,hs2⟩:=hSw;have cS:=hs2.still hLx;go_simp;first|done|with_reducible rfl)
     try go_simp
     refine aO (i:=7) (v:= ?_) rfl (by kernel_rfl) (by kernel_rfl) (by kernel_rfl) (fun _ _ _ h=>h) (Good.and (Good.till (by decide) ⟨_,⟨1,.data⟩,rfl,by simp,rfl,rfl⟩) (Good.till (by decide) ⟨_,⟨6,.data⟩,rfl,by simp,rfl,rfl⟩)) (Or.inl ⟨by kernel_rfl,?_⟩) hHeld (fun hHeld=> ?_);rotate_left;focus (intro wS hSw;obtain⟨Lx,hLx,hs1,hs2⟩:=hSw;skip;go_simp;first|done|with_reducible rfl)
     try go_simp
     have h3d:=h3.drew;refine aW (rs:=[3,8]) (by kernel_rfl) (by simp) ?_;refine OneOf.cons rfl (fun K hK=> ?_) ?_;focus
      have k1:=h3d.build #[G I t] 3;try simp only[ax] at k1
      go_simp;refine hK.out _ _ ⟨⟨fun _=>by kernel_rfl,fun _=>k1.r3.cell 7⟩,⟨fun _=>by kernel_rfl,fun _=>k1.r3.cell 8⟩⟩ (fun hHeld=> ?_);clear hK K;refine aW (rs:=[4,8]) (by kernel_rfl) (by simp) ?_;refine OneOf.cons rfl (fun K hK=> ?_) ?_;focus
       refine co rfl (.tmp 51) (.tmp 53) 45 rfl underlying45 fK (.slice A acc.length c) acc.length (acc.map (G I)) (by simp[Act.eval]) (mg k1) (U w4.drew.heap.size 0 D) 1 1 [G I t] (by simp[Act.eval]) rfl (fF (k1.right.right.cell 0)) (iC t) (by unfold maxLen;omega) (by omega) ?_;intro A2 a3 w22 k2 y2;try go_simp
       refine hK.out _ _ ⟨⟨fun _=>by kernel_rfl,fun h=>aS (by kernel_rfl) h⟩,⟨fun _=>by kernel_rfl,fun _=>k2.r3.cell 8⟩⟩ (fun hHeld=> ?_);clear hK K;refine aO (i:=10) (v:= ?_) rfl (by kernel_rfl) (by kernel_rfl) (by kernel_rfl) (fun _ _ _ h=>h) (Good.and (Good.till (by decide) ⟨_,⟨1,.data⟩,rfl,by simp,rfl,rfl⟩) (Good.till (by decide) ⟨_,⟨6,.data⟩,rfl,by simp,rfl,rfl⟩)) (Or.inl ⟨by kernel_rfl,?_⟩) hHeld (fun hHeld=> ?_);rotate_left;focus (intro wS hSw;obtain⟨Lx,hLx,hs1,hs2⟩:=hSw;skip;go_simp;first|done|with_reducible rfl)
       try go_simp
       refine aW (rs:=[8]) (by kernel_rfl) (by simp) ?_;refine OneOf.cons rfl (fun K hK=> ?_) ?_;focus
        have k3:=k2.build #[G I ix] 3;try simp only[ax] at k3
        go_simp;refine hK.out _ _ ⟨⟨fun _=>by kernel_rfl,fun h=>aS (by kernel_rfl) h⟩,⟨fun _=>by kernel_rfl,fun _=>k3.right.r3.cell 8⟩⟩ (fun hHeld=> ?_);clear hK K;refine aW (rs:=[9]) (by kernel_rfl) (by simp) ?_;refine OneOf.cons rfl (fun K hK=> ?_) ?_;focus
         refine co rfl (.tmp 56) (.tmp 58) 45 rfl underlying45 fK (.slice B acc.length d) acc.length ((aH p acc.length).map (G I)) (by simp[Act.eval]) (mh k3.p2) (U w22.heap.size 0 D) 1 1 [G I ix] (by simp[Act.eval]) rfl (fF (k3.right.right.cell 0)) (iC ix) (by unfold maxLen;omega) (by omega) ?_;intro B2 b3 w24 k4 y4;try go_simp
         refine hK.out _ _ ⟨⟨fun _=>by kernel_rfl,fun h=>aS (by kernel_rfl) h⟩,⟨fun _=>by kernel_rfl,fun h=>aS (by kernel_rfl) h⟩⟩ (fun hHeld=> ?_);clear hK K;have hz:=k4.p2;have xz:=(((((((x2.drew).alloc _)).trans y2).alloc _)).trans y4);have cl:=hz.right.r3.lt;have f7:=hz.right.r3.free 7;have f8:=hz.right.r3.free 8;have e7:=hz.right.r3.cell 7;have e8:=hz.right.r3.cell 8;have hfin:=mi hz;refine aW (rs:=[11]) (by kernel_rfl) (by simp) ?_;refine OneOf.cons rfl (fun K hK=> ?_) OneOf.nil;go_simp;refine hK.out _ _ ⟨⟨fun _=>by kernel_rfl,fun h=>aS (by kernel_rfl) h⟩,⟨fun _=>by kernel_rfl,fun h=>aS (by kernel_rfl) h⟩⟩ (fun hHeld=> ?_);clear hK K;refine aO (i:=12) (v:= ?_) rfl (by kernel_rfl) (by kernel_rfl) (by kernel_rfl) (fun _ _ _ h=>h) (Good.and (Good.till (by decide) ⟨_,⟨1,.data⟩,rfl,by simp,rfl,rfl⟩) (Good.till (by decide) ⟨_,⟨6,.data⟩,rfl,by simp,rfl,rfl⟩)) (Or.inl ⟨by kernel_rfl,?_⟩) hHeld (fun hHeld=> ?_);rotate_left;focus (intro wS hSw;obtain⟨Lx,hLx,hs1,hs2⟩:=hSw;skip;go_simp;first|done|with_reducible rfl)
         try go_simp
         refine aW (rs:=[13]) (by kernel_rfl) (by simp) ?_;refine OneOf.cons rfl (fun K hK=> ?_) OneOf.nil;go_simp;refine hK.out _ _ ⟨⟨fun _=>by kernel_rfl,fun h=>aS (by kernel_rfl) h⟩,⟨fun _=>by kernel_rfl,fun h=>aS (by kernel_rfl) h⟩⟩ (fun hHeld=> ?_);clear hK K;refine fD (by kernel_rfl) ?_;go_wp2_with fail
         go_meet
         case rel=>exact⟨A2,B2,a3,b3,mn hpl.out (mj hfin _ _),(xz.set _ _).set _ _⟩
        exact OneOf.nil
       exact OneOf.nil
      refine OneOf.cons rfl (fun K hK=> ?_) ?_;focus
       have k5:=k1.build #[G I ix] 3;try simp only[ax] at k5
       go_simp;refine hK.out _ _ ⟨⟨fun _=>by kernel_rfl,fun _=>k5.right.r3.cell 7⟩,⟨fun _=>by kernel_rfl,fun _=>k5.right.r3.cell 8⟩⟩ (fun hHeld=> ?_);clear hK K;refine aW (rs:=[4]) (by kernel_rfl) (by simp) ?_;refine OneOf.cons rfl (fun K hK=> ?_) ?_;focus
        refine co rfl (.tmp 51) (.tmp 53) 45 rfl underlying45 fK (.slice A acc.length c) acc.length (acc.map (G I)) (by simp[Act.eval]) (mg k5) (U w4.drew.heap.size 0 D) 1 1 [G I t] (by simp[Act.eval]) rfl (fF (k5.r3.cell 0)) (iC t) (by unfold maxLen;omega) (by omega) ?_;intro A2 a3 w26 k6 y6;try go_simp
        refine hK.out _ _ ⟨⟨fun _=>by kernel_rfl,fun h=>aS (by kernel_rfl) h⟩,⟨fun _=>by kernel_rfl,fun _=>k6.right.r3.cell 8⟩⟩ (fun hHeld=> ?_);clear hK K;refine aO (i:=10) (v:= ?_) rfl (by kernel_rfl) (by kernel_rfl) (by kernel_rfl) (fun _ _ _ h=>h) (Good.and (Good.till (by decide) ⟨_,⟨1,.data⟩,rfl,by simp,rfl,rfl⟩) (Good.till (by decide) ⟨_,⟨6,.data⟩,rfl,by simp,rfl,rfl⟩)) (Or.inl ⟨by kernel_rfl,?_⟩) hHeld (fun hHeld=> ?_);rotate_left;focus (intro wS hSw;obtain⟨Lx,hLx,hs1,hs2⟩:=hSw;skip;go_simp;first|done|with_reducible rfl)
        try go_simp
        refine aW (rs:=[9]) (by kernel_rfl) (by simp) ?_;refine OneOf.cons rfl (fun K hK=> ?_) ?_;focus
         refine co rfl (.tmp 56) (.tmp 58) 45 rfl underlying45 fK (.slice B acc.length d) acc.length ((aH p acc.length).map (G I)) (by simp[Act.eval]) (mh k6.p2) ⟨w4.drew.heap.size+1,0,D⟩ 1 1 [G I ix] (by simp[Act.eval]) rfl (fF (k6.right.right.cell 0)) (iC ix) (by unfold maxLen;omega) (by omega) ?_;intro B2 b3 w27 k7 y7;try go_simp
         refine hK.out _ _ ⟨⟨fun _=>by kernel_rfl,fun h=>aS (by kernel_rfl) h⟩,⟨fun _=>by kernel_rfl,fun h=>aS (by kernel_rfl) h⟩⟩ (fun hHeld=> ?_);clear hK K;have hz:=k7.p2;have xz:=(((((((x2.drew).alloc _).alloc _)).trans y6)).trans y7);have cl:=hz.right.r3.lt;have f7:=hz.right.r3.free 7;have f8:=hz.right.r3.free 8;have e7:=hz.right.r3.cell 7;have e8:=hz.right.r3.cell 8;have hfin:=mi hz;refine aW (rs:=[11]) (by kernel_rfl) (by simp) ?_;refine OneOf.cons rfl (fun K hK=> ?_) OneOf.nil;go_simp;refine hK.out _ _ ⟨⟨fun _=>by kernel_rfl,fun h=>aS (by kernel_rfl) h⟩,⟨fun _=>by kernel_rfl,fun h=>aS (by kernel_rfl) h⟩⟩ (fun hHeld=> ?_);clear hK K;refine aO (i:=12) (v:= ?_) rfl (by kernel_rfl) (by kernel_rfl) (by kernel_rfl) (fun _ _ _ h=>h) (Good.and (Good.till (by decide) ⟨_,⟨1,.data⟩,rfl,by simp,rfl,rfl⟩) (Good.till (by decide) ⟨_,⟨6,.data⟩,rfl,by simp,rfl,rfl⟩)) (Or.inl ⟨by kernel_rfl,?_⟩) hHeld (fun hHeld=> ?_);rotate_left;focus (intro wS hSw;obtain⟨Lx,hLx,hs1,hs2⟩:=hSw;skip;go_simp;first|done|with_reducible rfl)
         try go_simp
         refine aW (rs:=[13]) (by kernel_rfl) (by simp) ?_;refine OneOf.cons rfl (fun K hK=> ?_) OneOf.nil;go_simp;refine hK.out _ _ ⟨⟨fun _=>by kernel_rfl,fun h=>aS (by kernel_rfl) h⟩,⟨fun _=>by kernel_rfl,fun h=>aS (by kernel_rfl) h⟩⟩ (fun hHeld=> ?_);clear hK K;refine fD (by kernel_rfl) ?_;go_wp2_with fail
         go_meet
         case rel=>exact⟨A2,B2,a3,b3,mn hpl.out (mj hfin _ _),(xz.set _ _).set _ _⟩
        exact OneOf.nil
       exact OneOf.nil
      exact OneOf.nil
     refine OneOf.cons rfl (fun K hK=> ?_) ?_;focus
      have k8:=h3d.build #[G I ix] 3;try simp only[ax] at k8
      go_simp;refine hK.out _ _ ⟨⟨fun _=>by kernel_rfl,fun _=>k8.r3.cell 7⟩,⟨fun _=>by kernel_rfl,fun _=>k8.r3.cell 8⟩⟩ (fun hHeld=> ?_);clear hK K;refine aW (rs:=[3]) (by kernel_rfl) (by simp) ?_;refine OneOf.cons rfl (fun K hK=> ?_) ?_;focus
       have k9:=k8.build #[G I t] 3;try simp only[ax] at k9
       go_simp;refine hK.out _ _ ⟨⟨fun _=>by kernel_rfl,fun _=>k9.right.r3.cell 7⟩,⟨fun _=>by kernel_rfl,fun _=>k9.right.r3.cell 8⟩⟩ (fun hHeld=> ?_);clear hK K;refine aW (rs:=[4]) (by kernel_rfl) (by simp) ?_;refine OneOf.cons rfl (fun K hK=> ?_) ?_;focus
        refine co rfl (.tmp 51) (.tmp 53) 45 rfl underlying45 fK (.slice A acc.length c) acc.length (acc.map (G I)) (by simp[Act.eval]) (mg k9) ⟨w4.drew.heap.size+1,0,D⟩ 1 1 [G I t] (by simp[Act.eval]) rfl (fF (k9.right.right.cell 0)) (iC t) (by unfold maxLen;omega) (by omega) ?_;intro A2 a3 w30 k10 y10;try go_simp
        refine hK.out _ _ ⟨⟨fun _=>by kernel_rfl,fun h=>aS (by kernel_rfl) h⟩,⟨fun _=>by kernel_rfl,fun _=>k10.right.r3.cell 8⟩⟩ (fun hHeld=> ?_);clear hK K;refine aO (i:=10) (v:= ?_) rfl (by kernel_rfl) (by kernel_rfl) (by kernel_rfl) (fun _ _ _ h=>h) (Good.and (Good.till (by decide) ⟨_,⟨1,.data⟩,rfl,by simp,rfl,rfl⟩) (Good.till (by decide) ⟨_,⟨6,.data⟩,rfl,by simp,rfl,rfl⟩)) (Or.inl ⟨by kernel_rfl,?_⟩) hHeld (fun hHeld=> ?_);rotate_left;focus (intro wS hSw;obtain⟨Lx,hLx,hs1,hs2⟩:=hSw;skip;go_simp;first|done|with_reducible rfl)
        try go_simp
        refine aW (rs:=[9]) (by kernel_rfl) (by simp) ?_;refine OneOf.cons rfl (fun K hK=> ?_) ?_;focus
         refine co rfl (.tmp 56) (.tmp 58) 45 rfl underlying45 fK (.slice B acc.length d) acc.length ((aH p acc.length).map (G I)) (by simp[Act.eval]) (mh k10.p2) (U w4.drew.heap.size 0 D) 1 1 [G I ix] (by simp[Act.eval]) rfl (fF (k10.r3.cell 0)) (iC ix) (by unfold maxLen;omega) (by omega) ?_;intro B2 b3 w31 k11 y11;try go_simp
         refine hK.out _ _ ⟨⟨fun _=>by kernel_rfl,fun h=>aS (by kernel_rfl) h⟩,⟨fun _=>by kernel_rfl,fun h=>aS (by kernel_rfl) h⟩⟩ (fun hHeld=> ?_);clear hK K;have hz:=k11.p2;have xz:=(((((((x2.drew).alloc _).alloc _)).trans y10)).trans y11);have cl:=hz.right.r3.lt;have f7:=hz.right.r3.free 7;have f8:=hz.right.r3.free 8;have e7:=hz.right.r3.cell 7;have e8:=hz.right.r3.cell 8;have hfin:=mi hz;refine aW (rs:=[11]) (by kernel_rfl) (by simp) ?_;refine OneOf.cons rfl (fun K hK=> ?_) OneOf.nil;go_simp;refine hK.out _ _ ⟨⟨fun _=>by kernel_rfl,fun h=>aS (by kernel_rfl) h⟩,⟨fun _=>by kernel_rfl,fun h=>aS (by kernel_rfl) h⟩⟩ (fun hHeld=> ?_);clear hK K;refine aO (i:=12) (v:= ?_) rfl (by kernel_rfl) (by kernel_rfl) (by kernel_rfl) (fun _ _ _ h=>h) (Good.and (Good.till (by decide) ⟨_,⟨1,.data⟩,rfl,by simp,rfl,rfl⟩) (Good.till (by decide) ⟨_,⟨6,.data⟩,rfl,by simp,rfl,rfl⟩)) (Or.inl ⟨by kernel_rfl,?_⟩) hHeld (fun hHeld=> ?_);rotate_left;focus (intro wS hSw;obtain⟨Lx,hLx,hs1,hs2⟩:=hSw;skip;go_simp;first|done|with_reducible rfl)
         try go_simp
         refine aW (rs:=[13]) (by kernel_rfl) (by simp) ?_;refine OneOf.cons rfl (fun K hK=> ?_) OneOf.nil;go_simp;refine hK.out _ _ ⟨⟨fun _=>by kernel_rfl,fun h=>aS (by kernel_rfl) h⟩,⟨fun _=>by kernel_rfl,fun h=>aS (by kernel_rfl) h⟩⟩ (fun hHeld=> ?_);clear hK K;refine fD (by kernel_rfl) ?_;go_wp2_with fail
         go_meet
         case rel=>exact⟨A2,B2,a3,b3,mn hpl.out (mj hfin _ _),(xz.set _ _).set _ _⟩
        exact OneOf.nil
       exact OneOf.nil
      exact OneOf.nil
     exact OneOf.nil
    case rest=>
     obtain⟨A',B',c',d',hr,hx⟩:=hcut;clear h3 x2;obtain⟨c0,c1,c2,c3,c4,c5,c6,c7,c8⟩:=hr.right.right.cells9;obtain⟨f0,f1,f2,f3,f4,f5,f6,f7,f8⟩:=hr.right.right.frees9;have cl:=hr.right.right.lt;obtain⟨e0,e1,e2,e3,e4,e5⟩:=hr.r3.cells6;have el:=hr.r3.lt;have hE:=hr.right.r3;obtain⟨r0,r1,r2,r3,r4,r5,r6,r7,r8⟩:=hE.cells9;obtain⟨g0,g1,g2,g3,g4,g5,g6,g7,g8⟩:=hE.frees9;have rl:=hE.lt;have hne:w.heap.size+1≠w.heap.size:=by omega
     by_cases hend1:e.there=g∨e.leaf=M
     ·have hyy:=J (hy.out.trans (hend.out hend1))
      obtain⟨th,lf,rg,us,di,fr⟩:=e;dsimp only at*
      cases th with
      |false=>
       go_wp2_with fail
       refine am (fun wz=>ag wz (aa w.heap.size #[G I L,Z g,Z lf,G I rg,Z us,Z di,G I fr,.slice A' (acc.length+1) c',.slice B' (acc.length+1) d'] 206*(ao (.slice A' (acc.length+1) c') (acc++[t])*(ao (.slice B' (acc.length+1) d') (aH p (acc.length+1))*bE w w.heap.size)))∧bi w wz) ⟨nL hr _ _ _ _ _ _,Ext.set9 ((((((hx.set _ _).set _ _).set _ _).set _ _).set _ _).set _ _) _ _ _ _ _ _ _ _ _ _⟩ ?_;rintro wz ⟨hz,xz⟩;have hlen:(acc++[t]).length =acc.length+1:=by rw[a5,List.length_singleton]
       refine ad (aA results149 rfl rfl (fE hz)) rfl ?_;rw[hyy.out];refine⟨A',B',c',d',?_,?_,xz⟩
       ·show _=af (uk _ A' B' (acc++[t]).length c' d')
        rw[hlen];rfl
       ·show ag wz (ao (.slice A' (acc++[t]).length c') (acc++[t])*(ao (.slice B' (acc++[t]).length d') (aH p (acc++[t]).length)*bE w w.heap.size))
        rw[hlen];exact hz.right
      |true=>
       cases lf with
       |true=>
        go_wp2_with fail
        refine am (fun wz=>ag wz (aa w.heap.size #[G I L,Z M,Z M,G I rg,Z us,Z di,G I fr,.slice A' (acc.length+1) c',.slice B' (acc.length+1) d'] 206*(ao (.slice A' (acc.length+1) c') (acc++[t])*(ao (.slice B' (acc.length+1) d') (aH p (acc.length+1))*bE w w.heap.size)))∧bi w wz) ⟨nL hr _ _ _ _ _ _,Ext.set9 ((((((hx.set _ _).set _ _).set _ _).set _ _).set _ _).set _ _) _ _ _ _ _ _ _ _ _ _⟩ ?_;rintro wz ⟨hz,xz⟩;have hlen:(acc++[t]).length =acc.length+1:=by rw[a5,List.length_singleton]
        refine ad (aA results149 rfl rfl (fE hz)) rfl ?_;rw[hyy.out];refine⟨A',B',c',d',?_,?_,xz⟩
        ·show _=af (uk _ A' B' (acc++[t]).length c' d')
         rw[hlen];rfl
        ·show ag wz (ao (.slice A' (acc++[t]).length c') (acc++[t])*(ao (.slice B' (acc++[t]).length d') (aH p (acc++[t]).length)*bE w w.heap.size))
         rw[hlen];exact hz.right
       |false=>rcases hend1 with h|h<;>cases h
     ·have h12:e.there=M∧e.leaf=g:=by
       cases h1:e.there<;>cases h2:e.leaf<;>simp_all
      obtain⟨h1,h2⟩:=h12;obtain⟨K,rfl,hK⟩:=hon.out hend1;have hwr:IntKind.i64.wrap (((K+1:Nat):Int) - 1)=(K:Int):=by rw[a6];omega
      go_wp2_with fail
      go_roundw
      case rel=>
       refine⟨K,e.frame,acc++[t],A',B',c',d',rfl,by rw[a5,List.length_singleton];omega,J ?_,?_,hx.set _ _⟩
       ·rw[←hK,←hy.out,←hwy.out]
       ·rw[a5,List.length_singleton]
        exact(sG hr _).drop4
      case measure=>
       rw[hlev.out];unfold lev;rw[World.cell?_setCell_same _ _ _ c0];simp
theorem um(s:Ms)(p:Int):∀(L:Nat) (t:Int) (acc:List Int),(cZ s p L t acc).code =0→(∀u∈acc,s.has u=M)→∀u∈(cZ s p L t acc).tabs,s.has u=M:=by
 intro L;induction L with
 |zero=>
  intro t acc hc ha;cases h:s.has t with
  |false=>rw[fY h] at hc;cases hc
  |true=>
   by_cases hd:br (av s t (ap p (0:Nat))) (0:Nat)=0
   ·rw[dW h hd (eP hd)]
    intro u hu;rcases List.mem_append.1 hu with hu|hu
    ·exact ha u hu
    ·obtain rfl:=List.mem_singleton.1 hu;exact h
   ·rw[iq h hd] at hc
    exact absurd hc hd
 |succ L ih=>
  intro t acc hc ha;cases h:s.has t with
  |false=>rw[fY h] at hc;cases hc
  |true=>
   by_cases hd:br (av s t (ap p (L+1:Nat))) (L+1:Nat)=0
   ·by_cases he:(aD (av s t (ap p (L+1:Nat))) (L+1:Nat)).there =g∨(aD (av s t (ap p (L+1:Nat))) (L+1:Nat)).leaf =M
    ·rw[dW h hd he]
     intro u hu;rcases List.mem_append.1 hu with hu|hu
     ·exact ha u hu
     ·obtain rfl:=List.mem_singleton.1 hu;exact h
    ·obtain⟨K,hK,e⟩:=jh (acc:=acc) h hd he
     obtain rfl:L=K:=by omega
     rw[e] at hc⊢;exact ih _ _ hc fun u hu=>by
      rcases List.mem_append.1 hu with hu|hu
      ·exact ha u hu
      ·obtain rfl:=List.mem_singleton.1 hu;exact h
   ·rw[iq h hd] at hc
    exact absurd hc hd
theorem fb{s:Ms}{r p:Int}(h:(bz s r p).code =0):cY p=M∧∃n:Nat,(bz s r p).tabs.length =n+1∧n≤3∧(bz s r p).lev =3 - (n:Int)∧∀u∈(bz s r p).tabs,s.has u=M:=by
 unfold bz at h⊢;split at h
 ·rename_i hp
  rw[if_pos hp];obtain⟨h3,h4,h5⟩:=uF s p 3 r [] h;refine⟨hp,3 - (cZ s p 3 r []).lev.toNat,by rw[h5];simp only[List.length_nil];omega,by omega,by omega,um s p 3 r [] h (fun u hu=>by cases hu)⟩
 ·cases h
theorem jf(p:Int){n k:Nat}(hk:k<n):(aH p n)[k]? =N (ap p (3 - (k:Int))):=by
 unfold aH;rw[List.getElem?_map,List.getElem?_range hk];rfl
theorem uo{l:List Int}{n:Nat}(h:l.length=n+1):l.getLastD 0=l[n]'(by omega):=by
 have e:l.length - 1=n:=by omega
 rw[List.getLastD_eq_getLast?,List.getLast?_eq_getElem?];simp only[e];rw[List.getElem?_eq_getElem (by omega)];rfl
theorem sH{s:Ms}{r p:Int}(h:(bz s r p).code =0){k:Nat}(hk:k< (bz s r p).tabs.length)(v:Int):
  fA s (bz s r p).tabs[k] (ap p (3 - (k:Int))) v=s.setW ((bz s r p).tabs[k]).toNat (ap p (3 - (k:Int))).toNat v:=by
 obtain⟨hp,n,hn,hn3,hl,hu⟩:=fb h;unfold fA;rw[if_pos (by rw[eI hp (by omega) (by omega)];exact hu _ (List.getElem_mem hk))]
theorem jW{l:List Int}{n:Nat}{t:Int}(h:l.length=n+1)(ht:l[n]? =N t):l.getLastD 0=t:=by
 rw[uo h];have:=bs.1 ht;exact this.2
theorem qP{s:Ms}{r p:Int}(h:(bz s r p).code =0){k:Nat}{t:Int}(ht:(bz s r p).tabs[k]? =N t)(v:Int):
  fA s t (ap p (3 - (k:Int))) v=s.setW t.toNat (ap p (3 - (k:Int))).toNat v:=by
 obtain⟨hk,e⟩:=bs.1 ht;rw[←e];exact sH h hk v
def nM(s:Ms)(p lw:Int)(sz:Nat):List Int→Ms
 | []=>s
 | [t]=>s.setW t.toNat (ap p sz).toNat lw
 |t::k::ks=>(nM s p lw sz (k::ks)).setW t.toNat (ap p (sz+ks.length+1:Nat)).toNat (iP k (sz+ks.length+1))
theorem nN(s:Ms){a b:Nat}(i j:Nat)(v u:Int)(h:a≠b):(s.setW a i v).setW b j u=(s.setW b j u).setW a i v:=by
 unfold Ms.setW;dsimp only;congr 1
 funext x y
 by_cases h1:x=b∧y=j
 ·rw[if_pos h1,if_neg (fun h2=>h (h2.1.symm.trans h1.1)),if_pos h1]
 ·rw[if_neg h1]
  by_cases h2:x=a∧y=i
  ·rw[if_pos h2,if_pos h2]
  ·rw[if_neg h2,if_neg h2,if_neg h1]
theorem pJ(s:Ms)(p lw:Int)(sz:Nat)(a i:Nat)(v:Int):∀l:List Int,(∀t∈l,t.toNat≠a)→nM (s.setW a i v) p lw sz l=(nM s p lw sz l).setW a i v
 | [],_=>rfl
 | [t],h=>nN s _ _ _ _ (fun e=>h t (by simp) e.symm)
 |t::k::ks,h=>by
  show(nM (s.setW a i v) p lw sz (k::ks)).setW _ _ _=_;rw[pJ s p lw sz a i v (k::ks) (fun x hx=>h x (by simp at hx⊢;right;exact hx))];exact nN _ _ _ _ _ (fun e=>h t (by simp) e.symm)
theorem sI(s:Ms){k a:Nat}(i:Nat)(v:Int)(h:a≠k):(s.setW a i v).take k=(s.take k).setW a i v:=by
 unfold Ms.take Ms.setW;dsimp only;congr 1
 funext x y
 by_cases h1:x=k
 ·rw[if_pos h1,if_neg (fun h2=>h (h2.1.symm.trans h1)),if_pos h1]
 ·rw[if_neg h1]
  by_cases h2:x=a∧y=i
  ·rw[if_pos h2,if_pos h2]
  ·rw[if_neg h2,if_neg h2,if_neg h1]
theorem ur(s:Ms)(a i:Nat)(v:Int):(s.setW a i v).top =s.top:=rfl
theorem jz(s:Ms):∀m,a8 s (m+1)=a8 s.takeS m
 |0=>rfl
 |m+1=>by
  show(a8 s (m+1)).takeS =_;rw[jz s m];rfl
theorem mo(s:Ms):∀m,eZ s (m+1)=s.topV::eZ s.takeS m
 |0=>rfl
 |m+1=>by
  show eZ s (m+1)++[(a8 s (m+1)).topV]=_;rw[mo s m,jz s m];rfl
theorem ku{s:Ms}(hs:s.Ok){a:Nat}(i:Nat)(v:Int)(ha:s.tk a=M):∀m,m≤s.frees.length→a8 (s.setW a i v) m=(a8 s m).setW a i v∧(a8 s m).tk a=M∧eZ (s.setW a i v) m=eZ s m
 |0,_=>⟨rfl,ha,rfl⟩
 |m+1,h=>by
  obtain⟨h1,h2,h3⟩:=ku hs i v ha m (by omega);obtain⟨k,hk⟩:=jm (s:=a8 s m) (by rw[fL s m (by omega)];simp;omega);have hl:=Ms.top_lt (gG hs m).inv hk;have hne:a≠k:=fun e=>by rw[e,hl.2] at h2;cases h2
  have e1:(a8 s m).takeS =(a8 s m).take k:=by unfold Ms.takeS;rw[hk]
  have e2:((a8 s m).setW a i v).takeS =((a8 s m).setW a i v).take k:=by unfold Ms.takeS;rw[ur,hk]
  refine⟨?_,?_,?_⟩
  ·show(a8 (s.setW a i v) m).takeS =(a8 s m).takeS.setW a i v
   rw[h1,e1,e2,sI _ _ _ hne]
  ·show(a8 s m).takeS.tk a=M
   rw[e1];show bT (a8 s m).tk k M a=M;rw[iE _ _ hne];exact h2
  ·show eZ (s.setW a i v) m++[(a8 (s.setW a i v) m).topV]=eZ s m++[(a8 s m).topV]
   rw[h3,h1];rfl
theorem mq{s:Ms}{k:Nat}(h:s.top=N k):s.takeS.frees.length+1=s.frees.length:=by
 have:=congrArg List.length (gH h);rw[a5,List.length_singleton] at this;exact this
theorem mv{s:Ms}(hs:s.Ok){a:Nat}(ha:s.tk a=M):∀m,m≤s.frees.length→∀t∈eZ s m,t.toNat≠a∧(a8 s m).has t=M
 |0,_,t,ht=>by cases ht
 |m+1,h,t,ht=>by
  obtain⟨k,hk⟩:=jm (s:=a8 s m) (by rw[fL s m (by omega)];simp;omega);have hl:=Ms.top_lt (gG hs m).inv hk;have e1:(a8 s (m+1))=(a8 s m).take k:=by show(a8 s m).takeS =_;unfold Ms.takeS;rw[hk]
  have eV:(a8 s m).topV =(k:Int):=by unfold Ms.topV;rw[hk]
  rcases List.mem_append.1 ht with ht|ht
  ·obtain⟨i1,i2⟩:=mv hs ha m (by omega) t ht
   refine⟨i1,?_⟩;rw[e1];by_cases e:t=(k:Int)
   ·rw[e];exact dK hl.1
   ·rw[mH _ _ e];exact i2
  ·obtain rfl:=List.mem_singleton.1 ht
   rw[eV];refine⟨?_,by rw[e1];exact dK hl.1⟩;have h2:=(ku hs 0 0 ha m (by omega)).2.1;intro e;have e:k=a:=by simpa using e
   rw[e] at hl;rw[h2] at hl;cases hl.2
theorem nO{s:Ms}(hs:s.Ok){t:Int}(h:s.has t=M):∀m,m≤s.frees.length→(a8 s m).has t=M
 |0,_=>h
 |m+1,hm=>by
  obtain⟨k,hk⟩:=jm (s:=a8 s m) (by rw[fL s m (by omega)];simp;omega);have hl:=Ms.top_lt (gG hs m).inv hk;have e1:(a8 s (m+1))=(a8 s m).take k:=by show(a8 s m).takeS =_;unfold Ms.takeS;rw[hk]
  rw[e1];by_cases e:t=(k:Int)
  ·rw[e];exact dK hl.1
  ·rw[mH _ _ e];exact nO hs h m (by omega)
theorem pK{p lw:Int}{sz:Nat}(hp:cY p=M)(hsz:sz≤3):∀(m:Nat) (s:Ms) (t:Int),s.Ok→m≤s.frees.length→s.has t=M→sz+m≤3→dH s p lw sz m t=nM (a8 s m) p lw sz (t::eZ s m)
 |0,s,t,_,_,_,_=>rfl
 |m+1,s,t,hs,hm,ht,h3=>by
  obtain⟨k,hk⟩:=jm (s:=s) (by omega);have hl:=Ms.top_lt hs.inv hk;obtain⟨t0,t1,t2⟩:=Ms.has_iff.1 ht;have hne:t.toNat≠k:=fun e=>by rw[e,hl.2] at t2;cases t2
  have e1:s.takeS=s.take k:=by unfold Ms.takeS;rw[hk]
  have eV:s.topV=(k:Int):=by unfold Ms.topV;rw[hk]
  have hok:=hs.takeS;have hk2:(s.take k).has (k:Int)=M:=dK hl.1;have htk:(s.take k).tk t.toNat=M:=by
   show bT s.tk k M t.toNat=M;rw[iE _ _ hne];exact t2
  have hfl:=mq hk;rw[e1] at hok hfl;unfold dH;rw[hk];dsimp only;rw[pK hp hsz m _ (k:Int) ⟨hok.inv.setW _ _ (by
   unfold iP;exact iy _ _),hok.small⟩ (by show m≤(s.take k).frees.length;omega) hk2 (by omega)]
  obtain⟨h1,_,h4⟩:=ku hok (ap p (sz+m+1:Nat)).toNat (iP k (sz+m+1)) htk m (by omega);rw[h1,h4,jz,mo,e1,eV];rw[pJ _ _ _ _ _ _ _ _ (fun x hx=>by
   rcases List.mem_cons.1 hx with rfl|hx
   ·simpa using fun e=>hne e.symm
   ·exact(mv hok htk m (by omega) x hx).1)]
  show _=(nM (a8 (s.take k) m) p lw sz ((k:Int)::eZ (s.take k) m)).setW t.toNat (ap p (sz+(eZ (s.take k) m).length +1:Nat)).toNat (iP k (sz+(eZ (s.take k) m).length +1));rw[jQ]
theorem Arr.stp{w:Y}{A:Option b4}{n:Nat}{l:List Stp}(h:Arr w A n 9 (l.map Stp.cells)){i:Nat}(hi:i<l.length):∃b off,A=N (U b off D)∧b<w.heap.size∧
  (w.cell? ⟨b,off+i*9,D⟩=N (G I l[i].kind)∧w.cell? ⟨b,off+i*9+1,D⟩=N (G I l[i].core)∧w.cell? ⟨b,off+i*9+2,D⟩=N (G I l[i].m.page)∧w.cell? ⟨b,off+i*9+3,D⟩=N (G I l[i].m.size)∧
   w.cell? ⟨b,off+i*9+4,D⟩=N (G I l[i].m.frame)∧w.cell? ⟨b,off+i*9+5,D⟩=N (G I l[i].m.rights)∧w.cell? ⟨b,off+i*9+6,D⟩=N (G I l[i].a.page)∧w.cell? ⟨b,off+i*9+7,D⟩=N (G I l[i].a.kind)∧
   w.cell? ⟨b,off+i*9+8,D⟩=N (Z l[i].a.user)):=by
 obtain⟨b,off,hb,hbl,hc⟩:=h.at_ (i:=i) (xs:=(l[i]).cells) (by simp[hi]);exact⟨b,off,hb,hbl,hc 0 _ rfl,hc 1 _ rfl,hc 2 _ rfl,hc 3 _ rfl,hc 4 _ rfl,hc 5 _ rfl,hc 6 _ rfl,hc 7 _ rfl,hc 8 _ rfl⟩
theorem Arr.stpAt{w:Y}{b off n:Nat}{l:List Stp}(h:Arr w (N (U b off D)) n 9 (l.map Stp.cells)){i:Nat}(hi:i<l.length){x:Stp}(hx:l[i]=x):b<w.heap.size∧
  (w.cell? ⟨b,off+i*9,D⟩=N (G I x.kind)∧w.cell? ⟨b,off+i*9+1,D⟩=N (G I x.core)∧w.cell? ⟨b,off+i*9+2,D⟩=N (G I x.m.page)∧w.cell? ⟨b,off+i*9+3,D⟩=N (G I x.m.size)∧
   w.cell? ⟨b,off+i*9+4,D⟩=N (G I x.m.frame)∧w.cell? ⟨b,off+i*9+5,D⟩=N (G I x.m.rights)∧w.cell? ⟨b,off+i*9+6,D⟩=N (G I x.a.page)∧w.cell? ⟨b,off+i*9+7,D⟩=N (G I x.a.kind)∧
   w.cell? ⟨b,off+i*9+8,D⟩=N (Z x.a.user)):=by
 subst hx;obtain⟨b',off',hb,hbl,hc⟩:=h.stp hi;injection hb with hb
 injection hb with h1 h2
 subst h1;subst h2;exact⟨hbl,hc⟩
def lQ(c:Ck):Int:=if c.on=M then(if c.mark=M then 2 else 1) else 0
abbrev gT(root:Int)(c:Ck)(w:Int)(e:En):Array a4:= #[G I root,G I (lQ c),G I c.a.page,G I c.a.kind,Z c.a.user,G I c.level,G I c.t,G vU w,Z e.there,Z e.leaf,G I e.rights,Z e.used,Z e.dirty,G I e.frame]
def aP(b:Nat)(root:Int)(c:Ck)(w:Int)(e:En):ab:=aa b (gT root c w e) 219
def Mk(c:Ck)(w:Int)(e:En):Prop:=c.mark=M→w=c.w∧e=aD c.w c.level
def aZ(b:Nat)(root:Int)(c:Ck):ab:=ex fun w=>ex fun e=>eY (Mk c w e)*aP b root c w e
theorem fd{b:Nat}{root:Int}{c:Ck}{P:ab}{W:Y}(h:ag W (aZ b root c*P)):∃w e,Mk c w e∧ag W (aP b root c w e*P):=by
 unfold aZ at h;obtain⟨w,h⟩:=aF.1 h;obtain⟨e,h⟩:=aF.1 h;obtain⟨h1,h2⟩:=dd.1 h.a1;exact⟨w,e,h1,h2⟩
theorem bM{b:Nat}{root:Int}{c:Ck}{w:Int}{e:En}{P:ab}{W:Y}(hm:Mk c w e)(h:ag W (aP b root c w e*P)):ag W (aZ b root c*P):=by
 unfold aZ;exact aF.2 ⟨w,aF.2 ⟨e,(dd.2 ⟨hm,h⟩).a2⟩⟩
abbrev yX(r:Rs):a4:= .agg #[Z r.fin,G I r.an.fin,G I r.an.frame,G I r.an.rights,G I r.ln.m.page,G I r.ln.m.size,G I r.ln.m.frame,G I r.ln.m.rights,Z r.ln.dirty]
theorem cD{w:Y}{R:ab}{b:Nat}{v0 v1 v2 v3 v4 v5 v6 v7 v8:a4}(h:ag w (aa b #[v0,v1,v2,v3,v4,v5,v6,v7,v8] 181*R)):(loadVar 181 (U b 0 D)).run prog w= .ok (.agg #[v0,v1,v2,v3,v4,v5,v6,v7,v8]) w:=
 run_loadVar_row w b 181 181 _ _ _ h.heap underlying181 rfl (by kernel_rfl)
theorem fG{w:Y}{R:ab}{b:Nat}{v0 v1 v2:a4}(h:ag w (aa b #[v0,v1,v2] 41*R)):(loadVar 41 (U b 0 D)).run prog w= .ok (.agg #[v0,v1,v2]) w:=
 run_loadVar_row w b 41 41 _ _ _ h.heap underlying41 rfl (by kernel_rfl)
theorem Has.cells14{w:Y}{R:ab}{b:Nat}{v0 v1 v2 v3 v4 v5 v6 v7 v8 v9 v10 v11 v12 v13:a4}{t:TypeId}(h:ag w (aa b #[v0,v1,v2,v3,v4,v5,v6,v7,v8,v9,v10,v11,v12,v13] t*R)):
  w.cell? (U b 0 D)=N v0∧w.cell? (U b 1 D)=N v1∧w.cell? (U b 2 D)=N v2∧w.cell? (U b 3 D)=N v3∧w.cell? (U b 4 D)=N v4∧w.cell? (U b 5 D)=N v5∧w.cell? (U b 6 D)=N v6∧
   w.cell? (U b 7 D)=N v7∧w.cell? (U b 8 D)=N v8∧w.cell? (U b 9 D)=N v9∧w.cell? (U b 10 D)=N v10∧w.cell? (U b 11 D)=N v11∧w.cell? (U b 12 D)=N v12∧w.cell? (U b 13 D)=N v13:=
 ⟨h.cell 0,h.cell 1,h.cell 2,h.cell 3,h.cell 4,h.cell 5,h.cell 6,h.cell 7,h.cell 8,h.cell 9,h.cell 10,h.cell 11,h.cell 12,h.cell 13⟩
theorem Has.frees7{w:Y}{R:ab}{b:Nat}{cs:Array a4}{t:TypeId}(h:ag w (aa b cs t*R)):
  w.frozen? (U b 1 D)=g∧w.frozen? (U b 2 D)=g∧w.frozen? (U b 3 D)=g∧w.frozen? (U b 4 D)=g∧w.frozen? (U b 5 D)=g∧w.frozen? (U b 6 D)=g∧w.frozen? (U b 7 D)=g:=
 ⟨h.free 1,h.free 2,h.free 3,h.free 4,h.free 5,h.free 6,h.free 7⟩
theorem At(root:Int)(R:ab)(w:Y)(h:ag w R):bb prog 96 #[G I root] w fun e w'=>∃p,cR (.pointer (N (U p 0 D))) (aZ p root Ck.zero*R) w e w':=by
 have h1:ag _ (aP w.heap.size root Ck.zero 0 En.zero*R):=h.new (gT root Ck.zero 0 En.zero) 219;go_enter func96,ntmps96;go_wp2;go_ret;exact⟨_,rfl,bM (fun h=>by cases h) h1,(a7 w).alloc _⟩
theorem Au(b:Nat)(root:Int)(c:Ck)(R:ab)(W:Y)(h:ag W (aZ b root c*R)):bb prog 128 #[.pointer (N (U b 0 D))] W (Same (Z c.on) W):=by
 obtain⟨w,e,_,h⟩:=fd h;unfold aP at h;have c1:W.cell? (U b 1 D)=N (G I (lQ c)):=h.cell 1;have hl:=h.lt;have hy:Hid ((lQ c !=0)=c.on):=J (by unfold lQ;cases c.on<;>cases c.mark<;>rfl);go_enter func128,ntmps128;go_wp2;go_ret;exact⟨by rw[hy.out];rfl,rfl⟩
theorem wq(b:Nat)(root:Int)(c:Ck)(R:ab)(W:Y)(h:ag W (aZ b root c*R)):bb prog 129 #[.pointer (N (U b 0 D))] W (b0 (.agg #[G I c.a.page,G I c.a.kind,Z c.a.user]) W):=by
 obtain⟨w,e,_,h⟩:=fd h;unfold aP at h;obtain⟨c0,c1,c2,c3,c4,_⟩:=h.cells14;have hl:=h.lt;have H1:=(aT W).new #[G I c.a.page,G I c.a.kind,Z c.a.user] 41;go_enter func129,ntmps129;go_wp2;refine am (fun wz=>ag wz (aa W.heap.size #[G I c.a.page,G I c.a.kind,Z c.a.user] 41*(bE W W.heap.size))∧bi W wz) ⟨H1,ah⟩ ?_;rintro wz ⟨hz,xz⟩;exact ad (aG results129 rfl (fG hz)) rfl ⟨rfl,ar hz.right xz⟩
def nC(c:Ck)(a:Ac):Int:=if aq a≠0 then aq a else if c.on=M then 8 else 0
def oJ(c:Ck)(root:Int)(a:Ac):Ck:=if nC c a=0 then c.begin root a else c
theorem yg(b:Nat)(root:Int)(c:Ck)(a:Ac)(R:ab)(W:Y)(h:ag W (aZ b root c*R)):
  bb prog 105 #[.pointer (N (U b 0 D)),.agg #[G I a.page,G I a.kind,Z a.user]] W (cR (G I (nC c a)) (aZ b root (oJ c root a)*R) W):=by
 have h1:=(h.new #[G I a.page,G I a.kind,Z a.user] 41).p2;have x1:=(a7 W).alloc (.cells #[G I a.page,G I a.kind,Z a.user] 41);obtain⟨a0,a1,a2⟩:=h1.right.cells3;have HC:=J (fun X=>fq a.page a.kind a.user X);by_cases hc:aq a=0
 ·have hc':aq ⟨a.page,a.kind,a.user⟩=0:=hc
  rw[hc'] at HC;have HO:=J (fun R X h=>Au b root c R X h);cases hon:c.on with
  |true=>
   have hy1:Hid (nC c a=8∧oJ c root a=c):=J (by unfold oJ nC;rw[if_neg (by omega),if_pos hon];exact⟨rfl,if_neg (by omega)⟩);rw[hon] at HO;clear hc hc' h hon;go_enter func105,ntmps105;go_wp2_with(first|(go_at_call 101;refine(HC.out _).mono ?_;rintro e w2 ⟨rfl,b2⟩;have h2:=h1.below b2;have x2:=x1.below b2)|(go_at_call 128;refine(HO.out _ _ h2).mono ?_;rintro e w3 ⟨rfl,rfl⟩))
   go_ret;rw[hy1.out.1,hy1.out.2];exact⟨rfl,h2.p2.right,x2⟩
  |false=>
   have hy1:Hid (nC c a=0∧oJ c root a=c.begin root a):=J (by unfold oJ nC;rw[if_neg (by omega),if_neg (by rw[hon];simp)];exact⟨rfl,if_pos rfl⟩);rw[hon] at HO;clear hc hc' h;go_enter func105,ntmps105;go_wp2_with(refine(HC.out _).mono ?_;rintro e w2 ⟨rfl,b2⟩)
   have h2:=h1.below b2;have x2:=x1.below b2;clear h1 x1 b2 a0 a1 a2;refine(HO.out _ _ h2).mono ?_;rintro e w3 ⟨rfl,rfl⟩;obtain⟨w',e',_,h3⟩:=fd h2;unfold aP at h3;obtain⟨a0,a1,a2⟩:=h3.right.cells3;have al:=h3.right.lt;have hne:=h3.ne;have hne':=hne.symm;have k0:w2.cell? (U b 0 D)=N (G I root):=h3.cell 0;obtain⟨f1,f2,f3,f4,f5,f6,_⟩:=h3.frees7;have kl:=h3.lt;obtain⟨_,k1,k2,k3,k4,k5,k6,_⟩:=h3.cells14;have hc1:lQ (c.begin root a)=1:=rfl;go_wp2_with fail
   go_ret;rw[hy1.out.1,hy1.out.2];refine⟨rfl,bM (w:=w') (e:=e') (fun h=>by cases h) ?_,((((((x2.set _ _).set _ _).set _ _).set _ _).set _ _).set _ _)⟩;have h9:ag ((((((w2.setCell (U b 2 D) (G I a.page)).setCell (U b 3 D) (G I a.kind)).setCell (U b 4 D) (Z a.user)).setCell (U b 1 D) (G I 1)).setCell (U b 5 D) (G I 3)).setCell (U b 6 D) (G I root)) (aP b root (c.begin root a) w' e'*(aa W.heap.size #[G I a.page,G I a.kind,Z a.user] 41*R)):=(((((h3.set 2 _).set 3 _).set 4 _).set 1 _).set 5 _).set 6 _;exact h9.p2.right
 ·have hc':aq ⟨a.page,a.kind,a.user⟩≠0:=hc
  have hn:(aq ⟨a.page,a.kind,a.user⟩ !=0)=M:=by simpa using hc'
  have hy1:Hid (nC c a=aq ⟨a.page,a.kind,a.user⟩∧oJ c root a=c):=J (by unfold oJ nC;rw[if_pos hc];exact⟨rfl,if_neg hc⟩);clear hc hc' h;generalize aq ⟨a.page,a.kind,a.user⟩=cc at*
  go_enter func105,ntmps105;go_wp2_with(refine(HC.out _).mono ?_;rintro e w2 ⟨rfl,b2⟩)
  go_ret;rw[hy1.out.1,hy1.out.2];exact⟨rfl,(h1.below b2).p2.right,x1.below b2⟩
theorem ut(b:Nat)(root:Int)(c:Ck)(R:ab)(W:Y)(h:ag W (aZ b root c*R)):bb prog 166 #[.pointer (N (U b 0 D))] W (cR (.tuple #[]) (aZ b root (c.again root)*R) W):=by
 have HO:=J (fun R X h=>Au b root c R X h);cases hon:c.on with
 |true=>
  rw[hon] at HO;obtain⟨w',e',_,h3⟩:=fd h;unfold aP at h3;have k0:W.cell? (U b 0 D)=N (G I root):=h3.cell 0;obtain⟨f1,f2,f3,f4,f5,f6,_⟩:=h3.frees7;have kl:=h3.lt;obtain⟨_,k1,k2,k3,k4,k5,k6,_⟩:=h3.cells14;have hs:c.again root={c with t:=root,level:=3,mark:=g}:=by unfold Ck.again;rw[if_pos hon]
  have hst:lQ {c with t:=root,level:=3,mark:=g}=1:=by unfold lQ;simp[hon]
  have h9:ag (((W.setCell (U b 1 D) (G I 1)).setCell (U b 5 D) (G I 3)).setCell (U b 6 D) (G I root)) (aP b root {c with t:=root,level:=3,mark:=g} w' e'*R):=by
   unfold aP gT;rw[hst];exact((h3.set 1 _).set 5 _).set 6 _
  have HS:=J hs;clear hs hst h3 hon;go_enter func166,ntmps166;go_wp2_with(refine(HO.out _ _ h).mono ?_;rintro e w3 ⟨rfl,rfl⟩)
  refine ad (v:= .tuple #[]) (by simp[results,results166]) rfl ?_;rw[HS.out];exact⟨rfl,bM (w:=w') (e:=e') (fun h=>by cases h) h9,(((a7 W).set _ _).set _ _).set _ _⟩
 |false=>
  rw[hon] at HO;have hs:c.again root=c:=by unfold Ck.again;rw[if_neg (by rw[hon];simp)]
  have HS:=J hs;clear hs hon;go_enter func166,ntmps166;go_wp2_with(refine(HO.out _ _ h).mono ?_;rintro e w3 ⟨rfl,rfl⟩)
  refine ad (v:= .tuple #[]) (by simp[results,results166]) rfl ?_;rw[HS.out];exact⟨rfl,h,a7 _⟩
set_option maxHeartbeats 1000000 in
theorem yh(b:Nat)(root:Int)(c:Ck)(w:Int)(e:En)(an:An)(ln:Ln)(R:ab)(W:Y)(h:ag W (aP b root c w e*R)):
  bb prog 184 #[.pointer (N (U b 0 D)),.agg #[G I an.fin,G I an.frame,G I an.rights],.agg #[G I ln.m.page,G I ln.m.size,G I ln.m.frame,G I ln.m.rights,Z ln.dirty]] W (cR (yX ⟨M,an,ln⟩) (aP b root c.idle w e*R) W):=by
 unfold aP at h;have h1:=((h.new #[G I an.fin,G I an.frame,G I an.rights] 34).new #[G I ln.m.page,G I ln.m.size,G I ln.m.frame,G I ln.m.rights,Z ln.dirty] 143).new #[Z g,G I 0,G I 0,G I 0,G I 0,G I 0,G I 0,G I 0,Z g] 181;have x1:=(((a7 W).alloc (.cells #[G I an.fin,G I an.frame,G I an.rights] 34)).alloc (.cells #[G I ln.m.page,G I ln.m.size,G I ln.m.frame,G I ln.m.rights,Z ln.dirty] 143)).alloc (.cells #[Z g,G I 0,G I 0,G I 0,G I 0,G I 0,G I 0,G I 0,Z g] 181);simp only[ax] at h1;clear h;go_enter func184,ntmps184;go_upto_region 1 with fail;generalize (((W.alloc (.cells #[G I an.fin,G I an.frame,G I an.rights] 34)).alloc (.cells #[G I ln.m.page,G I ln.m.size,G I ln.m.frame,G I ln.m.rights,Z ln.dirty] 143)).alloc (.cells #[Z g,G I 0,G I 0,G I 0,G I 0,G I 0,G I 0,G I 0,Z g] 181))=W3 at*
 generalize W.heap.size+1+1=X3 at*
 generalize W.heap.size+1=X2 at*
 generalize W.heap.size=X1 at*
 have h2:ag W3 (aa b (gT root c w e) 219*(aa X1 #[G I an.fin,G I an.frame,G I an.rights] 34*(aa X2 #[G I ln.m.page,G I ln.m.size,G I ln.m.frame,G I ln.m.rights,Z ln.dirty] 143*(aa X3 #[Z g,G I 0,G I 0,G I 0,G I 0,G I 0,G I 0,G I 0,Z g] 181*R)))):=h1.eq (by ac_rfl);have h2':ag W3 (aa b (gT root c w e) 219*(aa X2 #[G I ln.m.page,G I ln.m.size,G I ln.m.frame,G I ln.m.rights,Z ln.dirty] 143*(aa X1 #[G I an.fin,G I an.frame,G I an.rights] 34*(aa X3 #[Z g,G I 0,G I 0,G I 0,G I 0,G I 0,G I 0,G I 0,Z g] 181*R)))):=h1.eq (by ac_rfl);have n1:=h2.ne;have n2:=h2'.ne;have m1:=n1.symm;have m2:=n2.symm;obtain⟨f1,f2,f3,f4,f5,f6,_⟩:=h2.frees7;have kl:=h2.lt;obtain⟨_,k1,k2,k3,k4,k5,k6,_⟩:=h2.cells14;obtain⟨a0,a1,a2⟩:=h2.right.cells3;have al:=h2.right.lt;obtain⟨l0,l1,l2,l3,l4⟩:=h2.right.right.cells5;have ll:=h2.right.right.lt;have h3:=h2.r3;have r0:=h3.free 0;have r1:=h3.free 1;have r2:=h3.free 2;have r3:=h3.free 3;have r4:=h3.free 4;have r5:=h3.free 5;have r6:=h3.free 6;have r7:=h3.free 7;have r8:=h3.free 8;have rl:=h3.lt;obtain⟨s0,s1,s2,s3,s4,s5,s6,s7,s8⟩:=h3.cells9;have h3':ag W3 (aa b (gT root c w e) 219*(aa X3 #[Z g,G I 0,G I 0,G I 0,G I 0,G I 0,G I 0,G I 0,Z g] 181*(R*(aa X1 #[G I an.fin,G I an.frame,G I an.rights] 34*aa X2 #[G I ln.m.page,G I ln.m.size,G I ln.m.frame,G I ln.m.rights,Z ln.dirty] 143)))):=h1.eq (by ac_rfl);have n3:=h3'.ne;have m3:=n3.symm;have h4:ag ((((W3.setCell (U b 1 D) (G I 0)).setCell (U b 2 D) (G I 0)).setCell (U b 3 D) (G I 0)).setCell (U b 4 D) (Z g)) (aP b root c.idle w e*(aa X3 #[Z g,G I 0,G I 0,G I 0,G I 0,G I 0,G I 0,G I 0,Z g] 181*(R*(aa X1 #[G I an.fin,G I an.frame,G I an.rights] 34*aa X2 #[G I ln.m.page,G I ln.m.size,G I ln.m.frame,G I ln.m.rights,Z ln.dirty] 143)))):=(((h3'.set 1 _).set 2 _).set 3 _).set 4 _;clear h1 h2 h2' h3 h3';go_wp2_with fail
 refine am (fun wz=>ag wz (aa X3 #[Z M,G I an.fin,G I an.frame,G I an.rights,G I ln.m.page,G I ln.m.size,G I ln.m.frame,G I ln.m.rights,Z ln.dirty] 181*(aP b root c.idle w e*(R*(aa X1 #[G I an.fin,G I an.frame,G I an.rights] 34*aa X2 #[G I ln.m.page,G I ln.m.size,G I ln.m.frame,G I ln.m.rights,Z ln.dirty] 143))))∧bi W wz) ⟨((((((((h4.p2.set 0 _).set 1 _).set 2 _).set 3 _).set 4 _).set 5 _).set 6 _).set 7 _).set 8 _,ah⟩ ?_;rintro wz ⟨hz,xz⟩;exact ad (aG results184 rfl (cD hz)) rfl ⟨rfl,hz.right.a2.left,xz⟩
set_option maxHeartbeats 4000000 in
theorem kv(e:En)(l a:Int)(w:Y):bb prog 132 #[.agg #[Z e.there,Z e.leaf,G I e.rights,Z e.used,Z e.dirty,G I e.frame],.int .i64 l,.int .i64 a] w (b0 (aB e l a).val w):=by
 obtain⟨th,leaf,r,u,d,f⟩:=e;have h1:=(bk (aT w) #[Z th,Z leaf,G I r,Z u,Z d,G I f] 70).new #[G I 0,G I 0,G I 0,G I 0] 39;have x1:=((a7 w).alloc (.cells #[Z th,Z leaf,G I r,Z u,Z d,G I f] 70)).alloc (.cells #[G I 0,G I 0,G I 0,G I 0] 39);simp only[ax] at h1;have HC:=J (fun W=>gR ⟨th,leaf,r,u,d,f⟩ l W);have HH:=J (fun W=>dt a W);by_cases hc:aj ⟨th,leaf,r,u,d,f⟩ l=0
 ·have hl:=ip hc
  cases leaf with
  |false=>
   have hy:=J (fw (e:=⟨th,g,r,u,d,f⟩) (l:=l) (a:=a) (.inr (.inl rfl)));rw[hc] at HC;clear hc;go_enter func132,ntmps132;go_wp2_with fail
   refine(HC.out _).mono ?_;rintro e w2 ⟨rfl,bl⟩;have h2:=h1.below bl;have x2:=x1.below bl;obtain⟨c0,c1,c2,c3⟩:=h2.cells4;obtain⟨d0,d1,d2,d3,d4,d5⟩:=h2.right.cells6;obtain⟨f0,f1,f2,f3⟩:=h2.frees4;have l2:=h2.lt;go_wp2_with(go_at_call 158;refine(HH.out _).mono ?_;rintro e w' ⟨rfl,rfl⟩)
   refine am (fun wz=>ag wz (aa (w.heap.size+1) #[G I 0,G I 0,G I 0,G I 0] 39*(aa w.heap.size _ 70*bE w w.heap.size))∧bi w wz) ⟨h2.set4 _ _ _ _,ah⟩ ?_;rintro wz ⟨hz,xz⟩;exact ad (aG results132 rfl (bh hz)) rfl ⟨by rw[hy.out];rfl,ar hz.right.right xz⟩
  |true=>
   cases ha:cY a with
   |false=>
    have hy:=J (fw (e:=⟨th,M,r,u,d,f⟩) (l:=l) (a:=a) (.inr (.inr ha)));rw[hc] at HC;rw[ha] at HH;clear hc ha;go_enter func132,ntmps132;go_wp2_with fail
    refine(HC.out _).mono ?_;rintro e w2 ⟨rfl,bl⟩;have h2:=h1.below bl;have x2:=x1.below bl;obtain⟨c0,c1,c2,c3⟩:=h2.cells4;obtain⟨d0,d1,d2,d3,d4,d5⟩:=h2.right.cells6;obtain⟨f0,f1,f2,f3⟩:=h2.frees4;have l2:=h2.lt;go_wp2_with(go_at_call 158;refine(HH.out _).mono ?_;rintro e w' ⟨rfl,rfl⟩)
    refine am (fun wz=>ag wz (aa (w.heap.size+1) #[G I 0,G I 0,G I 0,G I 0] 39*(aa w.heap.size _ 70*bE w w.heap.size))∧bi w wz) ⟨h2.set4 _ _ _ _,ah⟩ ?_;rintro wz ⟨hz,xz⟩;exact ad (aG results132 rfl (bh hz)) rfl ⟨by rw[hy.out];rfl,ar hz.right.right xz⟩
   |true=>
    have ha':0≤a∧a<4096:=by unfold cY at ha;simpa using ha
    obtain⟨a0,a1⟩:=ha';have hth:th=M:=by
     cases th with
     |true=>rfl
     |false=>
      have:=dE hc rfl;simp[En.zero] at this
    subst hth;have hl3:=((dF hc rfl).leaf rfl).1;have hl0:=hl.1;have hy:=J (show aB ⟨M,M,r,u,d,f⟩ l a=⟨a / bn l*bn l,l,f,r⟩ by unfold aB;rw[if_pos ⟨hc,rfl,a0,a1⟩]);rw[hc] at HC;rw[ha] at HH;clear hc ha hl;have hl:l=0∨l=1∨l=2:=by omega
    clear hl0 hl3;rcases hl with rfl|rfl|rfl
    ·skip
     have hq:=J (show IntKind.i64.wrap (IntKind.i64.wrap a)=a / bn 0*bn 0 by rw[show bn 0=1 from rfl];first|(simp only[a6];omega)|(simp only[a6,Int.tdiv_eq_ediv_of_nonneg a0];omega));have hs':=J (df 0);rw[show bn 0=1 from rfl] at hs';have hr0:cW (a / 1*1):=⟨by omega,by omega⟩;go_enter func132,ntmps132;go_wp2_with fail
     refine(HC.out _).mono ?_;rintro e w2 ⟨rfl,bl⟩;have h2:=h1.below bl;have x2:=x1.below bl;obtain⟨c0,c1,c2,c3⟩:=h2.cells4;obtain⟨d0,d1,d2,d3,d4,d5⟩:=h2.right.cells6;obtain⟨f0,f1,f2,f3⟩:=h2.frees4;have l2:=h2.lt;go_wp2_with(first|(go_at_call 158;refine(HH.out _).mono ?_;rintro e w' ⟨rfl,rfl⟩)|(go_at_call 174;refine(eM _ _).mono ?_;rintro e w' ⟨rfl,rfl⟩)|(go_at_call 173;refine(hs'.out _).mono ?_;rintro e w' ⟨rfl,rfl⟩))
     go_region_held3 (fun w'=>w'.cell? (U w.heap.size 5 D)=N (G I f)∧w'.cell? (U w.heap.size 2 D)=N (G I r)) (go_keep) (first|(go_at_call 174;(with_reducible refine(eM _ _).mono ?_);rintro e w' ⟨rfl,rfl⟩))
     go_wp2;refine am (fun wz=>ag wz (aa (w.heap.size+1) #[G I (IntKind.i64.wrap (IntKind.i64.wrap a)),G I 0,G I f,G I r] 39*(aa w.heap.size #[Z M,Z M,G I r,Z u,Z d,G I f] 70*bE w w.heap.size))∧bi w wz) ⟨(h2.set4 _ _ _ _).drew,ah⟩ ?_;rintro wz ⟨hz,xz⟩;exact ad (aG results132 rfl (bh hz)) rfl ⟨by rw[hy.out,←hq.out];rfl,ar hz.right.right xz⟩
    ·skip
     have hq:=J (show IntKind.i64.wrap (IntKind.i64.wrap (a.tdiv 8)*8)=a / bn 1*bn 1 by rw[show bn 1=8 from rfl];first|(simp only[a6];omega)|(simp only[a6,Int.tdiv_eq_ediv_of_nonneg a0];omega));have hs':=J (df 1);rw[show bn 1=8 from rfl] at hs';have hr0:cW (a / 8*8):=⟨by omega,by omega⟩;go_enter func132,ntmps132;go_wp2_with fail
     refine(HC.out _).mono ?_;rintro e w2 ⟨rfl,bl⟩;have h2:=h1.below bl;have x2:=x1.below bl;obtain⟨c0,c1,c2,c3⟩:=h2.cells4;obtain⟨d0,d1,d2,d3,d4,d5⟩:=h2.right.cells6;obtain⟨f0,f1,f2,f3⟩:=h2.frees4;have l2:=h2.lt;go_wp2_with(first|(go_at_call 158;refine(HH.out _).mono ?_;rintro e w' ⟨rfl,rfl⟩)|(go_at_call 174;refine(eM _ _).mono ?_;rintro e w' ⟨rfl,rfl⟩)|(go_at_call 173;refine(hs'.out _).mono ?_;rintro e w' ⟨rfl,rfl⟩))
     go_region_held3 (fun w'=>w'.cell? (U w.heap.size 5 D)=N (G I f)∧w'.cell? (U w.heap.size 2 D)=N (G I r)) (go_keep) (first|(go_at_call 174;(with_reducible refine(eM _ _).mono ?_);rintro e w' ⟨rfl,rfl⟩))
     go_wp2;refine am (fun wz=>ag wz (aa (w.heap.size+1) #[G I (IntKind.i64.wrap (IntKind.i64.wrap (a.tdiv 8)*8)),G I 1,G I f,G I r] 39*(aa w.heap.size #[Z M,Z M,G I r,Z u,Z d,G I f] 70*bE w w.heap.size))∧bi w wz) ⟨(h2.set4 _ _ _ _).drew,ah⟩ ?_;rintro wz ⟨hz,xz⟩;exact ad (aG results132 rfl (bh hz)) rfl ⟨by rw[hy.out,←hq.out];rfl,ar hz.right.right xz⟩
    ·skip
     have hq:=J (show IntKind.i64.wrap (IntKind.i64.wrap (a.tdiv 64)*64)=a / bn 2*bn 2 by rw[show bn 2=64 from rfl];first|(simp only[a6];omega)|(simp only[a6,Int.tdiv_eq_ediv_of_nonneg a0];omega));have hs':=J (df 2);rw[show bn 2=64 from rfl] at hs';have hr0:cW (a / 64*64):=⟨by omega,by omega⟩;go_enter func132,ntmps132;go_wp2_with fail
     refine(HC.out _).mono ?_;rintro e w2 ⟨rfl,bl⟩;have h2:=h1.below bl;have x2:=x1.below bl;obtain⟨c0,c1,c2,c3⟩:=h2.cells4;obtain⟨d0,d1,d2,d3,d4,d5⟩:=h2.right.cells6;obtain⟨f0,f1,f2,f3⟩:=h2.frees4;have l2:=h2.lt;go_wp2_with(first|(go_at_call 158;refine(HH.out _).mono ?_;rintro e w' ⟨rfl,rfl⟩)|(go_at_call 174;refine(eM _ _).mono ?_;rintro e w' ⟨rfl,rfl⟩)|(go_at_call 173;refine(hs'.out _).mono ?_;rintro e w' ⟨rfl,rfl⟩))
     go_region_held3 (fun w'=>w'.cell? (U w.heap.size 5 D)=N (G I f)∧w'.cell? (U w.heap.size 2 D)=N (G I r)) (go_keep) (first|(go_at_call 174;(with_reducible refine(eM _ _).mono ?_);rintro e w' ⟨rfl,rfl⟩))
     go_wp2;refine am (fun wz=>ag wz (aa (w.heap.size+1) #[G I (IntKind.i64.wrap (IntKind.i64.wrap (a.tdiv 64)*64)),G I 2,G I f,G I r] 39*(aa w.heap.size #[Z M,Z M,G I r,Z u,Z d,G I f] 70*bE w w.heap.size))∧bi w wz) ⟨(h2.set4 _ _ _ _).drew,ah⟩ ?_;rintro wz ⟨hz,xz⟩;exact ad (aG results132 rfl (bh hz)) rfl ⟨by rw[hy.out,←hq.out];rfl,ar hz.right.right xz⟩
 ·have hy:=J (fw (e:=⟨th,leaf,r,u,d,f⟩) (l:=l) (a:=a) (.inl hc))
  have hn:(aj ⟨th,leaf,r,u,d,f⟩ l !=0)=M:=by simpa using hc
  clear hc;generalize aj ⟨th,leaf,r,u,d,f⟩ l=c at*
  go_enter func132,ntmps132;go_wp2_with fail
  refine(HC.out _).mono ?_;rintro e w2 ⟨rfl,bl⟩;have h2:=h1.below bl;have x2:=x1.below bl;obtain⟨c0,c1,c2,c3⟩:=h2.cells4;obtain⟨d0,d1,d2,d3,d4,d5⟩:=h2.right.cells6;obtain⟨f0,f1,f2,f3⟩:=h2.frees4;have l2:=h2.lt;go_wp2_with(go_at_call 158;refine(HH.out _).mono ?_;rintro e w' ⟨rfl,rfl⟩)
  refine am (fun wz=>ag wz (aa (w.heap.size+1) #[G I 0,G I 0,G I 0,G I 0] 39*(aa w.heap.size _ 70*bE w w.heap.size))∧bi w wz) ⟨h2.set4 _ _ _ _,ah⟩ ?_;rintro wz ⟨hz,xz⟩;exact ad (aG results132 rfl (bh hz)) rfl ⟨by rw[hy.out];rfl,ar hz.right.right xz⟩
theorem oK(b:Nat)(root:Int)(c:Ck)(w:Int)(e:En)(R:ab)(W:Y)(h:ag W (aP b root c w e*R)):
  bb prog 163 #[.pointer (N (U b 0 D))] W (b0 (.agg #[Z (bY e c.a).there,Z (bY e c.a).leaf,G I (bY e c.a).rights,Z (bY e c.a).used,Z (bY e c.a).dirty,G I (bY e c.a).frame]) W):=by
 unfold aP at h;obtain⟨th,lf,rg,us,di,fr⟩:=e;obtain⟨k0,k1,k2,k3,k4,k5,k6,k7,k8,k9,k10,k11,k12,k13⟩:=h.cells14;have kl:=h.lt;unfold bY;dsimp only;cases di with
 |true=>
  have hz0:=((aT W).new #[Z th,Z lf,G I rg,Z M,Z M,G I fr] 70).alloc (.cells #[Z th,Z lf,G I rg,Z M,Z M,G I fr] 70);clear h k0 k1 k2 k4 k5 k6 k7;go_enter func163,ntmps163;go_wp2;refine am (fun wz=>ag wz (aa W.heap.size #[Z th,Z lf,G I rg,Z M,Z M,G I fr] 70*(bE W W.heap.size))∧bi W wz) ⟨hz0,ah⟩ ?_;rintro wz ⟨hz,xz⟩;exact ad (aG results163 rfl (bw hz)) rfl ⟨rfl,ar hz.right xz⟩
 |false=>
  have hz0:=((aT W).new #[Z th,Z lf,G I rg,Z M,Z (c.a.kind==1),G I fr] 70).alloc (.cells #[Z th,Z lf,G I rg,Z M,Z (c.a.kind==1),G I fr] 70);clear h k0 k1 k2 k4 k5 k6 k7;go_enter func163,ntmps163;go_wp2;refine am (fun wz=>ag wz (aa W.heap.size #[Z th,Z lf,G I rg,Z M,Z (c.a.kind==1),G I fr] 70*(bE W W.heap.size))∧bi W wz) ⟨hz0,ah⟩ ?_;rintro wz ⟨hz,xz⟩;exact ad (aG results163 rfl (bw hz)) rfl ⟨rfl,ar hz.right xz⟩
theorem qQ(th lf us di:Bool)(rg fr:Int)(X:Y):(Instr.field 70 (.agg #[Z th,Z lf,G I rg,Z us,Z di,G I fr]) 4).run prog X= .ok (Z di) X:=by kernel_rfl
theorem mw(p s f r:Int)(d:Bool)(X:Y):(Instr.build 143 #[(0,.agg #[G I p,G I s,G I f,G I r]),(1,Z d)]).run prog X= .ok (.agg #[G I p,G I s,G I f,G I r,Z d]) X:=by kernel_rfl
theorem Good.const{md:Region.Mode}{ops:Array Oper}{i:Nat}{p:Y→Prop}:Good md ops i (fun _ w=>p w):=⟨fun _ _ h=>h,fun _ _ _ _ _ _ _ _ _ _ h=>h⟩
set_option maxHeartbeats 4000000 in
theorem yi(b:Nat)(root:Int)(c:Ck)(w:Int)(e me:En)(m:Mp)(an:An)(HME:Hid (bY e c.a=me))(HLM:Hid (aB e c.level c.a.page=m))(HAN:Hid (bF m ⟨c.a.page,c.a.kind,c.a.user⟩=an))(R:ab)(W:Y)(h:ag W (aP b root c w e*R)):
  bb prog 167 #[.pointer (N (U b 0 D))] W (cR (yX ⟨M,an,⟨m,me.dirty⟩⟩) (aP b root c.idle w e*R) W):=by
 have h1:ag (W.alloc (.cells #[Z g,G I 0,G I 0,G I 0,G I 0,G I 0,G I 0,G I 0,Z g] 181)) (aP b root c w e*(aa W.heap.size #[Z g,G I 0,G I 0,G I 0,G I 0,G I 0,G I 0,G I 0,Z g] 181*R)):=(h.new #[Z g,G I 0,G I 0,G I 0,G I 0,G I 0,G I 0,G I 0,Z g] 181).p2;have x1:=(a7 W).alloc (.cells #[Z g,G I 0,G I 0,G I 0,G I 0,G I 0,G I 0,G I 0,Z g] 181);have HE:=J (fun X=>kv e c.level c.a.page X);rw[HLM.out] at HE;have HM:=J (fun R X h=>oK b root c w e R X h);rw[HME.out] at HM;obtain⟨mt,ml,mr,mu,md,mf⟩:=me;dsimp only at HM⊢;have HN:=J (fun an ln R X h=>yh b root c w e an ln R X h);have HA:=J (fun X=>kG m c.a.page c.a.kind c.a.user X);rw[HAN.out] at HA;go_enter func167,ntmps167;go_upto_region 1 with fail;generalize W.alloc _=W1 at*
 generalize W.heap.size=X1 at*
 clear h;have hb:=h1;unfold aP at hb;obtain⟨k0,k1,k2,k3,k4,k5,k6,k7,k8,k9,k10,k11,k12,k13⟩:=hb.cells14;have kl:=hb.lt;clear hb;have HK:=J (fun(w':Y) (P:ab) (h:ag w' (aP b root c w e*P))=>(by
  unfold aP at h;obtain⟨k0,k1,k2,k3,k4,k5,k6,k7,k8,k9,k10,k11,k12,k13⟩:=h.cells14;exact⟨k2,k5,k8,k9,k10,k11,k12,k13⟩:(w'.cell? (U b 2 D)=N (G I c.a.page)∧w'.cell? (U b 5 D)=N (G I c.level)∧w'.cell? (U b 8 D)=N (Z e.there)∧w'.cell? (U b 9 D)=N (Z e.leaf)∧w'.cell? (U b 10 D)=N (G I e.rights)∧w'.cell? (U b 11 D)=N (Z e.used)∧w'.cell? (U b 12 D)=N (Z e.dirty)∧w'.cell? (U b 13 D)=N (G I e.frame))))
 clear k0 k1 k3 k4 k6 k7;go_cut [3] (fun s3 wx=>∃X:Nat,s3= .pointer (N (U X 0 D))∧ag wx (aP b root c w e*(aa X #[G I m.page,G I m.size,G I m.frame,G I m.rights] 39*(aa X1 #[Z g,G I 0,G I 0,G I 0,G I 0,G I 0,G I 0,G I 0,Z g] 181*R)))∧bi W wx)
 case first=>
  go_region_held3 (fun w'=>(w'.cell? (U b 2 D)=N (G I c.a.page)∧w'.cell? (U b 5 D)=N (G I c.level)∧w'.cell? (U b 8 D)=N (Z e.there)∧w'.cell? (U b 9 D)=N (Z e.leaf)∧w'.cell? (U b 10 D)=N (G I e.rights)∧w'.cell? (U b 11 D)=N (Z e.used)∧w'.cell? (U b 12 D)=N (Z e.dirty)∧w'.cell? (U b 13 D)=N (G I e.frame))) (first|(with_reducible exact HK.out _ _ h2)|(with_reducible exact HK.out _ _ (h2.alloc _))|(with_reducible exact HK.out _ _ g2.right)|(with_reducible exact HK.out _ _ (h1.drew.alloc _))|(with_reducible exact HK.out _ _ (g2.set4 _ _ _ _).right)|go_keep) (first|(go_at_call 132;first|((with_reducible refine(HE.out _).mono ?_);rintro e2 w2 ⟨rfl,b2⟩;first|(have h2:=h1.drew.below b2;have x2:=x1.drew.below b2)|(have g2:ag w2 (aa W1.heap.size #[G I 0,G I 0,G I 0,G I 0] 39*(aP b root c w e*(aa X1 #[Z g,G I 0,G I 0,G I 0,G I 0,G I 0,G I 0,G I 0,Z g] 181*R))):=(h1.drew.new #[G I 0,G I 0,G I 0,G I 0] 39).below b2;have x2:=(x1.drew.alloc _).below b2;obtain⟨f0,f1,f2,f3⟩:=g2.frees4;obtain⟨d0,d1,d2,d3⟩:=g2.cells4;have dl:=g2.lt))))
  all_goals
   go_wp2_with fail
   go_meet
   case rel=>first|exact⟨_,rfl,(h2.new #[G I m.page,G I m.size,G I m.frame,G I m.rights] 39).p2,x2.alloc _⟩|exact⟨_,rfl,(g2.set4 _ _ _ _).p2,(((x2.set _ _).set _ _).set _ _).set _ _⟩
 case rest=>
  obtain⟨X,rfl,h2,x2⟩:=hcut;clear k2 k5 k8 k9 k10 k11 k12 k13 kl HK h1 x1 HE;have hb:=h2;unfold aP at hb;obtain⟨k0,k1,k2,k3,k4,k5,k6,k7,k8,k9,k10,k11,k12,k13⟩:=hb.cells14;have kl:=hb.lt;clear hb k0 k1 k5 k6 k7 k8 k9 k10 k11 k12 k13;have cX:=h2.right.cells4;have lX:=h2.right.lt;have HKX:=J (fun(w':Y) (P:ab) (h:ag w' (aa X #[G I m.page,G I m.size,G I m.frame,G I m.rights] 39*P))=>h.cells4);have HKA:=J (fun(w':Y) (P:ab) (h:ag w' (aP b root c w e*P))=>(by
   unfold aP at h;exact⟨h.cell 2,h.cell 3,h.cell 4⟩:w'.cell? (U b 2 D)=N (G I c.a.page)∧w'.cell? (U b 3 D)=N (G I c.a.kind)∧w'.cell? (U b 4 D)=N (Z c.a.user)))
  go_wp2_with fail
  refine iV (S:=fun L w'=>(w'.cell? (U X 0 D)=N (G I m.page)∧w'.cell? (U X 1 D)=N (G I m.size)∧w'.cell? (U X 2 D)=N (G I m.frame)∧w'.cell? (U X 3 D)=N (G I m.rights))∧Till 6 5 (fun w'=>w'.cell? (U b 2 D)=N (G I c.a.page)∧w'.cell? (U b 3 D)=N (G I c.a.kind)∧w'.cell? (U b 4 D)=N (Z c.a.user)) L w') (by kernel_rfl) ⟨cX,Till.start ⟨k2,k3,k4⟩⟩ (fun hHeld=> ?_);refine aO (i:=0) (v:= ?_) rfl (by kernel_rfl) (by kernel_rfl) (by kernel_rfl) (fun _ _ _ h=>h) (Good.and Good.const (Good.till (by decide) ⟨_,⟨5,.data⟩,rfl,by simp,rfl,rfl⟩)) (Or.inl ⟨by kernel_rfl,?_⟩) hHeld (fun hHeld=> ?_);rotate_left;focus (intro wS hSw;obtain⟨Lx,hLx,hs1,hs2⟩:=hSw;skip;go_simp;first|done|with_reducible rfl)
  try go_simp
  refine aO (i:=1) (v:= ?_) rfl (by kernel_rfl) (by kernel_rfl) (by kernel_rfl) (fun _ _ _ h=>h) (Good.and Good.const (Good.till (by decide) ⟨_,⟨5,.data⟩,rfl,by simp,rfl,rfl⟩)) (Or.inl ⟨by kernel_rfl,?_⟩) hHeld (fun hHeld=> ?_);rotate_left;focus (intro wS hSw;obtain⟨Lx,hLx,hs1,hs2⟩:=hSw;obtain⟨s0,s1,s2,s3⟩:=hs1;go_simp;first|done|with_reducible rfl)
  try go_simp
  refine aO (i:=2) (v:= ?_) rfl (by kernel_rfl) (by kernel_rfl) (by kernel_rfl) (fun _ _ _ h=>h) (Good.and Good.const (Good.till (by decide) ⟨_,⟨5,.data⟩,rfl,by simp,rfl,rfl⟩)) (Or.inl ⟨by kernel_rfl,?_⟩) hHeld (fun hHeld=> ?_);rotate_left;focus (intro wS hSw;obtain⟨Lx,hLx,hs1,hs2⟩:=hSw;skip;go_simp;first|done|with_reducible rfl)
  try go_simp
  refine aO (i:=3) (v:= ?_) rfl (by kernel_rfl) (by kernel_rfl) (by kernel_rfl) (fun _ _ _ h=>h) (Good.and Good.const (Good.till (by decide) ⟨_,⟨5,.data⟩,rfl,by simp,rfl,rfl⟩)) (Or.inl ⟨by kernel_rfl,?_⟩) hHeld (fun hHeld=> ?_);rotate_left;focus (intro wS hSw;obtain⟨Lx,hLx,hs1,hs2⟩:=hSw;skip;go_simp;first|done|with_reducible rfl)
  try go_simp
  refine aO (i:=4) (v:= ?_) rfl (by kernel_rfl) (by kernel_rfl) (by kernel_rfl) (fun _ _ _ h=>h) (Good.and Good.const (Good.till (by decide) ⟨_,⟨5,.data⟩,rfl,by simp,rfl,rfl⟩)) (Or.inl ⟨by kernel_rfl,?_⟩) hHeld (fun hHeld=> ?_);rotate_left;focus (intro wS hSw;obtain⟨Lx,hLx,hs1,hs2⟩:=hSw;skip;go_simp;first|done|with_reducible rfl)
  try go_simp
  refine aO (i:=5) (v:= ?_) rfl (by kernel_rfl) (by kernel_rfl) (by kernel_rfl) (fun _ _ _ h=>h) (Good.and Good.const (Good.till (by decide) ⟨_,⟨5,.data⟩,rfl,by simp,rfl,rfl⟩)) (Or.inl ⟨by kernel_rfl,?_⟩) hHeld (fun hHeld=> ?_);rotate_left;focus (intro wS hSw;obtain⟨Lx,hLx,hs1,hs2⟩:=hSw;obtain⟨s0,s1,s2⟩:=hs2.still hLx;go_simp;first|done|with_reducible rfl)
  try go_simp
  refine aO (i:=7) (v:= ?_) rfl (by kernel_rfl) (by kernel_rfl) (by kernel_rfl) (fun _ _ _ h=>h) (Good.and Good.const (Good.till (by decide) ⟨_,⟨5,.data⟩,rfl,by simp,rfl,rfl⟩)) (Or.inl ⟨by kernel_rfl,?_⟩) hHeld (fun hHeld=> ?_);rotate_left;focus (intro wS hSw;obtain⟨Lx,hLx,hs1,hs2⟩:=hSw;obtain⟨s0,s1,s2,s3⟩:=hs1;go_simp;first|done|with_reducible rfl)
  try go_simp
  refine aO (i:=8) (v:= ?_) rfl (by kernel_rfl) (by kernel_rfl) (by kernel_rfl) (fun _ _ _ h=>h) (Good.and Good.const (Good.till (by decide) ⟨_,⟨5,.data⟩,rfl,by simp,rfl,rfl⟩)) (Or.inl ⟨by kernel_rfl,?_⟩) hHeld (fun hHeld=> ?_);rotate_left;focus (intro wS hSw;obtain⟨Lx,hLx,hs1,hs2⟩:=hSw;skip;go_simp;first|done|with_reducible rfl)
  try go_simp
  refine aW (rs:=[6]) (by kernel_rfl) (by simp) ?_;refine OneOf.cons rfl (fun K hK=> ?_) OneOf.nil;go_simp;go_wp2_with(refine(HA.out _).mono ?_;rintro e2 w5 ⟨rfl,b5⟩)
  have h5:=h2.drew.below b5;have x5:=x2.drew.below b5;refine hK.out _ _ ⟨HKX.out _ _ h5.right,⟨fun _=>by kernel_rfl,fun h=>aS (by kernel_rfl) h⟩⟩ (fun hHeld=> ?_);clear hK K;refine aW (rs:=[9]) (by kernel_rfl) (by simp) ?_;refine OneOf.cons rfl (fun K hK=> ?_) OneOf.nil;go_simp;go_wp2_with(refine(HM.out _ _ h5).mono ?_;rintro e2 w6 ⟨rfl,b6⟩)
  have h6:=h5.below b6;have x6:=x5.below b6;refine hK.out _ _ ⟨HKX.out _ _ h6.right,⟨fun _=>by kernel_rfl,fun h=>aS (by kernel_rfl) h⟩⟩ (fun hHeld=> ?_);clear hK K;have hfl:=fun X=>qQ mt ml mu md mr mf X;refine aW (rs:=[10]) (by kernel_rfl) (by simp) ?_;refine OneOf.cons rfl (fun K hK=> ?_) OneOf.nil;go_simp;refine hK.out _ _ ⟨HKX.out _ _ h6.right,⟨fun _=>by kernel_rfl,fun h=>aS (by kernel_rfl) h⟩⟩ (fun hHeld=> ?_);clear hK K;have hbl:=fun X=>mw m.page m.size m.frame m.rights md X;refine aW (rs:=[11]) (by kernel_rfl) (by simp) ?_;refine OneOf.cons rfl (fun K hK=> ?_) OneOf.nil;go_simp;refine hK.out _ _ ⟨HKX.out _ _ h6.right,⟨fun _=>by kernel_rfl,fun h=>aS (by kernel_rfl) h⟩⟩ (fun hHeld=> ?_);clear hK K;refine aW (rs:=[12]) (by kernel_rfl) (by simp) ?_;refine OneOf.cons rfl (fun K hK=> ?_) OneOf.nil;go_simp;go_wp2_with(refine(HN.out an ⟨m,md⟩ _ _ h6).mono ?_;rintro e2 w7 ⟨rfl,h7,x7⟩)
  have x8:=x6.trans x7;refine hK.out _ _ ⟨HKX.out _ _ h7.right,⟨fun _=>by kernel_rfl,fun h=>aS (by kernel_rfl) h⟩⟩ (fun hHeld=> ?_);clear hK K;have h8:=h7.right.right;have r0:=h8.free 0;have r1:=h8.free 1;have r2:=h8.free 2;have r3:=h8.free 3;have r4:=h8.free 4;have r5:=h8.free 5;have r6:=h8.free 6;have r7:=h8.free 7;have r8:=h8.free 8;have rl:=h8.lt;obtain⟨s0,s1,s2,s3,s4,s5,s6,s7,s8⟩:=h8.cells9;have h9:ag w7 (aa X1 #[Z g,G I 0,G I 0,G I 0,G I 0,G I 0,G I 0,G I 0,Z g] 181*(aP b root c.idle w e*(aa X #[G I m.page,G I m.size,G I m.frame,G I m.rights] 39*R))):=h7.eq (by ac_rfl);have h9x:ag w7 (aa X1 #[Z g,G I 0,G I 0,G I 0,G I 0,G I 0,G I 0,G I 0,Z g] 181*(aa X #[G I m.page,G I m.size,G I m.frame,G I m.rights] 39*(aP b root c.idle w e*R))):=h7.eq (by ac_rfl);have hfin:=(((((((((h9.set 0 (Z M)).set 1 (G I an.fin)).set 2 (G I an.frame)).set 3 (G I an.rights)).set 4 (G I m.page)).set 5 (G I m.size)).set 6 (G I m.frame)).set 7 (G I m.rights)).set 8 (Z md));have hfinX:ag _ (aa X #[G I m.page,G I m.size,G I m.frame,G I m.rights] 39*_):=(((((((((h9x.set 0 (Z M)).set 1 (G I an.fin)).set 2 (G I an.frame)).set 3 (G I an.rights)).set 4 (G I m.page)).set 5 (G I m.size)).set 6 (G I m.frame)).set 7 (G I m.rights)).set 8 (Z md)).p2;refine aW (rs:=[13]) (by kernel_rfl) (by simp) ?_;refine OneOf.cons rfl (fun K hK=> ?_) OneOf.nil;go_simp;refine hK.out _ _ ⟨HKX.out _ _ hfinX,⟨fun _=>by kernel_rfl,fun h=>aS (by kernel_rfl) h⟩⟩ (fun hHeld=> ?_);clear hK K;refine fD (by kernel_rfl) ?_;clear hHeld hfinX;go_wp2_with fail
  refine am (fun wz=>ag wz (aa X1 #[Z M,G I an.fin,G I an.frame,G I an.rights,G I m.page,G I m.size,G I m.frame,G I m.rights,Z md] 181*(aP b root c.idle w e*(aa X #[G I m.page,G I m.size,G I m.frame,G I m.rights] 39*R)))∧bi W wz) ⟨hfin,ah⟩ ?_;rintro wz ⟨hz,xz⟩;exact ad (aG results167 rfl (cD hz)) rfl ⟨rfl,hz.right.p2.right,xz⟩
theorem xt(b:Nat)(root:Int)(c:Ck)(w:Int)(e:En)(R:ab)(W:Y)(h:ag W (aP b root c w e*R)):
  bb prog 167 #[.pointer (N (U b 0 D))] W (cR (yX ⟨M,bF (aB e c.level c.a.page) c.a,⟨aB e c.level c.a.page,(bY e c.a).dirty⟩⟩) (aP b root c.idle w e*R) W):=
 yi b root c w e _ _ _ (J rfl) (J rfl) (J rfl) R W h
end Go.Proofs.YtmfheghbgihdmaaGreat
