/- More on Insert's words: the tables and places all in all; plain law. -/
import Derived.Test.YtmfheghbgihdmaaGreatEntry5
import Derived.Test.YtmfheghbgihdmaaGreatWkr3
import Derived.Test.YtmfheghbgihdmaaGreatSep
import Derived.Test.YtmfheghbgihdmaaGreatRefPage
import Derived.Deep.RegionHeld3
import Derived.Deep.LoopGhost
import Derived.Deep.DeepCutAuto
import Derived.Deep.CutBlock
import Derived.Test.YtmfheghbgihdmaaGreatFrames3
namespace Go.Proofs.YtmfheghbgihdmaaGreat
open Go.IntKind renaming u64→vU
open Bool renaming false→g,true→G
open Go.Lib renaming hid→D
open Option renaming none→F,some→J
open Go.Value renaming bool→H,int→M
open Go.Addr renaming mk→I
open Go renaming bodyPost_ret→N,World→Y,Value→af,Calls→ag
open Go.Ending renaming returned→P
open Go.IntKind renaming i64→Q,wrap_i64→ad
open List renaming getElem?_eq_some_iff→S,length_append→U
open Go.Proofs.YtmfheghbgihdmaaGreat renaming Has→T,Ext→al,Same→an
open Int renaming eq_ofNat_of_zero_le→Z
open Tryz
open Go.RowKit
theorem qd(s:Ms)(p lw:Int)(sz:Nat)(u:Int):∀l:List Int,(mL s p lw sz l).has u=s.has u
 | []=>rfl
 | [_]=>rfl
 |_::k::ks=>qd s p lw sz u (k::ks)
theorem rX{s:Ms}(hs:s.Ok)(p:Int){lw:Int}(hlw:0≤lw∧lw<18446744073709551616)(sz:Nat):∀l:List Int,(mL s p lw sz l).Ok
 | []=>hs
 | [_]=>hs.setW _ _ hlw
 |_::k::ks=>(rX hs p hlw sz (k::ks)).setW _ _ (by unfold iA;exact gX _ _)
structure InsAt (s:Ms) (r:Int) (x:Mp) (n m sz:Nat):Prop where
 code:(bp s r x.page).code =0
 hp:cP x.page=G
 len:(bp s r x.page).tabs.length =n+1
 lev:(bp s r x.page).lev =3 - (n:Int)
 size:x.size=(sz:Int)
 sum:n+m+sz=3
 fr:m≤s.frees.length
def ic(s:Ms)(r:Int)(x:Mp)(m:Nat):List Int:=(bp s r x.page).tabs ++eI s m
section
variable {s:Ms} {r:Int} {x:Mp} {n m sz:Nat}
theorem InsAt.all_len(h:InsAt s r x n m sz):(ic s r x m).length =n+1+m:=by
 unfold ic;rw[U,h.len,jm]
theorem InsAt.all_has(h:InsAt s r x n m sz)(hs:s.Ok):∀t∈ic s r x m,(a8 s m).has t=G:=fun t ht=>by
 obtain⟨_,n',hn,_,_,hu⟩:=eK h.code;rcases List.mem_append.1 ht with ht|ht
 ·exact mN hs (hu t ht) m h.fr
 ·have hl:0< (bp s r x.page).tabs.length :=by rw[h.len];omega
  have:=hu _ (List.getElem_mem hl);exact(lr hs (Ms.has_iff.1 this).2.2 m h.fr t ht).2
theorem InsAt.store(h:InsAt s r x n m sz)(hs:s.Ok){σ:Ms}(hσ:∀u,σ.has u=(a8 s m).has u){j:Nat}{t:Int}(hj:(ic s r x m)[j]? =J t)(v:Int):
  fg σ t (am x.page (3 - (j:Int))) v=σ.setW t.toNat (am x.page (3 - (j:Int))).toNat v:=by
 obtain⟨hl,e⟩:=S.1 hj;have hlen:=h.all_len;have:=h.sum;unfold fg;rw[if_pos (by rw[ed h.hp (by omega) (by omega),hσ];exact h.all_has hs t (e▸List.getElem_mem hl))]
theorem InsAt.last(h:InsAt s r x n m sz){t:Int}(ht:(ic s r x m)[n+m]? =J t)(σ:Ms)(lw:Int):mL σ x.page lw sz ((ic s r x m).drop (n+m))=σ.setW t.toNat (am x.page (3 - ((n+m:Nat):Int))).toNat lw:=by
 obtain⟨hl,e⟩:=S.1 ht;rw[List.drop_eq_getElem_cons hl,e,List.drop_eq_nil_of_le (by rw[h.all_len];omega)];show σ.setW t.toNat (am x.page sz).toNat lw=_;have:=h.sum;rw[show(3:Int) - ((n+m:Nat):Int)=(sz:Int) by omega]
theorem InsAt.step(h:InsAt s r x n m sz){j:Nat}{t k:Int}(ht:(ic s r x m)[j]? =J t)(hk:(ic s r x m)[j+1]? =J k)(σ:Ms)(lw:Int):
  mL σ x.page lw sz ((ic s r x m).drop j)=(mL σ x.page lw sz ((ic s r x m).drop (j+1))).setW t.toNat (am x.page (3 - (j:Int))).toNat (bt ⟨G,g,7,g,g,k⟩ (3 - (j:Int))):=by
 obtain⟨hl,e⟩:=S.1 ht;obtain⟨hl2,e2⟩:=S.1 hk;have hlen:=h.all_len;have:=h.sum;have hd:(ic s r x m).drop j=t::(ic s r x m).drop (j+1):=by rw[List.drop_eq_getElem_cons hl,e]
 have hd2:(ic s r x m).drop (j+1)=k::(ic s r x m).drop (j+2):=by rw[List.drop_eq_getElem_cons hl2,e2]
 rw[hd,hd2];show(mL σ x.page lw sz (k::(ic s r x m).drop (j+2))).setW t.toNat (am x.page (sz+((ic s r x m).drop (j+2)).length +1:Nat)).toNat (iA k (sz+((ic s r x m).drop (j+2)).length +1))=_;have hz:sz+((ic s r x m).drop (j+2)).length +1=3 - j:=by rw[List.length_drop];omega
 rw[hz];unfold iA rA;rw[show((3 - j:Nat):Int)=3 - (j:Int) by omega]
theorem InsAt.fin(h:InsAt s r x n m sz)(hs:s.Ok)(hc:cT s r x=0):mL (a8 s m) x.page (bt (dj x) x.size) sz ((ic s r x m).drop n)=dJ s r x:=by
 have:=h.sum;obtain⟨_,n',hn',_,_,hu⟩:=eK h.code;obtain⟨t,ht⟩:∃t,(bp s r x.page).tabs[n]? =J t:=⟨_,List.getElem?_eq_getElem (by rw[h.len];omega)⟩;have hlast:=jE h.len ht;obtain⟨hl,e⟩:=S.1 ht;unfold dJ;rw[if_pos hc,hlast,h.size,h.lev];have e1:((3:Int) - (n:Int) - (sz:Int)).toNat =m:=by omega
 have e2:((sz:Nat):Int).toNat =sz:=by omega
 rw[e1,e2,n9 h.hp (by omega) m s t hs h.fr (hu t (e▸List.getElem_mem hl)) (by omega)];congr 1
 unfold ic;rw[List.drop_append_of_le_length (by rw[h.len];omega),List.drop_eq_getElem_cons (by rw[h.len];omega),e,List.drop_eq_nil_of_le (by rw[h.len];omega)];rfl
end
theorem lE{x:Mp}(h:ba x=0):cP x.page=G∧∃z:Nat,x.size=z∧z≤2:=by
 have hx:=ep h;have h0:=hx.p0;have h1:=hx.p1;have h2:=hx.sp;refine⟨by unfold cP;simp;omega,?_⟩;rcases hx.size with ⟨e,_⟩|⟨e,_⟩|⟨e,_⟩
 ·exact⟨0,e,by omega⟩
 ·exact⟨1,e,by omega⟩
 ·exact⟨2,e,by omega⟩
set_option maxRecDepth 100000
set_option maxHeartbeats 4000000 in
theorem fB(e:En)(l:Int)(w:Y):ag prog 136 #[.agg #[H e.there,H e.leaf,M Q e.rights,H e.used,H e.dirty,M Q e.frame],.int .i64 l] w (Pure (M Q (aj e l)) w):=by
 obtain⟨th,leaf,r,u,d,f⟩:=e;have h1:=Has.new (aT w) #[H th,H leaf,M Q r,H u,H d,M Q f] 70;have bl:=aq h1.right ((Ext.refl w).alloc (.cells #[H th,H leaf,M Q r,H u,H d,M Q f] 70));have hcell:=h1.cells6.2.2.2.2.2;clear h1;by_cases l0:l<0
 ·have hy:=D (show aj ⟨th,leaf,r,u,d,f⟩ l=1 by unfold aj;rw[if_pos (.inl l0)])
  generalize aj ⟨th,leaf,r,u,d,f⟩ l=c at hy⊢;clear hcell;go_enter func136,ntmps136;go_wp2_with fail
  go_ret;exact⟨by rw[hy.out];rfl,bl⟩
 by_cases l4:4≤l
 ·have hy:=D (show aj ⟨th,leaf,r,u,d,f⟩ l=1 by unfold aj;rw[if_pos (.inr l4)])
  generalize aj ⟨th,leaf,r,u,d,f⟩ l=c at hy⊢;clear hcell;go_enter func136,ntmps136;go_wp2_with fail
  go_ret;exact⟨by rw[hy.out];rfl,bl⟩
 have hl:¬(l<0∨4≤l):=by omega
 cases th with
 |false=>
  by_cases hz:leaf=g∧r=0∧u=g∧d=g∧f=0
  ·obtain⟨rfl,rfl,rfl,rfl,rfl⟩:=hz
   have hy:=D (show aj ⟨g,g,0,g,g,0⟩ l=0 by unfold aj;rw[if_neg hl];rfl);clear hl hcell;go_enter func136,ntmps136;go_wp2_with fail
   go_ret;exact⟨by rw[hy.out];rfl,bl⟩
  ·have hy:=D (show aj ⟨g,leaf,r,u,d,f⟩ l=7 by
    unfold aj;rw[if_neg hl,if_pos rfl,if_neg (fun e=>hz (by unfold En.zero at e;injection e with _ a b c d e;exact⟨a,b,c,d,e⟩))])
   clear hl hcell;generalize aj ⟨g,leaf,r,u,d,f⟩ l=c at hy⊢;cases leaf with
   |true=>((clear hz);go_enter func136,ntmps136;(go_wp2_with fail);go_ret;exact⟨by rw[hy.out];rfl,bl⟩)
   |false=>
    by_cases r0:r=0
    ·subst r0
     cases u with
     |true=>((clear hz);go_enter func136,ntmps136;(go_wp2_with fail);go_ret;exact⟨by rw[hy.out];rfl,bl⟩)
     |false=>
      cases d with
      |true=>((clear hz);go_enter func136,ntmps136;(go_wp2_with fail);go_ret;exact⟨by rw[hy.out];rfl,bl⟩)
      |false=>
       have f0:(f !=0)=G:=by
        rw[bne_iff_ne];intro h;exact hz ⟨rfl,rfl,rfl,rfl,h⟩
       ((clear hz);go_enter func136,ntmps136;(go_wp2_with fail);go_ret;exact⟨by rw[hy.out];rfl,bl⟩)
    ·have r0':(r !=0)=G:=by simpa using r0
     clear r0
     ((clear hz);go_enter func136,ntmps136;(go_wp2_with fail);go_ret;exact⟨by rw[hy.out];rfl,bl⟩)
 |true=>
  have ht:¬((⟨G,leaf,r,u,d,f⟩:En).there =g):=by simp
  by_cases hb:r<0
  ·have hy:=D (show aj ⟨G,leaf,r,u,d,f⟩ l=1 by unfold aj;rw[if_neg hl,if_neg ht,if_pos (.inl hb)])
   generalize aj ⟨G,leaf,r,u,d,f⟩ l=c at hy⊢;clear hl ht;go_enter func136,ntmps136;go_wp2_with fail
   go_ret;exact⟨by rw[hy.out];rfl,bl⟩
  by_cases hb:7<r
  ·have hy:=D (show aj ⟨G,leaf,r,u,d,f⟩ l=1 by unfold aj;rw[if_neg hl,if_neg ht,if_pos (.inr (.inl hb))])
   generalize aj ⟨G,leaf,r,u,d,f⟩ l=c at hy⊢;clear hl ht;go_enter func136,ntmps136;go_wp2_with fail
   go_ret;exact⟨by rw[hy.out];rfl,bl⟩
  by_cases hb:f<0
  ·have hy:=D (show aj ⟨G,leaf,r,u,d,f⟩ l=1 by unfold aj;rw[if_neg hl,if_neg ht,if_pos (.inr (.inr (.inl hb)))])
   generalize aj ⟨G,leaf,r,u,d,f⟩ l=c at hy⊢;clear hl ht;go_enter func136,ntmps136;go_wp2_with fail
   go_ret;exact⟨by rw[hy.out];rfl,bl⟩
  by_cases hb:1048576≤f
  ·have hy:=D (show aj ⟨G,leaf,r,u,d,f⟩ l=1 by unfold aj;rw[if_neg hl,if_neg ht,if_pos (.inr (.inr (.inr hb)))])
   generalize aj ⟨G,leaf,r,u,d,f⟩ l=c at hy⊢;clear hl ht;go_enter func136,ntmps136;go_wp2_with fail
   go_ret;exact⟨by rw[hy.out];rfl,bl⟩
  have hr:¬(r<0∨7<r∨f<0∨1048576≤f):=by omega
  have d1:decide (r<0)=g:=by simp;omega
  have d2:decide (7<r)=g:=by simp;omega
  have d3:decide (f<0)=g:=by simp;omega
  have d4:decide (1048576≤f)=g:=by simp;omega
  cases leaf with
  |false=>
   by_cases lz:l=0
   ·subst lz
    have hy:=D (show aj ⟨G,g,r,u,d,f⟩ 0=2 by
     unfold aj;rw[if_neg hl,if_neg ht,if_neg hr,if_pos (.inr ⟨rfl,rfl⟩)])
    generalize aj ⟨G,g,r,u,d,f⟩ 0=c at hy⊢;clear hl ht hr hcell;go_enter func136,ntmps136;go_wp2_with fail
    go_ret;exact⟨by rw[hy.out];rfl,bl⟩
   have hk:¬((g=G∧l=3)∨(g=g∧l=0)):=by simp[lz]
   have lz':(l==0)=g:=by simpa using lz
   by_cases hx:r≠7∨u=G∨d=G
   ·have hy:=D (show aj ⟨G,g,r,u,d,f⟩ l=7 by
     unfold aj;rw[if_neg hl,if_neg ht,if_neg hr,if_neg hk,if_pos rfl,if_pos hx])
    clear hl ht hr hk hcell;generalize aj ⟨G,g,r,u,d,f⟩ l=c at hy⊢;by_cases r7:r=7
    ·cases u with
     |true=>
      subst r7;clear hx;go_enter func136,ntmps136;go_wp2_with fail
      go_ret;exact⟨by rw[hy.out];rfl,bl⟩
     |false=>
      obtain rfl:d=G:=by rcases hx with hx|hx|hx;exact absurd r7 hx;cases hx;exact hx
      subst r7;clear hx;go_enter func136,ntmps136;go_wp2_with fail
      go_ret;exact⟨by rw[hy.out];rfl,bl⟩
    ·have r7':(r !=7)=G:=by simpa using r7
     clear hx r7;go_enter func136,ntmps136;go_wp2_with fail
     go_ret;exact⟨by rw[hy.out];rfl,bl⟩
   ·obtain⟨rfl,rfl,rfl⟩:r=7∧u=g∧d=g:=by
     refine⟨?_,?_,?_⟩
     ·exact Decidable.of_not_not fun h=>hx (.inl h)
     ·cases u with
      |false=>rfl
      |true=>exact absurd (.inr (.inl rfl)) hx
     ·cases d with
      |false=>rfl
      |true=>exact absurd (.inr (.inr rfl)) hx
    have hy:=D (show aj ⟨G,g,7,g,g,f⟩ l=0 by
     unfold aj;rw[if_neg hl,if_neg ht,if_neg hr,if_neg hk,if_pos rfl,if_neg hx])
    generalize aj ⟨G,g,7,g,g,f⟩ l=c at hy⊢;clear hl ht hr hk hx lz hcell;go_enter func136,ntmps136;go_wp2_with fail
    go_ret;exact⟨by rw[hy.out];rfl,bl⟩
  |true=>
   by_cases l3:l=3
   ·subst l3
    have hy:=D (show aj ⟨G,G,r,u,d,f⟩ 3=2 by
     unfold aj;rw[if_neg hl,if_neg ht,if_neg hr,if_pos (.inl ⟨rfl,rfl⟩)])
    generalize aj ⟨G,G,r,u,d,f⟩ 3=c at hy⊢;clear hl ht hr hcell;go_enter func136,ntmps136;go_wp2_with fail
    go_ret;exact⟨by rw[hy.out];rfl,bl⟩
   have hk:¬((G=G∧l=3)∨(G=g∧l=0)):=by simp[l3]
   have hsp:aj ⟨G,G,r,u,d,f⟩ l=if f % bn l≠0 then 3 else 0:=by
    unfold aj;rw[if_neg hl,if_neg ht,if_neg hr,if_neg hk,if_neg (by simp)]
   have hl3:l=0∨l=1∨l=2:=by omega
   clear hk l3;rcases hl3 with rfl|rfl|rfl
   ·skip
    have hs:bn 0=1:=rfl;have HS:=D (fun W=>bM 0 W);rw[hs] at HS hsp;have c5:=hcell;have v5:=ae c5;by_cases hm:f % 1=0
    ·have hy:=D (show aj ⟨G,G,r,u,d,f⟩ 0=0 by rw[hsp,if_neg (fun h=>h hm)])
     have hm':(f.tmod 1 !=0)=g:=by rw[Int.tmod_eq_emod_of_nonneg (by omega)];rw[bne_eq_false_iff_eq];exact hm
     have hm2:(f % 1 !=0)=g:=by rw[bne_eq_false_iff_eq];exact hm
     generalize aj ⟨G,G,r,u,d,f⟩ 0=c at hy⊢;clear hl hsp hm hs ht hr;go_enter func136,ntmps136;go_wp2_with fail
     refine ap (by kernel_rfl) (by kernel_rfl) ?_;repeat(first|go_big_quiet_step ((go_at_call 137;exact Same.via (HS.out _)))|quiet_step ((go_at_call 137;exact Same.via (HS.out _))))
     refine wpQuiet_nil ?_;intro _ hw';obtain⟨uq,hw''⟩:=hw';subst hw'';go_wp2;go_ret;exact⟨by rw[hy.out];rfl,bl.trans ((aB _ _).mono (by simp))⟩
    ·exact absurd (Int.emod_one f) hm
   ·skip
    have hs:bn 1=8:=rfl;have HS:=D (fun W=>bM 1 W);rw[hs] at HS hsp;have c5:=hcell;have v5:=ae c5;by_cases hm:f % 8=0
    ·have hy:=D (show aj ⟨G,G,r,u,d,f⟩ 1=0 by rw[hsp,if_neg (fun h=>h hm)])
     have hm':(f.tmod 8 !=0)=g:=by rw[Int.tmod_eq_emod_of_nonneg (by omega)];rw[bne_eq_false_iff_eq];exact hm
     have hm2:(f % 8 !=0)=g:=by rw[bne_eq_false_iff_eq];exact hm
     generalize aj ⟨G,G,r,u,d,f⟩ 1=c at hy⊢;clear hl hsp hm hs ht hr;go_enter func136,ntmps136;go_wp2_with fail
     refine ap (by kernel_rfl) (by kernel_rfl) ?_;repeat(first|go_big_quiet_step ((go_at_call 137;exact Same.via (HS.out _)))|quiet_step ((go_at_call 137;exact Same.via (HS.out _))))
     refine wpQuiet_nil ?_;intro _ hw';obtain⟨uq,hw''⟩:=hw';subst hw'';go_wp2;go_ret;exact⟨by rw[hy.out];rfl,bl.trans ((aB _ _).mono (by simp))⟩
    ·have hy:=D (show aj ⟨G,G,r,u,d,f⟩ 1=3 by rw[hsp,if_pos hm])
     have hm':(f.tmod 8 !=0)=G:=by rw[Int.tmod_eq_emod_of_nonneg (by omega)];rw[bne_iff_ne];exact hm
     have hm2:(f % 8 !=0)=G:=by rw[bne_iff_ne];exact hm
     generalize aj ⟨G,G,r,u,d,f⟩ 1=c at hy⊢;clear hl hsp hm hs ht hr;go_enter func136,ntmps136;go_wp2_with fail
     refine ap (by kernel_rfl) (by kernel_rfl) ?_;repeat(first|go_big_quiet_step ((go_at_call 137;exact Same.via (HS.out _)))|quiet_step ((go_at_call 137;exact Same.via (HS.out _))))
     refine wpQuiet_nil ?_;intro _ hw';obtain⟨uq,hw''⟩:=hw';subst hw'';go_wp2;go_ret;exact⟨by rw[hy.out];rfl,bl.trans ((aB _ _).mono (by simp))⟩
   ·skip
    have hs:bn 2=64:=rfl;have HS:=D (fun W=>bM 2 W);rw[hs] at HS hsp;have c5:=hcell;have v5:=ae c5;by_cases hm:f % 64=0
    ·have hy:=D (show aj ⟨G,G,r,u,d,f⟩ 2=0 by rw[hsp,if_neg (fun h=>h hm)])
     have hm':(f.tmod 64 !=0)=g:=by rw[Int.tmod_eq_emod_of_nonneg (by omega)];rw[bne_eq_false_iff_eq];exact hm
     have hm2:(f % 64 !=0)=g:=by rw[bne_eq_false_iff_eq];exact hm
     generalize aj ⟨G,G,r,u,d,f⟩ 2=c at hy⊢;clear hl hsp hm hs ht hr;go_enter func136,ntmps136;go_wp2_with fail
     refine ap (by kernel_rfl) (by kernel_rfl) ?_;repeat(first|go_big_quiet_step ((go_at_call 137;exact Same.via (HS.out _)))|quiet_step ((go_at_call 137;exact Same.via (HS.out _))))
     refine wpQuiet_nil ?_;intro _ hw';obtain⟨uq,hw''⟩:=hw';subst hw'';go_wp2;go_ret;exact⟨by rw[hy.out];rfl,bl.trans ((aB _ _).mono (by simp))⟩
    ·have hy:=D (show aj ⟨G,G,r,u,d,f⟩ 2=3 by rw[hsp,if_pos hm])
     have hm':(f.tmod 64 !=0)=G:=by rw[Int.tmod_eq_emod_of_nonneg (by omega)];rw[bne_iff_ne];exact hm
     have hm2:(f % 64 !=0)=G:=by rw[bne_iff_ne];exact hm
     generalize aj ⟨G,G,r,u,d,f⟩ 2=c at hy⊢;clear hl hsp hm hs ht hr;go_enter func136,ntmps136;go_wp2_with fail
     refine ap (by kernel_rfl) (by kernel_rfl) ?_;repeat(first|go_big_quiet_step ((go_at_call 137;exact Same.via (HS.out _)))|quiet_step ((go_at_call 137;exact Same.via (HS.out _))))
     refine wpQuiet_nil ?_;intro _ hw';obtain⟨uq,hw''⟩:=hw';subst hw'';go_wp2;go_ret;exact⟨by rw[hy.out];rfl,bl.trans ((aB _ _).mono (by simp))⟩
def eX(k:Nat):Bool:=decide (k≤3)||(decide (5≤k)&&decide (k≤7))||(decide (12≤k)&&decide (k≤31))
def jQ(w l:Int)(k:Nat):Bool:=aK w ((2 ^ k:Nat):Int)&&(!eX k|| !aK w 1||(decide (k=7)&&decide (l=0)))
theorem mU(n k:Nat):aK (n:Int) ((2 ^ k:Nat):Int)=n.testBit k:=by
 unfold aK;rw[Nat.testBit_eq_decide_div_mod_eq,←Int.natCast_ediv];by_cases h:n / 2 ^ k % 2=1
 ·have:((n / 2 ^ k:Nat):Int) % 2=1:=by omega
  rw[decide_eq_true h,decide_eq_true this]
 ·have:¬((n / 2 ^ k:Nat):Int) % 2=1:=by omega
  rw[decide_eq_false h,decide_eq_false this]
theorem tQ{w l:Int}(h0:0≤w)(h1:w<18446744073709551616)(h:∀k,k<64→jQ w l k=g):iw w l:=by
 obtain⟨n,rfl⟩:=Z h0;have hb:∀k,k<64→n.testBit k=G→eX k=G∧aK (n:Int) 1=G∧¬(k=7∧l=0):=fun k hk ht=>by
  have:=h k hk;unfold jQ at this;rw[mU,ht] at this;cases hkn:eX k<;>cases hb1:aK (n:Int) 1<;>rw[hkn,hb1] at this<;>simp at this⊢
  exact this
 have hz:∀k,k<64→eX k=g→n / 2 ^ k % 2=0:=fun k hk hkn=>by
  cases ht:n.testBit k with
  |true=>have:=(hb k hk ht).1;rw[hkn] at this;cases this
  |false=>
   rw[Nat.testBit_eq_decide_div_mod_eq] at ht;simp at ht;omega
 have z4:=hz 4 (by omega) rfl;have z8:=hz 8 (by omega) rfl;have z9:=hz 9 (by omega) rfl;have z10:=hz 10 (by omega) rfl;have z11:=hz 11 (by omega) rfl;simp only[Nat.reducePow] at z4 z8 z9 z10 z11;have h1':n<2 ^ 64:=by
  have:(2 ^ 64:Nat)=18446744073709551616:=by decide
  omega
 have hlt:∀k,n.testBit k=G→k<64:=fun k ht=>by
  refine Decidable.byContradiction fun hk=> ?_;rw[Nat.testBit_lt_two_pow (Nat.lt_of_lt_of_le h1' (Nat.pow_le_pow_right (by omega) (by omega)))] at ht;cases ht
 refine⟨by omega,by omega,?_,?_,fun e=> ?_⟩
 ·refine Decidable.byContradiction fun hc=> ?_
  have hge:n≥2 ^ 32:=by
   have:(2 ^ 32:Nat)=4294967296:=by decide
   omega
  obtain⟨i,hi,ht⟩:=Nat.exists_ge_and_testBit_of_ge_two_pow hge;have hi64:=hlt i ht;have:=(hb i hi64 ht).1;unfold eX at this;simp at this;omega
 ·by_cases hn:n=0
  ·left;omega
  ·right
   obtain⟨i,ht⟩:=Nat.exists_testBit_of_ne_zero hn;have:=(hb i (hlt i ht) ht).2.1;unfold aK at this;simp at this;omega
 ·cases ht:n.testBit 7 with
  |true=>exact absurd ⟨rfl,e⟩ (hb 7 (by omega) ht).2.2
  |false=>
   rw[Nat.testBit_eq_decide_div_mod_eq] at ht;simp at ht;omega
theorem rY{w l:Int}{k:Nat}(h0:0≤w)(hk:k<64)(h:jQ w l k=G):¬iw w l:=by
 rintro⟨a,b,c,d,e⟩;obtain⟨n,rfl⟩:=Z h0;unfold jQ at h;rw[mU] at h;simp only[Bool.and_eq_true] at h;obtain⟨ht,h⟩:=h;have ht':=ht;rw[Nat.testBit_eq_decide_div_mod_eq,decide_eq_true_eq] at ht';have hn:n≠0:=by rintro rfl;simp at ht
 have b1:aK (n:Int) 1=G:=by unfold aK;simp;omega
 rw[b1] at h;have hlt:k<32:=by
  refine Decidable.byContradiction fun hc=> ?_;have h32:n<2 ^ 32:=by
   have:(2 ^ 32:Nat)=4294967296:=by decide
   omega
  rw[Nat.testBit_lt_two_pow (Nat.lt_of_lt_of_le h32 (Nat.pow_le_pow_right (by omega) (by omega)))] at ht;cases ht
 by_cases k7:k=7∧l=0
 ·obtain⟨rfl,rfl⟩:=k7
  have:=e rfl;simp only[Nat.reducePow] at ht';omega
 ·have:eX k=g:=by
   cases hkn:eX k with
   |false=>rfl
   |true=>
    rw[hkn] at h;simp at h;exact absurd h k7
  unfold eX at this;simp at this;have hk':k=4∨k=8∨k=9∨k=10∨k=11:=by omega
  rcases hk' with rfl|rfl|rfl|rfl|rfl<;>simp only[Nat.reducePow] at ht'<;>omega
theorem j3(b:Nat)(w:Int)(k:Nat)(W:Y)(c0:W.cell? (I b 0 F)=J (M vU w))(h0:0≤w)(_:w<18446744073709551616)(hk:k<64):
  ag prog 169 #[M vU k,.pointer (J (I b 0 F))] W (an (H (aK w ((2 ^ k:Nat):Int))) W):=by
 have hy:=D (show aK w ((2 ^ k:Nat):Int)=((w / 2 ^ k).tmod 2==1) by
  unfold aK;rw[show((2 ^ k:Nat):Int)=2 ^ k by simp,Int.tmod_eq_emod_of_nonneg (Int.ediv_nonneg h0 (Int.le_of_lt (Int.pow_pos (by decide))))];rfl)
 generalize aK w ((2 ^ k:Nat):Int)=B at*
 go_enter func169,ntmps169;go_wp2;go_ret;exact⟨by rw[hy.out];rfl,rfl⟩
theorem jS(b:Nat)(w:Int)(k:Nat)(B:Bool)(h:aK w ((2 ^ k:Nat):Int)=B)(W:Y)(c0:W.cell? (I b 0 F)=J (M vU w))(h0:0≤w)(h1:w<18446744073709551616)(hk:k<64):
  ag prog 169 #[M vU k,.pointer (J (I b 0 F))] W (an (H B) W):=h▸j3 b w k W c0 h0 h1 hk
theorem lF{w l:Int}{k:Nat}(hl:0≤l∧l<4)(h0:0≤w)(hk:k<64)(h:jQ w l k=G):bu w l=7:=by
 unfold bu;rw[if_neg (by omega),if_pos (rY h0 hk h)]
set_option maxHeartbeats 8000000 in
theorem ii(w l:Int)(W:Y)(h0:0≤w)(h1:w<18446744073709551616):ag prog 121 #[.int .u64 w,.int .i64 l] W (Pure (eZ w l) W):=by
 have hmf:∀(fn:Fn) (first cap:Array af) (w:Y),(Instr.makeFunc fn first cap).run prog w= .ok (.func fn first cap) w:=fun _ _ _ _=>rfl;have hw:=(Has.new (aT W) #[M vU w] 64).new #[H g,H g,M Q 0,H g,H g,M Q 0] 70;have xw:=((Ext.refl W).alloc (.cells #[M vU w] 64)).alloc (.cells #[H g,H g,M Q 0,H g,H g,M Q 0] 70);simp only[World.size_alloc] at hw;by_cases l0:l<0
 ·have hy:=D (dd (w:=w) (l:=l) (c:=1) (by unfold bu;rw[if_pos (.inl l0)]) (.inl (by decide)))
  generalize eZ w l=V at hy⊢;go_enter func121,ntmps121;go_wp2;exact N (av results121 rfl rfl (bC hw)) rfl ⟨congrArg P hy.out.symm,aq hw.right.right xw⟩
 by_cases l4:4≤l
 ·have hy:=D (dd (w:=w) (l:=l) (c:=1) (by unfold bu;rw[if_pos (.inr l4)]) (.inl (by decide)))
  generalize eZ w l=V at hy⊢;go_enter func121,ntmps121;go_wp2;exact N (av results121 rfl rfl (bC hw)) rfl ⟨congrArg P hy.out.symm,aq hw.right.right xw⟩
 have hl:0≤l∧l<4:=by omega
 go_enter func121,ntmps121;go_wp2_with fail
 generalize (W.alloc (.cells #[M vU w] 64)).alloc (.cells #[H g,H g,M Q 0,H g,H g,M Q 0] 70)=W2 at*
 obtain⟨d0,d1,d2,d3,d4,d5⟩:=hw.cells6;have wc:W2.cell? (I W.heap.size 0 F)=J (M vU w):=hw.right.cell 0;have f0:=hw.free 0;have f1:=hw.free 1;have f2:=hw.free 2;have f3:=hw.free 3;have f4:=hw.free 4;have f5:=hw.free 5;have zl:=hw.lt;have zl2:=hw.right.lt;go_loopw [7] (fun t wz=>∃k:Nat,k≤64∧t=M vU k∧(∀i,i<k→jQ w l i=g)∧W2=wz) (fun t _=>64 - (intOf t).toNat)
 case atStart=>exact⟨0,by omega,rfl,fun i hi=>by omega,rfl⟩
 case round=>
  obtain⟨k,hk,rfl,hno,rfl⟩:=hrel;by_cases hk64:k<64
  ·obtain⟨kn,hkn⟩:∃kn,eX k=kn:=⟨_,rfl⟩
   have hkn:=D hkn;have hnx:=D hno;clear hno;go_upto_region 7 with fail;go_cut [8] (fun B wx=>B=H kn∧W2=wx)
   case first=>
    have hr:(0≤k∧k≤3)∨(4≤k∧k≤4)∨(5≤k∧k≤7)∨(8≤k∧k≤11)∨(12≤k∧k≤31)∨(32≤k∧k≤63):=by omega
    rcases hr with ⟨r1,r2⟩|⟨r1,r2⟩|⟨r1,r2⟩|⟨r1,r2⟩|⟨r1,r2⟩|⟨r1,r2⟩
    ·skip
     have hk2:=D (show H G=H kn by rw[←hkn.out];congr 1;unfold eX;symm;simp;omega);clear hkn hnx;go_wp2_with fail
     go_meet
     case rel=>exact⟨by first|(rw[←hk2.out];done)|(rw[←hk2.out];rfl)|(rw[←hk2.out];simp;done)|(rw[←hk2.out];simp;omega),rfl⟩
    ·skip
     have hk2:=D (show H g=H kn by rw[←hkn.out];congr 1;unfold eX;symm;simp;omega);clear hkn hnx;go_wp2_with fail
     go_meet
     case rel=>exact⟨by first|(rw[←hk2.out];done)|(rw[←hk2.out];rfl)|(rw[←hk2.out];simp;done)|(rw[←hk2.out];simp;omega),rfl⟩
    ·skip
     have hk2:=D (show H G=H kn by rw[←hkn.out];congr 1;unfold eX;symm;simp;omega);clear hkn hnx;go_wp2_with fail
     go_meet
     case rel=>exact⟨by first|(rw[←hk2.out];done)|(rw[←hk2.out];rfl)|(rw[←hk2.out];simp;done)|(rw[←hk2.out];simp;omega),rfl⟩
    ·skip
     have hk2:=D (show H g=H kn by rw[←hkn.out];congr 1;unfold eX;symm;simp;omega);clear hkn hnx;go_wp2_with fail
     go_meet
     case rel=>exact⟨by first|(rw[←hk2.out];done)|(rw[←hk2.out];rfl)|(rw[←hk2.out];simp;done)|(rw[←hk2.out];simp;omega),rfl⟩
    ·skip
     have hk2:=D (show H G=H kn by rw[←hkn.out];congr 1;unfold eX;symm;simp;omega);clear hkn hnx;go_wp2_with fail
     go_meet
     case rel=>exact⟨by first|(rw[←hk2.out];done)|(rw[←hk2.out];rfl)|(rw[←hk2.out];simp;done)|(rw[←hk2.out];simp;omega),rfl⟩
    ·skip
     have hk2:=D (show H g=H kn by rw[←hkn.out];congr 1;unfold eX;symm;simp;omega);clear hkn hnx;go_wp2_with fail
     go_meet
     case rel=>exact⟨by first|(rw[←hk2.out];done)|(rw[←hk2.out];rfl)|(rw[←hk2.out];simp;done)|(rw[←hk2.out];simp;omega),rfl⟩
   case rest=>
    obtain⟨rfl,rfl⟩:=hcut;cases hbit:aK w ((2 ^ k:Nat):Int) with
    |false=>
     have hno':=D (fun(i:Nat) (hi:i<k+1)=>show jQ w l i=g by
      by_cases e:i=k
      ·subst e;unfold jQ;rw[hbit];rfl
      ·exact hnx.out i (by omega))
     clear hnx hkn;go_wp2_with fail
     refine(jS _ w k g hbit _ wc h0 h1 hk64).mono ?_;rintro e w' ⟨rfl,rfl⟩;go_wp2_with fail
     go_roundw
     case rel=>exact⟨k+1,by omega,by go_num,hno'.out,trivial⟩
     case measure=>simp[intOf];omega
    |true=>
     cases kn with
     |false=>
      have hy:=D (dd (lF hl h0 hk64 (show jQ w l k=G by unfold jQ;rw[hbit];rw[hkn.out];rfl)) (.inl (by decide)));clear hkn hnx;go_wp2_with fail
      refine(jS _ w k G hbit _ wc h0 h1 hk64).mono ?_;rintro e w' ⟨rfl,rfl⟩;go_wp2_with fail
      refine ak (fun wz=>T wz (aa (W.heap.size+1) #[H g,H g,M Q 0,H g,H g,M Q 0] 70*(aa W.heap.size #[M vU w] 64*bS W W.heap.size))∧al W wz) ⟨hw.set6 _ _ _ _ _ _,ah⟩ ?_;rintro wz ⟨hz,xz⟩;exact N (av results121 rfl rfl (bC hz)) rfl ⟨congrArg P hy.out.symm,aq hz.right.right xz⟩
     |true=>
      cases hb1:aK w 1 with
      |false=>
       have hy:=D (dd (lF hl h0 hk64 (show jQ w l k=G by unfold jQ;rw[hbit];rw[hb1];simp)) (.inl (by decide)));have hb0:aK w ((2 ^ 0:Nat):Int)=g:=hb1;clear hkn hnx;go_wp2_with fail
       refine(jS _ w k G hbit _ wc h0 h1 hk64).mono ?_;rintro e w' ⟨rfl,rfl⟩;go_wp2_with fail
       refine(jS _ w 0 g hb0 _ wc h0 h1 (by omega)).mono ?_;rintro e w' ⟨rfl,rfl⟩;go_wp2_with fail
       refine ak (fun wz=>T wz (aa (W.heap.size+1) #[H g,H g,M Q 0,H g,H g,M Q 0] 70*(aa W.heap.size #[M vU w] 64*bS W W.heap.size))∧al W wz) ⟨hw.set6 _ _ _ _ _ _,ah⟩ ?_;rintro wz ⟨hz,xz⟩;exact N (av results121 rfl rfl (bC hz)) rfl ⟨congrArg P hy.out.symm,aq hz.right.right xz⟩
      |true=>
       have hb0:aK w ((2 ^ 0:Nat):Int)=G:=hb1;have hno':=fun(h7:¬(k=7∧l=0)) (i:Nat) (hi:i<k+1)=>show jQ w l i=g by
        by_cases e:i=k
        ·subst e
         unfold jQ;rw[hkn.out,hb1];cases hd:(decide (i=7)&&decide (l=0)) with
         |false=>simp
         |true=>simp at hd;exact absurd hd h7
        ·exact hnx.out i (by omega)
       by_cases k7:k=7
       ·have k7':((k:Int)==7)=G:=by rw[beq_iff_eq];omega
        by_cases l0':l=0
        ·have hy:=D (dd (lF hl h0 hk64 (show jQ w l k=G by unfold jQ;rw[hbit];rw[hkn.out,hb1];simp[k7,l0'])) (.inl (by decide)))
         have l1:(l==0)=G:=by simpa using l0'
         clear hkn hnx hno' k7 l0' hb1;go_wp2_with fail
         refine(jS _ w k G hbit _ wc h0 h1 hk64).mono ?_;rintro e w' ⟨rfl,rfl⟩;go_wp2_with fail
         refine(jS _ w 0 G hb0 _ wc h0 h1 (by omega)).mono ?_;rintro e w' ⟨rfl,rfl⟩;go_wp2_with fail
         refine ak (fun wz=>T wz (aa (W.heap.size+1) #[H g,H g,M Q 0,H g,H g,M Q 0] 70*(aa W.heap.size #[M vU w] 64*bS W W.heap.size))∧al W wz) ⟨hw.set6 _ _ _ _ _ _,ah⟩ ?_;rintro wz ⟨hz,xz⟩;exact N (av results121 rfl rfl (bC hz)) rfl ⟨congrArg P hy.out.symm,aq hz.right.right xz⟩
        ·have l1:(l==0)=g:=by simpa using l0'
         have hno':=D (hno' (fun h=>l0' h.2));clear hkn hnx k7 l0' hb1;go_wp2_with fail
         refine(jS _ w k G hbit _ wc h0 h1 hk64).mono ?_;rintro e w' ⟨rfl,rfl⟩;go_wp2_with fail
         refine(jS _ w 0 G hb0 _ wc h0 h1 (by omega)).mono ?_;rintro e w' ⟨rfl,rfl⟩;go_wp2_with fail
         go_roundw
         case rel=>exact⟨k+1,by omega,by go_num,hno'.out,trivial⟩
         case measure=>simp[intOf];omega
       ·have k7':((k:Int)==7)=g:=by rw[beq_eq_false_iff_ne];omega
        have hno':=D (hno' (fun h=>k7 h.1));clear hkn hnx k7 hb1;go_wp2_with fail
        refine(jS _ w k G hbit _ wc h0 h1 hk64).mono ?_;rintro e w' ⟨rfl,rfl⟩;go_wp2_with fail
        refine(jS _ w 0 G hb0 _ wc h0 h1 (by omega)).mono ?_;rintro e w' ⟨rfl,rfl⟩;go_wp2_with fail
        go_roundw
        case rel=>exact⟨k+1,by omega,by go_num,hno'.out,trivial⟩
        case measure=>simp[intOf];omega
  ·obtain rfl:k=64:=by omega
   have hok:=tQ h0 h1 hno;clear hno;by_cases wz:w=0
   ·have hy:=D (dd (w:=w) (l:=l) (c:=0) (by unfold bu;rw[if_neg (by omega),if_neg (by simpa using hok),if_pos wz]) (.inr wz))
    have wz':(w==0)=G:=by simpa using wz
    clear wz hok;go_wp2_with fail
    refine ak (fun wz=>T wz (aa (W.heap.size+1) #[H g,H g,M Q 0,H g,H g,M Q 0] 70*(aa W.heap.size #[M vU w] 64*bS W W.heap.size))∧al W wz) ⟨hw.set6 _ _ _ _ _ _,ah⟩ ?_;rintro wz ⟨hz,xz⟩;exact N (av results121 rfl rfl (bC hz)) rfl ⟨congrArg P hy.out.symm,aq hz.right.right xz⟩
   have wz':(w==0)=g:=by simpa using wz
   have hd:bu w l=aj (dv w l) l:=by unfold bu;rw[if_neg (by omega),if_neg (by simpa using hok),if_neg wz]
   have hv0:bu w l=0→eZ w l= .tuple #[.agg #[H G,H (dv w l).leaf,M Q (w / 2 % 8),H (aK w 32),H (aK w 64),M Q (w / 4096)],M Q 0]:=fun hc=>by
    unfold eZ aE;rw[if_pos ⟨hc,wz⟩,hc];rfl
   have hv0:=D hv0;clear wz hok;by_cases l00:l=0
   ·subst l00
    have he:dv w 0=⟨G,G,w / 2 % 8,aK w 32,aK w 64,w / 4096⟩:=rfl;have HC:∀X,ag prog 136 #[.agg #[H G,H (G),M Q (w / 2 % 8),H (aK w 32),H (aK w 64),M Q (w / 4096)],.int .i64 0] X (Pure (M Q (bu w 0)) X):=fun X=>by
     have:=fB (dv w 0) 0 X;rw[←hd,he] at this;exact this
    have HC:=D HC;have HO7:=D (fun X c=>show ag prog 169 #[.int .u64 7,.pointer (J (I W.heap.size 0 F))] X (an (H (aK w 128)) X) from j3 W.heap.size w 7 X c h0 h1 (by omega));have HO5:=D (fun X c=>show ag prog 169 #[.int .u64 5,.pointer (J (I W.heap.size 0 F))] X (an (H (aK w 32)) X) from j3 W.heap.size w 5 X c h0 h1 (by omega));have HO6:=D (fun X c=>show ag prog 169 #[.int .u64 6,.pointer (J (I W.heap.size 0 F))] X (an (H (aK w 64)) X) from j3 W.heap.size w 6 X c h0 h1 (by omega));rw[he] at hv0;have hno:=D (fun hc=>dd (w:=w) (l:=0) (c:=bu w 0) rfl (.inl hc));clear hl hd he;go_upto_region 12 with fail;clear hmf d0 d1 d2 d3 d4 d5 f0 f1 f2 f3 f4 f5 wz' zl;have q1:=D (show IntKind.i64.wrap ((IntKind.u64.wrap (w.tdiv 2)).tmod 8)=w / 2 % 8 by rw[Int.tdiv_eq_ediv_of_nonneg h0,IntKind.wrap_u64,Int.tmod_eq_emod_of_nonneg (by omega),ad];omega);have q2:=D (show IntKind.i64.wrap (IntKind.u64.wrap (w.tdiv 4096))=w / 4096 by rw[Int.tdiv_eq_ediv_of_nonneg h0,IntKind.wrap_u64,ad];omega);go_cut [9] (fun v wx=>v= .pointer (J (I W2.heap.size 0 F))∧(W2.alloc (.cells #[H G,H (G),M Q (w / 2 % 8),H (aK w 32),H (aK w 64),M Q (w / 4096)] 70)).drew =wx)
    case first=>
     first|(go_region_held (fun w'=>w'.cell? (I W.heap.size 0 F)=J (M vU w)) (go_keep) (first|(go_at_call 169;(with_reducible refine(HO7.out _ (by assumption)).mono ?_);rintro e w' ⟨rfl,rfl⟩)|(go_at_call 169;(with_reducible refine(HO5.out _ (by assumption)).mono ?_);rintro e w' ⟨rfl,rfl⟩)|(go_at_call 169;(with_reducible refine(HO6.out _ (by assumption)).mono ?_);rintro e w' ⟨rfl,rfl⟩)))|fail
     all_goals
      go_wp2_with fail
      go_meet;first|exact⟨rfl,by rw[q1.out,q2.out]⟩|(case rel=>exact⟨rfl,by rw[q1.out,q2.out]⟩)
    case rest=>
     obtain⟨rfl,rfl⟩:=hcut;have hx:=(hw.new #[H G,H (G),M Q (w / 2 % 8),H (aK w 32),H (aK w 64),M Q (w / 4096)] 70).drew;have xx:=(xw.alloc (.cells #[H G,H (G),M Q (w / 2 % 8),H (aK w 32),H (aK w 64),M Q (w / 4096)] 70)).drew;clear q1 q2 HO5 HO6 HO7;by_cases hc:bu w 0=0
     ·have hy:=D (hv0.out hc)
      rw[hc] at HC;clear hc hv0 hno;go_wp2_with fail
      refine(HC.out _).mono ?_;rintro e w2 ⟨rfl,bl⟩;have h2:=hx.below bl;have x2:=xx.below bl;obtain⟨c0,c1,c2,c3,c4,c5⟩:=h2.cells6;obtain⟨d0,d1,d2,d3,d4,d5⟩:=h2.right.cells6;obtain⟨f0,f1,f2,f3,f4,f5⟩:=h2.right.frees6;have l2:=h2.right.lt;clear HC bl hx xx hw xw;go_wp2;refine ak (fun wz=>T wz (aa (W.heap.size+1) #[H G,H (G),M Q (w / 2 % 8),H (aK w 32),H (aK w 64),M Q (w / 4096)] 70*(aa W.heap.size #[M vU w] 64*bS W W.heap.size))∧al W wz) ⟨h2.right.set6 _ _ _ _ _ _,ah⟩ ?_;rintro wz ⟨hz,xz⟩;exact N (av results121 rfl rfl (bC hz)) rfl ⟨congrArg P hy.out.symm,aq hz.right.right xz⟩
     ·have hy:=D (hno.out hc)
      have hn:(bu w 0 !=0)=G:=by simpa using hc
      clear hc hv0 hno;generalize bu w 0=c at*
      go_wp2_with fail
      refine(HC.out _).mono ?_;rintro e w2 ⟨rfl,bl⟩;have h2:=hx.below bl;have x2:=xx.below bl;obtain⟨c0,c1,c2,c3,c4,c5⟩:=h2.cells6;obtain⟨d0,d1,d2,d3,d4,d5⟩:=h2.right.cells6;obtain⟨f0,f1,f2,f3,f4,f5⟩:=h2.right.frees6;have l2:=h2.right.lt;clear HC bl hx xx hw xw;go_wp2;refine ak (fun wz=>T wz (aa (W.heap.size+1) #[H g,H g,M Q 0,H g,H g,M Q 0] 70*(aa W.heap.size #[M vU w] 64*bS W W.heap.size))∧al W wz) ⟨h2.right.set6 _ _ _ _ _ _,ah⟩ ?_;rintro wz ⟨hz,xz⟩;exact N (av results121 rfl rfl (bC hz)) rfl ⟨congrArg P hy.out.symm,aq hz.right.right xz⟩
   ·have l00':(l==0)=g:=by simpa using l00
    have he:dv w l=⟨G,aK w 128,w / 2 % 8,aK w 32,aK w 64,w / 4096⟩:=by unfold dv;rw[l00'];rfl
    clear l00;have HC:∀X,ag prog 136 #[.agg #[H G,H (aK w 128),M Q (w / 2 % 8),H (aK w 32),H (aK w 64),M Q (w / 4096)],.int .i64 l] X (Pure (M Q (bu w l)) X):=fun X=>by
     have:=fB (dv w l) l X;rw[←hd,he] at this;exact this
    have HC:=D HC;have HO7:=D (fun X c=>show ag prog 169 #[.int .u64 7,.pointer (J (I W.heap.size 0 F))] X (an (H (aK w 128)) X) from j3 W.heap.size w 7 X c h0 h1 (by omega));have HO5:=D (fun X c=>show ag prog 169 #[.int .u64 5,.pointer (J (I W.heap.size 0 F))] X (an (H (aK w 32)) X) from j3 W.heap.size w 5 X c h0 h1 (by omega));have HO6:=D (fun X c=>show ag prog 169 #[.int .u64 6,.pointer (J (I W.heap.size 0 F))] X (an (H (aK w 64)) X) from j3 W.heap.size w 6 X c h0 h1 (by omega));rw[he] at hv0;have hno:=D (fun hc=>dd (w:=w) (l:=l) (c:=bu w l) rfl (.inl hc));clear hl hd he;go_upto_region 12 with fail;clear hmf d0 d1 d2 d3 d4 d5 f0 f1 f2 f3 f4 f5 wz' zl;have q1:=D (show IntKind.i64.wrap ((IntKind.u64.wrap (w.tdiv 2)).tmod 8)=w / 2 % 8 by rw[Int.tdiv_eq_ediv_of_nonneg h0,IntKind.wrap_u64,Int.tmod_eq_emod_of_nonneg (by omega),ad];omega);have q2:=D (show IntKind.i64.wrap (IntKind.u64.wrap (w.tdiv 4096))=w / 4096 by rw[Int.tdiv_eq_ediv_of_nonneg h0,IntKind.wrap_u64,ad];omega);go_cut [9] (fun v wx=>v= .pointer (J (I W2.heap.size 0 F))∧(W2.alloc (.cells #[H G,H (aK w 128),M Q (w / 2 % 8),H (aK w 32),H (aK w 64),M Q (w / 4096)] 70)).drew =wx)
    case first=>
     first|(go_region_held (fun w'=>w'.cell? (I W.heap.size 0 F)=J (M vU w)) (go_keep) (first|(go_at_call 169;(with_reducible refine(HO7.out _ (by assumption)).mono ?_);rintro e w' ⟨rfl,rfl⟩)|(go_at_call 169;(with_reducible refine(HO5.out _ (by assumption)).mono ?_);rintro e w' ⟨rfl,rfl⟩)|(go_at_call 169;(with_reducible refine(HO6.out _ (by assumption)).mono ?_);rintro e w' ⟨rfl,rfl⟩)))|fail
     all_goals
      go_wp2_with fail
      go_meet;first|exact⟨rfl,by rw[q1.out,q2.out]⟩|(case rel=>exact⟨rfl,by rw[q1.out,q2.out]⟩)
    case rest=>
     obtain⟨rfl,rfl⟩:=hcut;have hx:=(hw.new #[H G,H (aK w 128),M Q (w / 2 % 8),H (aK w 32),H (aK w 64),M Q (w / 4096)] 70).drew;have xx:=(xw.alloc (.cells #[H G,H (aK w 128),M Q (w / 2 % 8),H (aK w 32),H (aK w 64),M Q (w / 4096)] 70)).drew;clear q1 q2 HO5 HO6 HO7;by_cases hc:bu w l=0
     ·have hy:=D (hv0.out hc)
      rw[hc] at HC;clear hc hv0 hno;go_wp2_with fail
      refine(HC.out _).mono ?_;rintro e w2 ⟨rfl,bl⟩;have h2:=hx.below bl;have x2:=xx.below bl;obtain⟨c0,c1,c2,c3,c4,c5⟩:=h2.cells6;obtain⟨d0,d1,d2,d3,d4,d5⟩:=h2.right.cells6;obtain⟨f0,f1,f2,f3,f4,f5⟩:=h2.right.frees6;have l2:=h2.right.lt;clear HC bl hx xx hw xw;go_wp2;refine ak (fun wz=>T wz (aa (W.heap.size+1) #[H G,H (aK w 128),M Q (w / 2 % 8),H (aK w 32),H (aK w 64),M Q (w / 4096)] 70*(aa W.heap.size #[M vU w] 64*bS W W.heap.size))∧al W wz) ⟨h2.right.set6 _ _ _ _ _ _,ah⟩ ?_;rintro wz ⟨hz,xz⟩;exact N (av results121 rfl rfl (bC hz)) rfl ⟨congrArg P hy.out.symm,aq hz.right.right xz⟩
     ·have hy:=D (hno.out hc)
      have hn:(bu w l !=0)=G:=by simpa using hc
      clear hc hv0 hno;generalize bu w l=c at*
      go_wp2_with fail
      refine(HC.out _).mono ?_;rintro e w2 ⟨rfl,bl⟩;have h2:=hx.below bl;have x2:=xx.below bl;obtain⟨c0,c1,c2,c3,c4,c5⟩:=h2.cells6;obtain⟨d0,d1,d2,d3,d4,d5⟩:=h2.right.cells6;obtain⟨f0,f1,f2,f3,f4,f5⟩:=h2.right.frees6;have l2:=h2.right.lt;clear HC bl hx xx hw xw;go_wp2;refine ak (fun wz=>T wz (aa (W.heap.size+1) #[H g,H g,M Q 0,H g,H g,M Q 0] 70*(aa W.heap.size #[M vU w] 64*bS W W.heap.size))∧al W wz) ⟨h2.right.set6 _ _ _ _ _ _,ah⟩ ?_;rintro wz ⟨hz,xz⟩;exact N (av results121 rfl rfl (bC hz)) rfl ⟨congrArg P hy.out.symm,aq hz.right.right xz⟩
theorem Has.set8{w:Y}{R:ab}{b:Nat}{v0 v1 v2 v3 v4 v5 v6 v7:af}{t:TypeId}(h:T w (aa b #[v0,v1,v2,v3,v4,v5,v6,v7] t*R))(u0 u1 u2 u3 u4 u5 u6 u7:af):
  T (((((((((w.setCell (I b 0 F) u0).setCell (I b 1 F) u1).setCell (I b 2 F) u2).setCell (I b 3 F) u3).setCell (I b 4 F) u4).setCell (I b 5 F) u5).setCell (I b 6 F) u6).setCell (I b 7 F) u7)) (aa b #[u0,u1,u2,u3,u4,u5,u6,u7] t*R):=by
 have h0:T _ (aa b #[u0,v1,v2,v3,v4,v5,v6,v7] t*R):=h.set 0 u0;have h1:T _ (aa b #[u0,u1,v2,v3,v4,v5,v6,v7] t*R):=h0.set 1 u1;have h2:T _ (aa b #[u0,u1,u2,v3,v4,v5,v6,v7] t*R):=h1.set 2 u2;have h3:T _ (aa b #[u0,u1,u2,u3,v4,v5,v6,v7] t*R):=h2.set 3 u3;have h4:T _ (aa b #[u0,u1,u2,u3,u4,v5,v6,v7] t*R):=h3.set 4 u4;have h5:T _ (aa b #[u0,u1,u2,u3,u4,u5,v6,v7] t*R):=h4.set 5 u5;have h6:T _ (aa b #[u0,u1,u2,u3,u4,u5,u6,v7] t*R):=h5.set 6 u6;have h7:T _ (aa b #[u0,u1,u2,u3,u4,u5,u6,u7] t*R):=h6.set 7 u7;exact h7
theorem Has.cells8{w:Y}{R:ab}{b:Nat}{v0 v1 v2 v3 v4 v5 v6 v7:af}{t:TypeId}(h:T w (aa b #[v0,v1,v2,v3,v4,v5,v6,v7] t*R)):
  w.cell? (I b 0 F)=J v0∧w.cell? (I b 1 F)=J v1∧w.cell? (I b 2 F)=J v2∧w.cell? (I b 3 F)=J v3∧w.cell? (I b 4 F)=J v4∧w.cell? (I b 5 F)=J v5∧w.cell? (I b 6 F)=J v6∧w.cell? (I b 7 F)=J v7:=
 ⟨h.cell 0,h.cell 1,h.cell 2,h.cell 3,h.cell 4,h.cell 5,h.cell 6,h.cell 7⟩
theorem Has.frees8{w:Y}{R:ab}{b:Nat}{v0 v1 v2 v3 v4 v5 v6 v7:af}{t:TypeId}(h:T w (aa b #[v0,v1,v2,v3,v4,v5,v6,v7] t*R)):
  w.frozen? (I b 0 F)=g∧w.frozen? (I b 1 F)=g∧w.frozen? (I b 2 F)=g∧w.frozen? (I b 3 F)=g∧w.frozen? (I b 4 F)=g∧w.frozen? (I b 5 F)=g∧w.frozen? (I b 6 F)=g∧w.frozen? (I b 7 F)=g:=
 ⟨h.free 0,h.free 1,h.free 2,h.free 3,h.free 4,h.free 5,h.free 6,h.free 7⟩
theorem Ext.set8{w0 w:Y}(h:al w0 w)(b:Nat)(u0 u1 u2 u3 u4 u5 u6 u7:af):al w0 (((((((((w.setCell (I b 0 F) u0).setCell (I b 1 F) u1).setCell (I b 2 F) u2).setCell (I b 3 F) u3).setCell (I b 4 F) u4).setCell (I b 5 F) u5).setCell (I b 6 F) u6).setCell (I b 7 F) u7)):=
 ((((((((h.set _ _).set _ _).set _ _).set _ _).set _ _).set _ _).set _ _).set _ _)
theorem ol{w:Y}{A X O:ab}{b r:Nat}{v0 v1 v2 v3 v4 v5 v6 v7 z0 z1 z2 z3 z4 z5 z6 z7:af}{t:TypeId}(h:T w (A*(aa b #[v0,v1,v2,v3,v4,v5,v6,v7] t*(X*(aa r #[z0,z1,z2,z3,z4,z5,z6,z7] t*O)))))(u1 u2 u3 u4 u5 u6:af):
  T ((((((((((((((w.setCell (I b 1 F) u1).setCell (I b 2 F) u2).setCell (I b 3 F) u3).setCell (I b 4 F) u4).setCell (I b 5 F) u5).setCell (I b 6 F) u6).setCell (I r 0 F) v0).setCell (I r 1 F) u1).setCell (I r 2 F) u2).setCell (I r 3 F) u3).setCell (I r 4 F) u4).setCell (I r 5 F) u5).setCell (I r 6 F) u6).setCell (I r 7 F) v7) (aa r #[v0,u1,u2,u3,u4,u5,u6,v7] t*(A*O)):=by
 have h1:=h.drop3;rw[ar A] at h1;have s1:T _ (aa b #[v0,u1,v2,v3,v4,v5,v6,v7] t*_):=h1.set 1 u1;have s2:T _ (aa b #[v0,u1,u2,v3,v4,v5,v6,v7] t*_):=s1.set 2 u2;have s3:T _ (aa b #[v0,u1,u2,u3,v4,v5,v6,v7] t*_):=s2.set 3 u3;have s4:T _ (aa b #[v0,u1,u2,u3,u4,v5,v6,v7] t*_):=s3.set 4 u4;have s5:T _ (aa b #[v0,u1,u2,u3,u4,u5,v6,v7] t*_):=s4.set 5 u5;have s6:T _ (aa b #[v0,u1,u2,u3,u4,u5,u6,v7] t*_):=s5.set 6 u6;have h2:=s6.right;rw[ar A] at h2;exact h2.set8 _ _ _ _ _ _ _ _
theorem iF{w:Y}{R:ab}{b:Nat}{v0 v1 v2 v3 v4 v5 v6 v7:af}(h:T w (aa b #[v0,v1,v2,v3,v4,v5,v6,v7] 146*R)):(loadVar 146 (I b 0 F)).run prog w= .ok (.agg #[v0,v1,v2,v3,v4,v5,v6,v7]) w:=
 run_loadVar_row w b 146 146 _ _ _ h.heap underlying146 rfl (by kernel_rfl)
theorem rZ{w:Y}{A C:ab}{b:Nat}{v0 v1 v2 v3 v4 v5 v6 v7:af}{t:TypeId}(h:T w (A*(aa b #[v0,v1,v2,v3,v4,v5,v6,v7] t*C)))(u:af):
  T (w.setCell (I b 0 F) u) (A*(aa b #[u,v1,v2,v3,v4,v5,v6,v7] t*C)):=by
 rw[ar A] at h;have h1:T _ (aa b #[u,v1,v2,v3,v4,v5,v6,v7] t*_):=h.set 0 u;rw[ar A];exact h1
theorem r9{w:Y}{A C:ab}{b:Nat}{v0 v1 v2 v3 v4 v5 v6 v7:af}{t:TypeId}(h:T w (A*(aa b #[v0,v1,v2,v3,v4,v5,v6,v7] t*C)))(u:af):
  T (w.setCell (I b 7 F) u) (A*(aa b #[v0,v1,v2,v3,v4,v5,v6,u] t*C)):=by
 rw[ar A] at h;have h1:T _ (aa b #[v0,v1,v2,v3,v4,v5,v6,u] t*_):=h.set 7 u;rw[ar A];exact h1
theorem sa{w:Y}{u:af}{l:List Int}{x:Int}{C:ab}(h:T w (bZ 3 1 u (l.length+1) (l.map (M Q)++[M Q x])*C)):T w (ao u (l++[x])*C):=by
 unfold ao;rw[U,List.length_singleton,List.map_append];exact h
theorem qe{w:Y}{A B C:ab}{b:Nat}{z0 z1 z2 z3 z4 z5:af}{t:TypeId}(h:T w (A*(B*(aa b #[z0,z1,z2,z3,z4,z5] t*C))))(u0 u1 u2 u3 u4 u5:af):
  T ((((((w.setCell (I b 0 F) u0).setCell (I b 1 F) u1).setCell (I b 2 F) u2).setCell (I b 3 F) u3).setCell (I b 4 F) u4).setCell (I b 5 F) u5) (A*(B*(aa b #[u0,u1,u2,u3,u4,u5] t*C))):=by
 rw[ar B,ar A] at h;have h1:=h.set6 u0 u1 u2 u3 u4 u5;rw[ar B,ar A];exact h1
def vb(y:Wy)(A:Option Addr)(n c:Nat):af:= .tuple #[.agg #[.slice A n c,H y.e.there,H y.e.leaf,M Q y.e.rights,H y.e.used,H y.e.dirty,M Q y.e.frame,M Q y.lev],M Q y.code]
def sb(y:Wy)(w:Y)(e:Ending)(w':Y):Prop:=
 ∃A c,e= .returned (vb y A y.tabs.length c)∧T w' (ao (.slice A y.tabs.length c) y.tabs*bS w w.heap.size)∧al w w'
def tR(w:Y)(b:Nat):Nat:=match w.cell? (I b 7 F) with|some (.int _ n)=>n.toNat|_=>0
set_option maxHeartbeats 4000000 in
theorem jI(q:Nat)(s:Ms)(root p:Int)(R:ab)(w:Y)(hs:s.Ok)(h:T w (az q s*R)):
  ag prog 79 #[.pointer (J (I q 0 F)),.int .i64 root,.int .i64 p] w (sb (bp s root p) w):=by
 have h1:=(aT w).new #[.slice F 0 0,H g,H g,M Q 0,H g,H g,M Q 0,M Q 0] 146;have x1:=(Ext.refl w).alloc (.cells #[.slice F 0 0,H g,H g,M Q 0,H g,H g,M Q 0,M Q 0] 146);cases hp:cP p with
 |false=>
  have hy:=D (show bp s root p= .err 1 by unfold bp;rw[hp];rfl);by_cases p0:p<0
  ·go_enter func79,ntmps79
   go_wp2_with fail
   refine ak (fun wz=>T wz (aa w.heap.size #[.slice F 0 0,H g,H g,M Q 0,H g,H g,M Q 0,M Q 0] 146*bS w w.heap.size)∧al w wz) ⟨h1,x1⟩ ?_;rintro wz ⟨hz,xz⟩;exact N (av results79 rfl rfl (iF hz)) rfl ⟨F,0,by rw[hy.out];rfl,by rw[hy.out];exact Has.rowNil hz.right,xz⟩
  ·have p4:4096≤p:=by unfold cP at hp;simp at hp;omega
   go_enter func79,ntmps79;go_wp2_with fail
   refine ak (fun wz=>T wz (aa w.heap.size #[.slice F 0 0,H g,H g,M Q 0,H g,H g,M Q 0,M Q 0] 146*bS w w.heap.size)∧al w wz) ⟨h1,x1⟩ ?_;rintro wz ⟨hz,xz⟩;exact N (av results79 rfl rfl (iF hz)) rfl ⟨F,0,by rw[hy.out];rfl,by rw[hy.out];exact Has.rowNil hz.right,xz⟩
 |true=>
  have hp':0≤p∧p<4096:=by unfold cP at hp;simpa using hp
  obtain⟨p0,p4⟩:=hp';have hwy:=D (show bp s root p=cZ s p 3 root [] by unfold bp;rw[if_pos hp]);have h2:=h1.new #[.slice F 0 0,H g,H g,M Q 0,H g,H g,M Q 0,M Q 3] 146;have x2:=x1.alloc (.cells #[.slice F 0 0,H g,H g,M Q 0,H g,H g,M Q 0,M Q 3] 146);simp only[World.size_alloc] at h2;have h3:T ((w.alloc (.cells #[.slice F 0 0,H g,H g,M Q 0,H g,H g,M Q 0,M Q 0] 146)).alloc (.cells #[.slice F 0 0,H g,H g,M Q 0,H g,H g,M Q 0,M Q 3] 146))
    (ao (.slice F 0 0) []*(aa (w.heap.size+1) #[.slice F 0 0,H g,H g,M Q 0,H g,H g,M Q 0,M Q 3] 146*(aa w.heap.size #[.slice F 0 0,H g,H g,M Q 0,H g,H g,M Q 0,M Q 0] 146*bS w w.heap.size))):=Has.rowNil h2
  clear h1 x1 h2;go_enter func79,ntmps79;go_wp2_with fail
  go_loopw [9] (fun s9 wr=>∃(L:Nat) (t:Int) (acc:List Int) (A:Option Addr) (c:Nat),s9=M Q t∧acc.length+L=3∧Hid (cZ s p 3 root []=cZ s p L t acc)∧
    T wr (ao (.slice A acc.length c) acc*(aa (w.heap.size+1) #[.slice A acc.length c,H g,H g,M Q 0,H g,H g,M Q 0,M Q L] 146*(aa w.heap.size #[.slice F 0 0,H g,H g,M Q 0,H g,H g,M Q 0,M Q 0] 146*bS w w.heap.size)))∧al w wr)
   (fun _ wr=>tR wr (w.heap.size+1))
  case atStart=>exact⟨3,root,[],F,0,rfl,rfl,D rfl,h3,x2⟩
  case round=>
   clear h3 x2;obtain⟨L,t,acc,A,c,rfl,hL,HW,hr,hx⟩:=hrel;have hlev:=D (show tR wr (w.heap.size+1)=L by unfold tR;rw[hr.right.cell 7];rfl);have hL3:(L:Int)≤3:=by omega
   have hL0:(0:Int)≤L:=by omega
   have hM:T wr (az q s*R):=(h.onto' (hr.eq (show _=(ao (.slice A acc.length c) acc*(aa (w.heap.size+1) #[.slice A acc.length c,H g,H g,M Q 0,H g,H g,M Q 0,M Q L] 146*aa w.heap.size #[.slice F 0 0,H g,H g,M Q 0,H g,H g,M Q 0,M Q 0] 146))*bS w w.heap.size by simp only[aG]))).right;have hTK:=nv q s t R wr hM;cases ht:s.has t with
   |false=>
    rw[ht] at hTK;have hy:=D (show bp s root p= .err 12 by rw[hwy.out,HW.out];exact gO ht);clear ht;obtain⟨r0,r1,r2,r3,r4,r5,r6,r7⟩:=hr.right.right.cells8;obtain⟨g0,g1,g2,g3,g4,g5,g6,g7⟩:=hr.right.right.frees8;have rl:=hr.right.right.lt;go_wp2_with fail
    refine hTK.mono ?_;rintro e w2 ⟨rfl,rfl⟩;go_wp2_with fail
    refine ak (fun wz=>T wz (aa w.heap.size #[.slice F 0 0,H g,H g,M Q 0,H g,H g,M Q 0,M Q 0] 146*bS w w.heap.size)∧al w wz) ⟨hr.right.right.set8 _ _ _ _ _ _ _ _,hx.set8 _ _ _ _ _ _ _ _ _⟩ ?_;rintro wz ⟨hz,xz⟩;exact N (av results79 rfl rfl (iF hz)) rfl ⟨F,0,by rw[hy.out];rfl,by rw[hy.out];exact Has.rowNil hz.right,xz⟩
   |true=>
    rw[ht] at hTK;obtain⟨i0,i8⟩:=gQ hp hL0 hL3;obtain⟨k0,k1,_⟩:=Ms.has_iff.1 ht;obtain⟨gw,gi,vk,hq⟩:=cm hM;have hb:=hs.inv.wok t.toNat (am p L).toNat;have HD:=D (fun W=>ii (ay s t (am p L)) L W hb.1 hb.2);have HI:=D (dP p L);have hq0:=hq.cell 0;have hword:wr.cell? ⟨gw,t.toNat*8+(am p L).toNat,F⟩=J (M vU (ay s t (am p L))):=bX hq (k:=t.toNat) (i:=(am p L).toNat) (by omega) (by omega);have ql:=hq.lt;have gl:=hq.right.lt;have cl:=hr.right.lt;clear hb hM;have c7:wr.cell? ⟨w.heap.size+1,7,F⟩=J (M Q L):=hr.right.cell 7;have hy:=D (show bp s root p=cZ s p L t acc by rw[hwy.out,HW.out]);have hbad:=D (fun he=>iI (acc:=acc) (L:=L) (p:=p) ht he);have hend:=D (fun hc he=>fF (acc:=acc) (L:=L) (p:=p) ht hc he);have hon:=D (fun hc he=>jP (acc:=acc) (L:=L) (p:=p) ht hc he);have hzero:=D (fun hc=>pQ (w:=ay s t (am p L)) (l:=L) hc);unfold eZ at HD;clear HW ht;generalize bu (ay s t (am p L)) L=code at*
    generalize aE (ay s t (am p L)) L=e at*
    generalize ay s t (am p L)=v at*
    generalize am p L=ix at*
    obtain⟨t,rfl⟩:=Z k0;obtain⟨ix,rfl⟩:=Z i0;simp only[Int.toNat_natCast] at hword;have hSB:∀(w1 w2:Y),Below w1.heap.size w1 w2→(w1.cell? (I q 0 F)=J (.slice (J (I gw 0 F)) s.n s.n)∧w1.cell? ⟨gw,t*8+ix,F⟩=J (M vU v)∧w1.cell? ⟨w.heap.size+1,7,F⟩=J (M Q L))→w2.cell? (I q 0 F)=J (.slice (J (I gw 0 F)) s.n s.n)∧w2.cell? ⟨gw,t*8+ix,F⟩=J (M vU v)∧w2.cell? ⟨w.heap.size+1,7,F⟩=J (M Q L):=fun w1 w2 b h=>
     ⟨(b.cell (World.block_lt_of_cell? _ _ h.1)).trans h.1,(b.cell (World.block_lt_of_cell? _ _ h.2.1)).trans h.2.1,(b.cell (World.block_lt_of_cell? _ _ h.2.2)).trans h.2.2⟩
    have HSB:=D hSB;have hSA:∀(w1:Y) (o:Obj),(w1.cell? (I q 0 F)=J (.slice (J (I gw 0 F)) s.n s.n)∧w1.cell? ⟨gw,t*8+ix,F⟩=J (M vU v)∧w1.cell? ⟨w.heap.size+1,7,F⟩=J (M Q L))→(w1.alloc o).cell? (I q 0 F)=J (.slice (J (I gw 0 F)) s.n s.n)∧(w1.alloc o).cell? ⟨gw,t*8+ix,F⟩=J (M vU v)∧(w1.alloc o).cell? ⟨w.heap.size+1,7,F⟩=J (M Q L):=fun w1 o h=>
     hSB w1 (w1.alloc o) ((Below.refl _ _).alloc (Nat.le_refl _) _) h
    have HSA:=D hSA;have hS6:∀(w1:Y) (E:Nat) (u0 u1 u2 u3 u4 u5:af),E≠q→E≠gw→E≠w.heap.size+1→(w1.cell? (I q 0 F)=J (.slice (J (I gw 0 F)) s.n s.n)∧w1.cell? ⟨gw,t*8+ix,F⟩=J (M vU v)∧w1.cell? ⟨w.heap.size+1,7,F⟩=J (M Q L))→((((((w1.setCell (I E 0 F) u0).setCell (I E 1 F) u1).setCell (I E 2 F) u2).setCell (I E 3 F) u3).setCell (I E 4 F) u4).setCell (I E 5 F) u5).cell? (I q 0 F)=J (.slice (J (I gw 0 F)) s.n s.n)∧((((((w1.setCell (I E 0 F) u0).setCell (I E 1 F) u1).setCell (I E 2 F) u2).setCell (I E 3 F) u3).setCell (I E 4 F) u4).setCell (I E 5 F) u5).cell? ⟨gw,t*8+ix,F⟩=J (M vU v)∧((((((w1.setCell (I E 0 F) u0).setCell (I E 1 F) u1).setCell (I E 2 F) u2).setCell (I E 3 F) u3).setCell (I E 4 F) u4).setCell (I E 5 F) u5).cell? ⟨w.heap.size+1,7,F⟩=J (M Q L):=fun w1 E u0 u1 u2 u3 u4 u5 e1 e2 e3 h=>by
     refine⟨?_,?_,?_⟩
     ·iterate 6 rw[World.cell?_setCell_far _ _ _ _ e1]
      exact h.1
     ·iterate 6 rw[World.cell?_setCell_far _ _ _ _ e2]
      exact h.2.1
     ·iterate 6 rw[World.cell?_setCell_far _ _ _ _ e3]
      exact h.2.2
    have HS6:=D hS6;clear hSB hSA hS6;go_wp2_with fail
    refine hTK.mono ?_;rintro e2 w2 ⟨rfl,rfl⟩;go_upto_region 7 with fail;go_cut [10,11] (fun s10 s11 wx=>∃E:Nat,s10= .pointer (J (I E 0 F))∧s11=M Q code∧T wx (ao (.slice A acc.length c) acc*(aa (w.heap.size+1) #[.slice A acc.length c,H g,H g,M Q 0,H g,H g,M Q 0,M Q L] 146*(aa E #[H e.there,H e.leaf,M Q e.rights,H e.used,H e.dirty,M Q e.frame] 70*(aa w.heap.size #[.slice F 0 0,H g,H g,M Q 0,H g,H g,M Q 0,M Q 0] 146*bS w w.heap.size))))∧al w wx)
    case first=>
     have n1:=World.new_ne wr _ hq0;have n2:=World.new_ne wr _ hword;have n3:=World.new_ne wr _ c7;go_wp2_with fail
     go_region_held3 (fun w'=>w'.cell? (I q 0 F)=J (.slice (J (I gw 0 F)) s.n s.n)∧w'.cell? ⟨gw,t*8+ix,F⟩=J (M vU v)∧w'.cell? ⟨w.heap.size+1,7,F⟩=J (M Q L)) (first|with_reducible exact⟨hq0,hword,c7⟩|with_reducible exact s6|with_reducible exact s5|(with_reducible exact HSA.out _ _ ⟨hq0,hword,c7⟩)|(with_reducible exact HSA.out _ _ s5)|(with_reducible exact HSA.out _ _ s6)|(with_reducible refine HS6.out _ _ _ _ _ _ _ _ ?_ ?_ ?_ s6;(first|exact n1|exact World.new_ne w5 _ s5.1);(first|exact n2|exact World.new_ne w5 _ s5.2.1);(first|exact n3|exact World.new_ne w5 _ s5.2.2))|exact HSA.out wr (.cells #[H g,H g,M Q 0,H g,H g,M Q 0] 70) ⟨hq0,hword,c7⟩|exact⟨hq0,hword,c7⟩) (first|(go_at_call 120;refine(HI.out _).mono ?_;rintro e2 w5 ⟨rfl,b5⟩;have s5:=HSB.out _ _ b5 (by first|with_reducible exact⟨hq0,hword,c7⟩|exact HSA.out wr (.cells #[H g,H g,M Q 0,H g,H g,M Q 0] 70) ⟨hq0,hword,c7⟩|exact⟨hq0,hword,c7⟩);first|(have z5:=Has.below (Has.drew (Has.new (aT wr) #[H g,H g,M Q 0,H g,H g,M Q 0] 70)) b5)|skip)|(go_at_call 121;refine(HD.out _).mono ?_;rintro e2 w6 ⟨rfl,b6⟩;have s6:=HSB.out _ _ b6 (by first|exact s5|exact HSA.out _ _ s5);first|(have z6:=z5.below b6;obtain⟨q0,q1,q2,q3,q4,q5⟩:=z6.cells6;obtain⟨y0,y1,y2,y3,y4,y5⟩:=z6.frees6;have zl:=z6.lt)|(have z6:=Has.below (Has.new (aT w5) #[H g,H g,M Q 0,H g,H g,M Q 0] 70) b6;obtain⟨q0,q1,q2,q3,q4,q5⟩:=z6.cells6;obtain⟨y0,y1,y2,y3,y4,y5⟩:=z6.frees6;have zl:=z6.lt)|skip))
     all_goals
      go_wp2_with fail
      go_meet
      case rel=>first
       |with_reducible exact⟨w6.heap.size,rfl,rfl,((hr.drew.below b5).below b6).build #[H e.there,H e.leaf,M Q e.rights,H e.used,H e.dirty,M Q e.frame] 70,((hx.drew.below b5).below b6).alloc _⟩
       |with_reducible exact⟨w5.heap.size,rfl,rfl,qe (((hr.drew.below b5).build #[H g,H g,M Q 0,H g,H g,M Q 0] 70).below b6) _ _ _ _ _ _,((((((((hx.drew.below b5).alloc _).below b6).set _ _).set _ _).set _ _).set _ _).set _ _).set _ _⟩
       |with_reducible exact⟨wr.heap.size,rfl,rfl,qe (((hr.build #[H g,H g,M Q 0,H g,H g,M Q 0] 70).drew.below b5).below b6) _ _ _ _ _ _,((((((((hx.alloc _).drew.below b5).below b6).set _ _).set _ _).set _ _).set _ _).set _ _).set _ _⟩
       |trace_state
    case rest=>
     obtain⟨E,rfl,rfl,hr2,hx2⟩:=hcut;clear hr hx hq hq0 hword ql gl cl c7 hTK HI HD HSB HSA HS6;obtain⟨c0,c1,c2,c3,c4,c5,c6,c7⟩:=hr2.right.cells8;obtain⟨f0,f1,f2,f3,f4,f5,f6,f7⟩:=hr2.right.frees8;have cl:=hr2.right.lt;obtain⟨e0,e1,e2,e3,e4,e5⟩:=hr2.right.right.cells6;have el:=hr2.right.right.lt;have hE:=hr2.r3;obtain⟨r0,r1,r2,r3,r4,r5,r6,r7⟩:=hE.cells8;obtain⟨g0,g1,g2,g3,g4,g5,g6,g7⟩:=hE.frees8;have rl:=hE.lt;have hne:w.heap.size+1≠w.heap.size:=by omega
     by_cases hc:code=0
     case neg=>
      have hyy:=D (hy.out.trans (hbad.out hc));clear hy;have hy:=hyy;have hn:(code !=0)=G:=by simpa using hc
      go_wp2_with fail
      refine ak (fun wz=>T wz (aa w.heap.size #[.slice F 0 0,H g,H g,M Q 0,H g,H g,M Q 0,M Q 0] 146*bS w w.heap.size)∧al w wz) ⟨hE.set8 _ _ _ _ _ _ _ _,hx2.set8 _ _ _ _ _ _ _ _ _⟩ ?_;rintro wz ⟨hz,xz⟩;exact N (av results79 rfl rfl (iF hz)) rfl ⟨F,0,by rw[hy.out];rfl,by rw[hy.out];exact Has.rowNil hz.right,xz⟩
     subst hc;have hrow:=hr2.alloc (.cells #[M Q (t:Int)] 3);clear r0 r1 r2 r3 r4 r5 r6 r7 g0 g1 g2 g3 g4 g5 g6 g7;go_upto_region 10 with fail;go_cut [] (fun wx=>∃(A':Option Addr) (c':Nat),T wx (ao (.slice A' (acc.length+1) c') (acc++[(t:Int)])*(aa (w.heap.size+1) #[.slice A' (acc.length+1) c',H g,H g,M Q 0,H g,H g,M Q 0,M Q L] 146*(aa E #[H e.there,H e.leaf,M Q e.rights,H e.used,H e.dirty,M Q e.frame] 70*(aa w.heap.size #[.slice F 0 0,H g,H g,M Q 0,H g,H g,M Q 0,M Q 0] 146*bS w w.heap.size))))∧al w wx)
     case first=>
      go_wp2_with(at_builtin;refine aW rfl _ _ 45 rfl underlying45 gr _ _ _ rfl hrow (I wc.heap.size 0 F) 1 1 [M Q (t:Int)] rfl rfl (eO _ _ _) ?k1 ?k2 ?k3 ?_)
      case k1=>rfl
      case k2=>unfold maxLen;omega
      case k3=>omega
      intro v' w7 h7 x7;obtain⟨A',c',rfl⟩:=h7.rowForm;have y0:=h7.right.cell 0;have y1:=h7.right.free 0;have yl:=h7.right.lt;go_wp2_with fail
      go_meet
      case rel=>exact⟨A',c',sa (rZ h7 _),((hx2.alloc _).trans x7).set _ _⟩
     case rest=>
      obtain⟨A',c',hr,hx⟩:=hcut;clear hr2 hx2 hrow c0 c1 c2 c3 c4 c5 c6 c7 f0 f1 f2 f3 f4 f5 f6 f7 cl e0 e1 e2 e3 e4 e5 el hE rl;obtain⟨c0,c1,c2,c3,c4,c5,c6,c7⟩:=hr.right.cells8;obtain⟨f0,f1,f2,f3,f4,f5,f6,f7⟩:=hr.right.frees8;have cl:=hr.right.lt;obtain⟨e0,e1,e2,e3,e4,e5⟩:=hr.right.right.cells6;have el:=hr.right.right.lt;have hE:=hr.r3;obtain⟨r0,r1,r2,r3,r4,r5,r6,r7⟩:=hE.cells8;obtain⟨g0,g1,g2,g3,g4,g5,g6,g7⟩:=hE.frees8;have rl:=hE.lt;by_cases hend1:e.there=g∨e.leaf=G
      ·have hyy:=D (hy.out.trans (hend.out rfl hend1))
       obtain⟨th,lf,rg,us,di,fr⟩:=e;dsimp only at*
       cases th with
       |false=>
        go_wp2_with fail
        refine ak (fun wz=>T wz (aa w.heap.size #[.slice A' (acc.length+1) c',H g,H lf,M Q rg,H us,H di,M Q fr,M Q L] 146*(ao (.slice A' (acc.length+1) c') (acc++[(t:Int)])*bS w w.heap.size))∧al w wz) ⟨ol hr _ _ _ _ _ _,Ext.set8 ((((((hx.set _ _).set _ _).set _ _).set _ _).set _ _).set _ _) _ _ _ _ _ _ _ _ _⟩ ?_;rintro wz ⟨hz,xz⟩;have hlen:(acc++[(t:Int)]).length =acc.length+1:=by rw[U,List.length_singleton]
        refine N (av results79 rfl rfl (iF hz)) rfl ?_;rw[hyy.out];refine⟨A',c',?_,?_,xz⟩
        ·show _=P (vb _ A' (acc++[(t:Int)]).length c')
         rw[hlen];rfl
        ·show T wz (ao (.slice A' (acc++[(t:Int)]).length c') (acc++[(t:Int)])*bS w w.heap.size)
         rw[hlen];exact hz.right
       |true=>
        cases lf with
        |true=>
         go_wp2_with fail
         refine ak (fun wz=>T wz (aa w.heap.size #[.slice A' (acc.length+1) c',H G,H G,M Q rg,H us,H di,M Q fr,M Q L] 146*(ao (.slice A' (acc.length+1) c') (acc++[(t:Int)])*bS w w.heap.size))∧al w wz) ⟨ol hr _ _ _ _ _ _,Ext.set8 ((((((hx.set _ _).set _ _).set _ _).set _ _).set _ _).set _ _) _ _ _ _ _ _ _ _ _⟩ ?_;rintro wz ⟨hz,xz⟩;have hlen:(acc++[(t:Int)]).length =acc.length+1:=by rw[U,List.length_singleton]
         refine N (av results79 rfl rfl (iF hz)) rfl ?_;rw[hyy.out];refine⟨A',c',?_,?_,xz⟩
         ·show _=P (vb _ A' (acc++[(t:Int)]).length c')
          rw[hlen];rfl
         ·show T wz (ao (.slice A' (acc++[(t:Int)]).length c') (acc++[(t:Int)])*bS w w.heap.size)
          rw[hlen];exact hz.right
        |false=>rcases hend1 with h|h<;>cases h
      ·have h12:e.there=G∧e.leaf=g:=by
        cases h1:e.there<;>cases h2:e.leaf<;>simp_all
       obtain⟨h1,h2⟩:=h12;obtain⟨K,rfl,hK⟩:=hon.out rfl hend1;have hwr:IntKind.i64.wrap (((K+1:Nat):Int) - 1)=(K:Int):=by rw[ad];omega
       go_wp2_with fail
       go_roundw
       case rel=>
        refine⟨K,e.frame,acc++[(t:Int)],A',c',rfl,by rw[U,List.length_singleton];omega,D ?_,?_,hx.set _ _⟩
        ·rw[←hK,←hy.out,←hwy.out]
        ·rw[U,List.length_singleton]
         exact(r9 hr _).drop3
       case measure=>
        rw[hlev.out];unfold tR;rw[World.cell?_setCell_same _ _ _ c7];simp
end Go.Proofs.YtmfheghbgihdmaaGreat
