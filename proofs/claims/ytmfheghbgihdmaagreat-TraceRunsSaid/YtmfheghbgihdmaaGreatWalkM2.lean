/- A list of mappings is all ways: the plain law, with no program in sight. -/
import Derived.Test.YtmfheghbgihdmaaGreatSep
namespace Go.Proofs.YtmfheghbgihdmaaGreat
open Go.Value renaming int→vI
open Go.IntKind renaming i64→vK
open Bool renaming true→o,false→A
open Option renaming some→B,none→F
open Go.Proofs.YtmfheghbgihdmaaGreat renaming Ms→C,Mp→D,over→E,MapOk→G
open Go.RowKit
theorem eC(n:Nat):aE (n+1)=8*aE n:=rfl
theorem fL:∀n:Nat,0<aE n
 |0=>by decide
 |n+1=>by have:=fL n;rw[eC];omega
theorem iv{w l:Int}(hc:bC w l=0)(hl:(aF w l).leaf =o):(aF w l).there =o∧0≤l∧l<3∧br l=aE l.toNat∧ak (aF w l) l=0:=by
 have hf:=(iG hc).1;have ht:(aF w l).there =o:=by
  cases h:(aF w l).there with
  |true=>rfl
  |false=>
   have:=dL hf h;rw[this] at hl;cases hl
 have hk:=dM hf ht;have h3:=(hk.leaf hl).1;have h0:=hk.l0;refine⟨ht,h0,h3,?_,hf⟩;have:l=0∨l=1∨l=2:=by omega
 rcases this with rfl|rfl|rfl<;>rfl
def gI(s:C)(L:Nat)(t a:Int)(i:Nat):List D:=
 let e:=aF (az s t i) L
 if e.leaf=o then [aC e L ((a*8+i)*aE L)] else if e.there=o then bY (gT s L e.frame (a*8+i)).vs else []
def eT(s:C)(L:Nat)(t a:Int)(i:Nat):List Int:=
 let e:=aF (az s t i) L
 if e.there=o∧e.leaf=A then e.frame::cg (gT s L e.frame (a*8+i)).vs else []
theorem lS(v:lC)(l:List lC):bY (v::l)=(if v.e.leaf=o then [aC v.e v.lev (v.at_*aE v.lev.toNat)] else [])++bY l:=by
 unfold bY;rw[List.filterMap_cons];split<;>rename_i h<;>(split at h<;>simp_all)
theorem iO(a b:List lC):bY (a++b)=bY a++bY b:=List.filterMap_append
theorem lT(v:lC)(l:List lC):cg (v::l)=(if v.e.there=o∧v.e.leaf=A then [v.e.frame] else [])++cg l:=by
 unfold cg;rw[List.filterMap_cons];split<;>rename_i h<;>(split at h<;>simp_all)
theorem iP(a b:List lC):cg (a++b)=cg a++cg b:=List.filterMap_append
theorem l9(s:C)(L:Nat)(t a:Int):∀is:List Nat,(du s L t a (gT s L) is).code =0→
  (∀i∈is,bC (az s t i) L=0∧((aF (az s t i) L).there =o∧(aF (az s t i) L).leaf =A→(gT s L (aF (az s t i) L).frame (a*8+i)).code =0))∧
  bY (du s L t a (gT s L) is).vs =is.flatMap (gI s L t a)∧cg (du s L t a (gT s L) is).vs =is.flatMap (eT s L t a)
 | [],_=>⟨fun i h=>(by cases h),rfl,rfl⟩
 |i::is,hc=>by
  unfold du at hc⊢;by_cases hd:bC (az s t i) L=0
  ·rw[if_neg (by rw[hd];simp)] at hc⊢
   dsimp only at hc⊢;by_cases he:(aF (az s t i) L).there =o∧(aF (az s t i) L).leaf =A
   ·rw[if_pos he] at hc⊢
    by_cases hr:(gT s L (aF (az s t i) L).frame (a*8+i)).code =0
    ·rw[if_neg (by rw[hr];simp)] at hc⊢
     obtain⟨h1,h2,h3⟩:=l9 s L t a is hc;refine⟨fun j hj=> ?_,?_,?_⟩
     ·rcases List.mem_cons.1 hj with rfl|hj
      ·exact⟨hd,fun _=>hr⟩
      ·exact h1 j hj
     ·rw[lS,iO,h2,List.flatMap_cons]
      show _++(_++_)=gI s L t a i++_;unfold gI;dsimp only;rw[he.2,he.1];simp
     ·rw[lT,iP,h3,List.flatMap_cons]
      show _++(_++_)=eT s L t a i++_;unfold eT;dsimp only;rw[if_pos he,if_pos he];simp
    ·rw[if_pos hr] at hc
     exact absurd hc hr
   ·rw[if_neg he] at hc⊢
    rw[if_neg (by simp)] at hc⊢;obtain⟨h1,h2,h3⟩:=l9 s L t a is hc;refine⟨fun j hj=> ?_,?_,?_⟩
    ·rcases List.mem_cons.1 hj with rfl|hj
     ·exact⟨hd,fun h=>absurd h he⟩
     ·exact h1 j hj
    ·rw[lS,List.nil_append,h2,List.flatMap_cons]
     show _++_=gI s L t a i++_;unfold gI;dsimp only;by_cases hf:(aF (az s t i) L).leaf =o
     ·rw[if_pos hf,if_pos hf]
      simp
     ·rw[if_neg hf,if_neg hf,if_neg (fun ht=>he ⟨ht,by simpa using hf⟩)]
    ·rw[lT,List.nil_append,h3,List.flatMap_cons]
     show _++_=eT s L t a i++_;unfold eT;dsimp only;rw[if_neg he,if_neg he]
  ·rw[if_pos hd] at hc
   exact absurd hc hd
theorem zj{α:Type}(f:Nat→List α)(k:Nat)(hk:k<8)(h:∀i,i<8→i≠k→f i=[]):(List.range 8).flatMap f=f k:=by
 have e:List.range 8=[0,1,2,3,4,5,6,7]:=rfl;rw[e];have hk':k=0∨k=1∨k=2∨k=3∨k=4∨k=5∨k=6∨k=7:=by omega
 rcases hk' with rfl|rfl|rfl|rfl|rfl|rfl|rfl|rfl<;>
  simp (config:={decide:=o}) only[List.flatMap_cons,List.flatMap_nil,h 0,h 1,h 2,h 3,h 4,h 5,h 6,h 7,List.nil_append,List.append_nil]
theorem sO{α:Type}(f:Nat→List α)(h:∀i,i<8→f i=[]):(List.range 8).flatMap f=[]:=by
 rw[List.flatMap_eq_nil_iff];intro x hx;exact h x (List.mem_range.1 hx)
theorem p8{α β:Type}(p:β→Bool)(f:α→List β)(l:List α):(l.flatMap f).filter p=l.flatMap fun x=>(f x).filter p:=by
 induction l with
 |nil=>rfl
 |cons x l ih=>rw[List.flatMap_cons,List.flatMap_cons,List.filter_append,ih]
theorem og{w:Int}{L:Nat}(hc:bC w L=0)(hl:(aF w L).leaf =o){b p:Int}(hb:0≤b)(hb':b*aE L<4096)(hp:0≤p):
  E (aC (aF w L) L (b*aE L)) p=decide (p / aE L=b)∧(p / aE L=b→p<4096→aC (aF w L) L (b*aE L)=aC (aF w L) L p):=by
 obtain⟨ht,h0,h3,hs,hf⟩:=iv hc hl;rw[Int.toNat_natCast] at hs;have hpos:=fL L;have hbp:0≤b*aE L:=Int.mul_nonneg hb (Int.le_of_lt hpos);have e1:aC (aF w L) L (b*aE L)=⟨b*aE L,L,(aF w L).frame,(aF w L).rights⟩:=by
  unfold aC;rw[if_pos ⟨hf,hl,hbp,hb'⟩,hs,Int.mul_ediv_cancel _ (by omega)]
 have hL:L=0∨L=1∨L=2:=by omega
 rw[e1];constructor
 ·unfold E
  dsimp only;rw[hs];rcases hL with rfl|rfl|rfl
  ·show(decide (b*1≤p)&&decide (p - b*1<1))=decide (p / 1=b)
   by_cases h:p / 1=b
   ·rw[decide_eq_true h,decide_eq_true (by omega),decide_eq_true (by omega)];rfl
   ·rw[decide_eq_false h,Bool.and_eq_false_iff,decide_eq_false_iff_not,decide_eq_false_iff_not];omega
  ·show(decide (b*8≤p)&&decide (p - b*8<8))=decide (p / 8=b)
   by_cases h:p / 8=b
   ·rw[decide_eq_true h,decide_eq_true (by omega),decide_eq_true (by omega)];rfl
   ·rw[decide_eq_false h,Bool.and_eq_false_iff,decide_eq_false_iff_not,decide_eq_false_iff_not];omega
  ·show(decide (b*64≤p)&&decide (p - b*64<64))=decide (p / 64=b)
   by_cases h:p / 64=b
   ·rw[decide_eq_true h,decide_eq_true (by omega),decide_eq_true (by omega)];rfl
   ·rw[decide_eq_false h,Bool.and_eq_false_iff,decide_eq_false_iff_not,decide_eq_false_iff_not];omega
 ·intro h hp2
  unfold aC;rw[if_pos ⟨hf,hl,hp,hp2⟩,hs,h]
theorem zX{L:Nat}(hL:L≤3){a:Int}(_:0≤a)(h:a*aE (L+1)<4096){i:Nat}(hi:i<8):(a*8+i)*aE L<4096:=by
 have:L=0∨L=1∨L=2∨L=3:=by omega
 rcases this with rfl|rfl|rfl|rfl<;>simp[aE] at h⊢ <;>omega
theorem p9{p:Int}(h0:0≤p)(h1:p<4096){L:Nat}(hL:L≤3):au p L=((p / aE L % 8).toNat :Int):=by
 unfold au;rw[if_pos ⟨h0,h1,by omega,by omega⟩,Int.toNat_natCast];omega
theorem oh(s:C)(p:Int)(hp0:0≤p)(hp1:p<4096)(L:Nat)(hL:L≤3)(t a:Int)(acc:List Int)
  (ih:∀K,L=K+1→∀(t a:Int) (acc:List Int),(cB s K t a).code =0→0≤a→a*aE (K+1)<4096→
   (p / aE (K+1)≠a→(bY (cB s K t a).vs).filter (fun m=>E m p)=[])∧
   (p / aE (K+1)=a→(dm s p K t acc).code =0∧
    (bY (cB s K t a).vs).filter (fun m=>E m p)=(if(dm s p K t acc).e.leaf =o then [aC (dm s p K t acc).e (dm s p K t acc).lev p] else [])∧
    (dm s p K t acc).e.there =(dm s p K t acc).e.leaf ∧∀x∈(dm s p K t acc).tabs,x∈acc∨x=t∨x∈cg (cB s K t a).vs))
  (hc:(cB s L t a).code =0) (ha:0≤a) (hb:a*aE (L+1)<4096):
  (p / aE (L+1)≠a→(bY (cB s L t a).vs).filter (fun m=>E m p)=[])∧
  (p / aE (L+1)=a→(dm s p L t acc).code =0∧
   (bY (cB s L t a).vs).filter (fun m=>E m p)=(if(dm s p L t acc).e.leaf =o then [aC (dm s p L t acc).e (dm s p L t acc).lev p] else [])∧
   (dm s p L t acc).e.there =(dm s p L t acc).e.leaf ∧∀x∈(dm s p L t acc).tabs,x∈acc∨x=t∨x∈cg (cB s L t a).vs):=by
 rw[i7] at hc⊢;cases hh:s.has t with
 |false=>rw[hh] at hc;cases hc
 |true=>
  rw[hh] at hc;rw[if_neg (by simp)] at hc⊢;obtain⟨h1,h2,h3⟩:=l9 s L t a (List.range 8) hc;rw[h2,h3];have hdiv:p / aE (L+1)=p / aE L / 8:=by
   have:=fL L;rw[eC,Int.mul_comm,Int.ediv_ediv_of_nonneg (by omega)]
  have hpos:=fL L;have hq:0≤p / aE L:=Int.ediv_nonneg hp0 (by omega);have hix:=p9 hp0 hp1 hL;rw[hdiv,p8];generalize hqq:p / aE L=q at*
  have hoff:∀i:Nat,i<8→q≠a*8+i→(gI s L t a i).filter (fun m=>E m p)=[]:=fun i hi hne=>by
   obtain⟨hd,hsub⟩:=h1 i (List.mem_range.2 hi);have hbi:=zX hL ha hb hi;unfold gI;dsimp only;split
   ·rename_i hl
    have:=(og hd hl (show 0≤a*8+(i:Int) by omega) hbi hp0).1;rw[hqq,decide_eq_false hne] at this;rw[List.filter_cons,this];rfl
   ·rename_i hl
    split
    ·rename_i ht
     have hl':(aF (az s t i) L).leaf =A:=by simpa using hl
     have hcs:=hsub ⟨ht,hl'⟩;cases L with
     |zero=>cases hcs
     |succ K=>
      refine(ih K rfl (aF (az s t i) (K+1:Nat)).frame (a*8+i) [] hcs (by omega) hbi).1 ?_;rw[hqq];exact hne
    ·rfl
  refine⟨fun hne=>sO _ fun i hi=>hoff i hi (by omega),fun he=> ?_⟩;have hi8:(q % 8).toNat <8:=by omega
  have hon:q=a*8+((q % 8).toNat :Int):=by omega
  rw[zj _ (q % 8).toNat hi8 (fun i hi hne=>hoff i hi (by omega))];obtain⟨hd,hsub⟩:=h1 _ (List.mem_range.2 hi8);have hbi:=zX hL ha hb hi8;have hct:∀x∈eT s L t a (q % 8).toNat,x∈(List.range 8).flatMap (eT s L t a):=fun x hx=>List.mem_flatMap.2 ⟨_,List.mem_range.2 hi8,hx⟩;have hdw:=hd;rw[←hix] at hdw;by_cases hend:(aF (az s t (au p L)) L).there =A∨(aF (az s t (au p L)) L).leaf =o
  ·rw[fU hh hdw hend]
   refine⟨rfl,?_,?_,fun x hx=> ?_⟩
   ·rw[hix]
    unfold gI;dsimp only;by_cases hl:(aF (az s t ((q % 8).toNat :Nat)) L).leaf =o
    ·rw[if_pos hl,if_pos hl]
     have:=og hd hl (show 0≤a*8+((q % 8).toNat :Int) by omega) hbi hp0;rw[hqq,decide_eq_true hon] at this;rw[List.filter_cons,this.1,this.2 hon hp1];rfl
    ·rw[if_neg hl,if_neg hl]
     rw[hix] at hend;have ht:(aF (az s t ((q % 8).toNat :Nat)) L).there =A:=by
      rcases hend with h|h
      ·exact h
      ·exact absurd h hl
     rw[if_neg (by rw[ht];simp)];rfl
   ·rcases hend with h|h
    ·show(aF _ _).there =(aF _ _).leaf
     rw[h];cases hl:(aF (az s t (au p L)) L).leaf with
     |false=>rfl
     |true=>have:=(iv hdw hl).1;rw[h] at this;cases this
    ·show(aF _ _).there =(aF _ _).leaf
     rw[h,(iv hdw h).1]
   ·rcases List.mem_append.1 hx with hx|hx
    ·exact .inl hx
    ·exact .inr (.inl (List.mem_singleton.1 hx))
  ·obtain⟨K,hK,e⟩:=ki (acc:=acc) hh hdw hend
   rw[e];have hne:=hend;rw[not_or] at hne;have ht:(aF (az s t (au p L)) L).there =o:=by simpa using hne.1
   have hl:(aF (az s t (au p L)) L).leaf =A:=by simpa using hne.2
   subst hK;rw[hix] at ht hl⊢;have hcs:=hsub ⟨ht,hl⟩;have hi:=(ih K rfl (aF (az s t ((q % 8).toNat :Nat)) (K+1:Nat)).frame (a*8+((q % 8).toNat :Int)) (acc++[t]) hcs (by omega) hbi).2 (by rw[hqq];exact hon);obtain⟨i1,i2,i3,i4⟩:=hi;refine⟨i1,?_,i3,fun x hx=> ?_⟩
   ·unfold gI
    dsimp only;rw[if_neg (by rw[hl];simp),if_pos ht];exact i2
   ·have hcT:eT s (K+1) t a (q % 8).toNat =(aF (az s t ((q % 8).toNat :Nat)) (K+1:Nat)).frame ::cg (gT s (K+1) (aF (az s t ((q % 8).toNat :Nat)) (K+1:Nat)).frame (a*8+((q % 8).toNat :Int))).vs :=by
     unfold eT;dsimp only;rw[if_pos ⟨ht,hl⟩]
    rcases i4 x hx with h|h|h
    ·rcases List.mem_append.1 h with h|h
     ·exact .inl h
     ·exact .inr (.inl (List.mem_singleton.1 h))
    ·exact .inr (.inr (hct x (by rw[hcT,h];exact List.mem_cons_self ..)))
    ·exact .inr (.inr (hct x (by rw[hcT];exact List.mem_cons_of_mem _ h)))
theorem uR(s:C)(p:Int)(hp0:0≤p)(hp1:p<4096):∀(L:Nat),L≤3→∀(t a:Int) (acc:List Int),(cB s L t a).code =0→0≤a→a*aE (L+1)<4096→
  (p / aE (L+1)≠a→(bY (cB s L t a).vs).filter (fun m=>E m p)=[])∧
  (p / aE (L+1)=a→(dm s p L t acc).code =0∧
   (bY (cB s L t a).vs).filter (fun m=>E m p)=(if(dm s p L t acc).e.leaf =o then [aC (dm s p L t acc).e (dm s p L t acc).lev p] else [])∧
   (dm s p L t acc).e.there =(dm s p L t acc).e.leaf ∧∀x∈(dm s p L t acc).tabs,x∈acc∨x=t∨x∈cg (cB s L t a).vs):=by
 intro L;induction L with
 |zero=>
  intro hL t a acc hc ha hb;exact oh s p hp0 hp1 0 hL t a acc (fun K hK=>by omega) hc ha hb
 |succ L ih=>
  intro hL t a acc hc ha hb;exact oh s p hp0 hp1 (L+1) hL t a acc (fun K hK=>by
   have e:L=K:=by omega
   subst e;exact ih (by omega)) hc ha hb
def cT(s:C)(p t:Int)(L:Nat):En:=aF (az s t (au p L)) L
def iw(s:C)(p t:Int)(L:Nat):Bool:=s.has t&&(decide (bC (az s t (au p L)) L=0)&&((cT s p t L).there && !(cT s p t L).leaf))
def bu(s:C)(r p:Int):Nat→Option Int
 |0=>B r
 |d+1=>(bu s r p d).bind fun u=>if iw s p u (3 - d)=o then B (cT s p u (3 - d)).frame else F
def cW(s:C)(r p:Int)(n:Nat):List Int:=(List.range n).map fun d=>(bu s r p d).getD 0
structure Ends (s:C) (r p:Int) (d:Nat) (t:Int):Prop where
 le:d≤3
 tab:bu s r p d=B t
 use:s.has t=o
 dec:bC (az s t (au p (3 - d:Nat))) (3 - d:Nat)=0
 no:iw s p t (3 - d)=A
theorem jr{s:C}{r p t:Int}{d:Nat}(h:bu s r p d=B t):cW s r p (d+1)=cW s r p d++[t]:=by
 unfold cW;rw[List.range_succ,List.map_append,List.map_singleton,h];rfl
theorem lH(s:C)(r p:Int)(n:Nat):(cW s r p n).length =n:=by simp[cW]
theorem fM{s:C}{r p t:Int}{d:Nat}:bu s r p (d+1)=B t↔∃u,bu s r p d=B u∧iw s p u (3 - d)=o∧(cT s p u (3 - d)).frame =t:=by
 show(bu s r p d).bind _=B t↔_;cases bu s r p d with
 |none=>simp
 |some u=>
  simp only[Option.bind_some,Option.some.injEq,exists_eq_left'];split
  ·rename_i h;simp[h]
  ·rename_i h;simp[h]
theorem dJ{s:C}{r p t:Int}{d:Nat}(h:bu s r p d=B t)(hg:iw s p t (3 - d)=A):bu s r p (d+1)=F:=by
 show(bu s r p d).bind _=F;rw[h];simp[hg]
theorem bO{s:C}{r p:Int}{d:Nat}(h:bu s r p d=F):∀e,d≤e→bu s r p e=F:=by
 intro e he;induction he with
 |refl=>exact h
 |step _ ih=>show(bu s r p _).bind _=F;rw[ih];rfl
theorem eU{s:C}{r p t:Int}{e:Nat}(h:bu s r p e=B t){d:Nat}(hd:d≤e):∃u,bu s r p d=B u:=by
 cases hh:bu s r p d with
 |some u=>exact⟨u,rfl⟩
 |none=>rw[bO hh e hd] at h;cases h
theorem js{s:C}{p t:Int}{L:Nat}:iw s p t L=o↔s.has t=o∧bC (az s t (au p L)) L=0∧(cT s p t L).there =o∧(cT s p t L).leaf =A:=by
 unfold iw;simp only[Bool.and_eq_true,decide_eq_true_eq,Bool.not_eq_true']
theorem Ends.unique{s:C}{r p t u:Int}{d e:Nat}(h:Ends s r p d t)(k:Ends s r p e u):d=e∧t=u:=by
 have h1:=dJ h.tab h.no;have h2:=dJ k.tab k.no;have hde:d=e:=by
  rcases Nat.lt_trichotomy d e with hlt|rfl|hlt
  ·have:=bO h1 e hlt;rw[k.tab] at this;cases this
  ·rfl
  ·have:=bO h2 d hlt;rw[h.tab] at this;cases this
 subst hde;have:=h.tab.symm.trans k.tab;injection this with this
 exact⟨rfl,this⟩
theorem Ends.stop{s:C}{r p t:Int}{d:Nat}(h:Ends s r p d t):(cT s p t (3 - d)).there =A∨(cT s p t (3 - d)).leaf =o:=by
 have h1:=h.no;unfold iw at h1;rw[h.use,decide_eq_true h.dec] at h1;simp only[Bool.true_and,Bool.and_eq_false_iff,Bool.not_eq_false'] at h1;exact h1
theorem sP{s:C}{r p:Int}:∀(L d:Nat) (t:Int),L+d=3→bu s r p d=B t→∀(e:Nat) (u:Int),d≤e→Ends s r p e u→
  dm s p L t (cW s r p d)=⟨0,cW s r p (e+1),((3 - e:Nat):Int),cT s p u (3 - e)⟩:=by
 intro L;induction L with
 |zero=>
  intro d t hL ht e u hde he;have:=he.le;obtain rfl:e=d:=by omega
  obtain rfl:t=u:=by have:=ht.symm.trans he.tab;injection this
  obtain rfl:e=3:=by omega
  rw[fU he.use he.dec he.stop,jr ht];rfl
 |succ L ih=>
  intro d t hL ht e u hde he;by_cases hd:d=e
  ·subst hd
   obtain rfl:t=u:=by have:=ht.symm.trans he.tab;injection this
   have e3:3 - d=L+1:=by omega
   have hu:=he.use;have hc:=he.dec;have hs:=he.stop;rw[e3] at hc hs⊢;rw[fU hu hc hs,jr ht];rfl
  ·obtain⟨v,hv⟩:=eU he.tab (show d+1≤e by omega)
   obtain⟨t',h1,h2,h3⟩:=fM.1 hv;obtain rfl:t'=t:=by have:=h1.symm.trans ht;injection this
   have e3:3 - d=L+1:=by omega
   rw[e3] at h2 h3;obtain⟨g1,g2,g3,g4⟩:=js.1 h2;have hne:¬((aF (az s t' (au p (L+1:Nat))) (L+1:Nat)).there =A∨(aF (az s t' (au p (L+1:Nat))) (L+1:Nat)).leaf =o):=by
    unfold cT at g3 g4;rw[g3,g4];simp
   obtain⟨K,hK,ew⟩:=ki (acc:=cW s r p d) g1 g2 hne;obtain rfl:L=K:=by omega
   rw[ew,←jr ht];have h3':(aF (az s t' (au p (L+1:Nat))) (L+1:Nat)).frame =v:=h3;rw[h3'];exact ih (d+1) v (by omega) hv e u (by omega) he
theorem ch{s:C}{r p t:Int}{d:Nat}(h0:0≤p)(h1:p<4096)(h:Ends s r p d t):bv s r p=⟨0,cW s r p (d+1),((3 - d:Nat):Int),cT s p t (3 - d)⟩:=by
 unfold bv;rw[if_pos (by unfold cZ;rw[decide_eq_true h0,decide_eq_true h1];rfl)];exact sP 3 0 r rfl rfl d t (Nat.zero_le _) h
theorem fo(n:Nat):0<aE n:=fL n
theorem iQ{p q:Int}{a b:Nat}(hab:a≤b)(h:p / aE a=q / aE a):p / aE b=q / aE b:=by
 induction hab with
 |refl=>exact h
 | @step n _ ih=>
  have:=fo n;rw[eC,Int.mul_comm,←Int.ediv_ediv_of_nonneg (by omega),←Int.ediv_ediv_of_nonneg (by omega),ih]
theorem ib{p q:Int}(hp:0≤p∧p<4096)(hq:0≤q∧q<4096){L:Nat}(h:p / aE L=q / aE L):au p L=au q L:=by
 unfold au;by_cases hL:L<4
 ·rw[if_pos ⟨hp.1,hp.2,by omega,by omega⟩,if_pos ⟨hq.1,hq.2,by omega,by omega⟩,Int.toNat_natCast,h]
 ·rw[if_neg (by omega),if_neg (by omega)]
theorem oU{p q:Int}(hp:0≤p∧p<4096)(hq:0≤q∧q<4096){L:Nat}(hL:L≤3)(h:p / aE (L+1)=q / aE (L+1))(hi:au p L=au q L):p / aE L=q / aE L:=by
 have h0:=fo L;have e:∀x:Int,x / aE (L+1)=x / aE L / 8:=fun x=>by rw[eC,Int.mul_comm,←Int.ediv_ediv_of_nonneg (by omega)]
 rw[e,e] at h;unfold au at hi;rw[if_pos ⟨hp.1,hp.2,by omega,by omega⟩,if_pos ⟨hq.1,hq.2,by omega,by omega⟩,Int.toNat_natCast] at hi;omega
theorem cq{p:Int}(hp:0≤p∧p<4096){L:Nat}(hL:L≤3):0≤au p L∧au p L<8:=by
 unfold au;rw[if_pos ⟨hp.1,hp.2,by omega,by omega⟩];omega
theorem vT{p q:Int}(hp:0≤p∧p<4096)(hq:0≤q∧q<4096):p / aE 4=q / aE 4:=by
 have:aE 4=4096:=rfl;rw[this];omega
theorem sQ{p:Int}(hp:0≤p∧p<4096){L:Nat}(hL:L≤3):au p L=p / aE L % 8:=by
 unfold au;rw[if_pos ⟨hp.1,hp.2,by omega,by omega⟩,Int.toNat_natCast]
theorem ma{p:Int}(hp:0≤p∧p<4096){L:Nat}(hL:L≤3)(i:Nat)(hi:i<8):∃q,(0≤q∧q<4096)∧q / aE (L+1)=p / aE (L+1)∧au q L=i∧q % aE L=0:=by
 have h:(0≤(p / aE (L+1)*8+i)*aE L∧(p / aE (L+1)*8+i)*aE L<4096)∧(p / aE (L+1)*8+i)*aE L / aE (L+1)=p / aE (L+1)∧(p / aE (L+1)*8+i)*aE L / aE L % 8=i∧(p / aE (L+1)*8+i)*aE L % aE L=0:=by
  have hL':L=0∨L=1∨L=2∨L=3:=by omega
  rcases hL' with rfl|rfl|rfl|rfl<;>simp only[aE]<;>omega
 exact⟨(p / aE (L+1)*8+i)*aE L,h.1,h.2.1,(sQ h.1 hL).trans h.2.2.1,h.2.2.2⟩
theorem cH(s:C)(r:Int){p q:Int}(hp:0≤p∧p<4096)(hq:0≤q∧q<4096):∀(d:Nat),d≤4→p / aE (4 - d)=q / aE (4 - d)→bu s r p d=bu s r q d:=by
 intro d;induction d with
 |zero=>intro _ _;rfl
 |succ d ih=>
  intro hd h;have h3:p / aE (3 - d)=q / aE (3 - d):=by rw[show 4 - (d+1)=3 - d by omega] at h;exact h
  have hi:=ib hp hq h3;show(bu s r p d).bind _=(bu s r q d).bind _;rw[ih (by omega) (iQ (by omega) h)];congr 1
  funext u
  unfold iw cT;rw[hi]
def dv(p:Int):Prop:=0≤p∧p<4096
def sR(s:C)(r t:Int):Prop:=∃p d,dv p∧d≤3∧bu s r p d=B t
structure Wf (s:C) (r:Int) (gone:List Int) (X:Int→Prop):Prop where
 ends:∀p,dv p→∃d t,Ends s r p d t
 inj:∀p q d e t,dv p→dv q→d≤3→e≤3→bu s r p d=B t→bu s r q e=B t→d=e∧p / aE (4 - d)=q / aE (4 - d)
 full:∀p d t,dv p→d<3→bu s r p (d+1)=B t→X t∨∃i:Nat,i<8∧az s t i≠0
 use:∀k:Nat,s.tk k=o↔sR s r k∨(k:Int)∈gone
 nd:gone.Nodup
 gz:∀g∈gone,0≤g∧∀i:Nat,i<8→az s g i=0
 gt:∀g∈gone,¬sR s r g
section
variable {s:C} {r:Int} {gone:List Int} {X:Int→Prop}
theorem Wf.mono{Y:Int→Prop}(h:Wf s r gone X)(hxy:∀t,X t→Y t):Wf s r gone Y:=
 ⟨h.ends,h.inj,fun p d t a b c=>(h.full p d t a b c).imp (hxy t) id,h.use,h.nd,h.gz,h.gt⟩
theorem Wf.at_(h:Wf s r gone X){p t:Int}{d:Nat}(hp:dv p)(hd:d≤3)(ht:bu s r p d=B t):
  s.has t=o∧bC (az s t (au p (3 - d:Nat))) (3 - d:Nat)=0:=by
 cases hg:iw s p t (3 - d) with
 |true=>have:=js.1 hg;exact⟨this.1,this.2.1⟩
 |false=>
  obtain⟨e,u,he⟩:=h.ends p hp;have h1:=dJ ht hg;have hle:e≤d:=by
   rcases Nat.lt_or_ge d e with hlt|hge
   ·have:=bO h1 e hlt;rw[he.tab] at this;cases this
   ·exact hge
  rcases Nat.lt_or_ge e d with hlt|hge
  ·have:=bO (dJ he.tab he.no) d hlt;rw[ht] at this;cases this
  ·obtain rfl:e=d:=by omega
   obtain rfl:t=u:=by have:=ht.symm.trans he.tab;injection this
   exact⟨he.use,he.dec⟩
theorem Wf.nat(h:Wf s r gone X){p t:Int}{d:Nat}(hp:dv p)(hd:d≤3)(ht:bu s r p d=B t):0≤t∧t<s.n∧s.tk t.toNat=o:=Ms.has_iff.1 (h.at_ hp hd ht).1
theorem Wf.dec(h:Wf s r gone X){p t:Int}{d:Nat}(hp:dv p)(hd:d≤3)(ht:bu s r p d=B t)(i:Nat)(hi:i<8):bC (az s t i) (3 - d:Nat)=0:=by
 obtain⟨q,hq,hpre,hix,_⟩:=ma hp (show 3 - d≤3 by omega) i hi;have e1:bu s r q d=B t:=by
  rw[←ht];exact cH s r hq hp d (by omega) (by rw[show 4 - d=3 - d+1 by omega];exact hpre)
 have:=(h.at_ hq hd e1).2;rw[hix] at this;exact this
theorem Ends.same{p q t:Int}{d:Nat}(hp:dv p)(hq:dv q)(h:Ends s r p d t)(hpre:q / aE (3 - d)=p / aE (3 - d)):Ends s r q d t∧cT s q t (3 - d)=cT s p t (3 - d):=by
 have hi:=ib hq hp hpre;have:=h.le;refine⟨⟨h.le,?_,h.use,by rw[hi];exact h.dec,?_⟩,by unfold cT;rw[hi]⟩
 ·rw[←h.tab]
  exact cH s r hq hp d (by omega) (iQ (by omega) hpre)
 ·have:=h.no
  unfold iw cT at this⊢;rw[hi];exact this
theorem dE{s:C}{t i u j:Int}{v:Int}(hu:0≤u)(ht:0≤t)(hi:0≤i)(hj:0≤j):az (s.setW t.toNat i.toNat v) u j=if u=t∧j=i then v else az s u j:=by
 show(if u.toNat=t.toNat∧j.toNat=i.toNat then v else s.wd u.toNat j.toNat)=_;by_cases h:u=t∧j=i
 ·rw[if_pos h,if_pos ⟨by rw[h.1],by rw[h.2]⟩]
 ·rw[if_neg h,if_neg (by omega)]
  rfl
theorem je(s:C)(t i:Nat)(v u:Int):(s.setW t i v).has u=s.has u:=rfl
section leaf
variable {p t v:Int} {d:Nat}
abbrev cQ(s:C)(p t:Int)(d:Nat)(v:Int):C:=s.setW t.toNat (au p (3 - d:Nat)).toNat v
theorem xW(h:Wf s r gone X)(hp:dv p)(hd:d≤3)(ht:bu s r p d=B t){q u:Int}{e:Nat}(hq:dv q)(he:e≤3)(hu:bu s r q e=B u):
  (u=t∧au q (3 - e:Nat)=au p (3 - d:Nat))↔(e=d∧q / aE (3 - d)=p / aE (3 - d)):=by
 constructor
 ·rintro⟨rfl,hi⟩
  obtain⟨rfl,hpre⟩:=h.inj q p e d u hq hp he hd hu ht;refine⟨rfl,oU hq hp (by omega) ?_ hi⟩;rw[show 3 - e+1=4 - e by omega];exact hpre
 ·rintro⟨rfl,hpre⟩
  have:bu s r q e=bu s r p e:=cH s r hq hp e (by omega) (iQ (by omega) hpre);rw[hu,ht] at this;injection this with this
  exact⟨this,ib hq hp hpre⟩
theorem jX(h:Wf s r gone X)(hp:dv p)(hd:d≤3)(ht:bu s r p d=B t){q u:Int}{e:Nat}(hq:dv q)(he:e≤3)(hu:bu s r q e=B u):
  az (cQ s p t d v) u (au q (3 - e:Nat))=if e=d∧q / aE (3 - d)=p / aE (3 - d) then v else az s u (au q (3 - e:Nat)):=by
 have h1:=(h.nat hp hd ht).1;have h2:=(h.nat hq he hu).1;have i1:=cq hp (show 3 - d≤3 by omega);have i2:=cq hq (show 3 - e≤3 by omega);rw[dE h2 h1 i1.1 i2.1];have:=xW h hp hd ht hq he hu;by_cases hs:u=t∧au q (3 - e:Nat)=au p (3 - d:Nat)
 ·rw[if_pos hs,if_pos (this.1 hs)]
 ·rw[if_neg hs,if_neg (fun x=>hs (this.2 x))]
def kv(v:Int)(L:Nat):Prop:=bC v L=0∧¬((aF v L).there =o∧(aF v L).leaf =A)
theorem fV(h:Wf s r gone X)(hp:dv p)(hd:d≤3)(ht:bu s r p d=B t)(hg:iw s p t (3 - d)=A)(hv:kv v (3 - d)){q:Int}(hq:dv q):
  ∀e,e≤4→bu (cQ s p t d v) r q e=bu s r q e:=by
 intro e;induction e with
 |zero=>intro _;rfl
 |succ e ih=>
  intro he;show(bu (cQ s p t d v) r q e).bind _=(bu s r q e).bind _;rw[ih (by omega)];cases hu:bu s r q e with
  |none=>rfl
  |some u=>
   have hw:=jX (v:=v) h hp hd ht hq (show e≤3 by omega) hu;simp only[Option.bind_some];by_cases hs:e=d∧q / aE (3 - d)=p / aE (3 - d)
   ·rw[if_pos hs] at hw
    obtain⟨rfl,hpre⟩:=hs;have g1:iw (cQ s p t e v) q u (3 - e)=A:=by
     unfold iw cT;rw[hw];have:=hv.2;cases h1:(aF v (3 - e:Nat)).there <;>cases h2:(aF v (3 - e:Nat)).leaf <;>simp_all
    have g2:iw s q u (3 - e)=A:=by
     have hix:=ib hq hp hpre;obtain⟨rfl,_⟩:=(xW h hp hd ht hq hd hu).2 ⟨rfl,hpre⟩;unfold iw cT at hg⊢;rw[hix];exact hg
    rw[g1,g2];simp
   ·rw[if_neg hs] at hw
    unfold iw cT;rw[hw,je]
theorem vV(h:Wf s r gone X)(hp:dv p)(hd:d≤3)(ht:bu s r p d=B t)(hg:iw s p t (3 - d)=A)(hv:kv v (3 - d))(u:Int):sR (cQ s p t d v) r u↔sR s r u:=by
 constructor
 ·rintro⟨q,e,hq,he,hu⟩
  rw[fV h hp hd ht hg hv hq e (by omega)] at hu;exact⟨q,e,hq,he,hu⟩
 ·rintro⟨q,e,hq,he,hu⟩
  rw[←fV h hp hd ht hg hv hq e (by omega)] at hu;exact⟨q,e,hq,he,hu⟩
theorem nl(h:Wf s r gone X)(hp:dv p)(hd:d≤3)(ht:bu s r p d=B t)(hg:iw s p t (3 - d)=A)(hv:kv v (3 - d)){q u:Int}{e:Nat}(hq:dv q)(he:Ends s r q e u):
  Ends (cQ s p t d v) r q e u∧cT (cQ s p t d v) q u (3 - e)=if e=d∧q / aE (3 - d)=p / aE (3 - d) then aF v (3 - d:Nat) else cT s q u (3 - e):=by
 have hle:=he.le;have hw:=jX (v:=v) h hp hd ht hq he.le he.tab;have ht':=(fV h hp hd ht hg hv hq e (by omega)).trans he.tab;by_cases hs:e=d∧q / aE (3 - d)=p / aE (3 - d)
 ·rw[if_pos hs] at hw⊢
  obtain⟨rfl,hpre⟩:=hs;refine⟨⟨hle,ht',he.use,by rw[hw];exact hv.1,?_⟩,by unfold cT;rw[hw]⟩;unfold iw cT;rw[hw];have:=hv.2;cases h1:(aF v (3 - e:Nat)).there <;>cases h2:(aF v (3 - e:Nat)).leaf <;>simp_all
 ·rw[if_neg hs] at hw⊢
  refine⟨⟨hle,ht',he.use,by rw[hw];exact he.dec,?_⟩,by unfold cT;rw[hw]⟩;have:=he.no;unfold iw cT at this⊢;rw[hw,je];exact this
theorem Wf.put(h:Wf s r gone X)(hp:dv p)(hd:d≤3)(ht:bu s r p d=B t)(hg:iw s p t (3 - d)=A)(hv:kv v (3 - d)):
  Wf (cQ s p t d v) r gone (fun u=>(X u∧(v=0∨u≠t))∨(v=0∧u=t)):=by
 have hT:=vV h hp hd ht hg hv;have hn:=h.nat hp hd ht;have i1:=cq hp (show 3 - d≤3 by omega);refine⟨fun q hq=> ?_,fun q q' e e' u a b c c' k k'=> ?_,fun q e u hq he hu=> ?_,fun k=> ?_,h.nd,fun g hg'=> ?_,fun g hg'=> ?_⟩
 ·obtain⟨e,u,he⟩:=h.ends q hq
  exact⟨e,u,(nl h hp hd ht hg hv hq he).1⟩
 ·rw[fV h hp hd ht hg hv a e (by omega)] at k
  rw[fV h hp hd ht hg hv b e' (by omega)] at k';exact h.inj q q' e e' u a b c c' k k'
 ·rw[fV h hp hd ht hg hv hq (e+1) (by omega)] at hu
  have hun:=h.nat hq (by omega) hu;by_cases hut:u=t
  ·subst hut
   by_cases hv0:v=0
   ·exact .inl (.inr ⟨hv0,rfl⟩)
   ·refine .inr ⟨(au p (3 - d:Nat)).toNat,by omega,?_⟩
    rw[dE hn.1 hn.1 i1.1 (by omega),if_pos ⟨rfl,by omega⟩];exact hv0
  ·rcases h.full q e u hq he hu with hx|⟨i,hi,hw⟩
   ·exact .inl (.inl ⟨hx,.inr hut⟩)
   ·refine .inr ⟨i,hi,?_⟩
    rw[dE hun.1 hn.1 i1.1 (by omega),if_neg (fun x=>hut x.1)];exact hw
 ·rw[hT]
  exact h.use k
 ·obtain⟨g0,gz⟩:=h.gz g hg'
  refine⟨g0,fun i hi=> ?_⟩;rw[dE g0 hn.1 i1.1 (by omega),if_neg]
  ·exact gz i hi
  ·rintro⟨rfl,_⟩
   exact h.gt g hg' ⟨p,d,hp,hd,ht⟩
 ·rw[hT]
  exact h.gt g hg'
end leaf
end
theorem eB{L:Nat}(hL:L≤3):bC 0 L=0∧aF 0 L=En.zero:=by
 have h1:bC 0 L=0:=by
  unfold bC;rw[if_neg (by omega),if_neg (by unfold iN;simp),if_pos rfl]
 refine⟨h1,?_⟩;unfold aF;rw[if_neg (by simp)]
def sS(k:Int):En:=⟨o,A,7,A,A,k⟩
def iR(k:Int)(L:Nat):Int:=bx (sS k) L
theorem rL{k:Int}(h0:0≤k)(h1:k<1048576){L:Nat}(hL:0<L)(hL3:L≤3):ak (sS k) L=0:=by
 unfold ak sS;simp;omega
theorem qc{k:Int}(h0:0≤k)(h1:k<1048576){L:Nat}(hL:0<L)(hL3:L≤3):bC (iR k L) L=0∧aF (iR k L) L=sS k:=by
 have:=ld (rL h0 h1 hL hL3);exact⟨this.1,this.2.1⟩
theorem jf{s:C}{p t:Int}{L:Nat}(hL:L≤3)(h:az s t (au p L)=0):cT s p t L=En.zero:=by
 unfold cT;rw[h];exact(eB hL).2
theorem fW{s:C}{p t:Int}{L:Nat}(hL:L≤3)(h:az s t (au p L)=0):iw s p t L=A:=by
 unfold iw;rw[jf hL h];simp[En.zero]
section
variable {s:C} {r:Int} {gone:List Int} {X:Int→Prop} {p t:Int} {d:Nat}
def dO(s:C)(p t:Int)(d k:Nat):C:=cQ (s.take k) p t d (iR k (3 - d))
section graft
variable {k:Nat}
theorem nm{u:Int}(s:C)(k:Nat)(h:u≠k):(s.take k).has u=s.has u:=by
 unfold Ms.has;by_cases h0:0≤u
 ·have:u.toNat≠k:=by omega
  show(_&&(_&&bZ s.tk k o u.toNat))=_;rw[iF _ _ this];rfl
 ·simp[h0]
theorem dX{s:C}{k:Nat}(h:k<s.n):(s.take k).has k=o:=by
 refine Ms.has_iff.2 ⟨by omega,?_,?_⟩
 ·show(k:Int)<s.n;omega
 ·show bZ s.tk k o (k:Int).toNat =o
  rw[Int.toNat_natCast,ly]
theorem jt{s:C}{k:Nat}{u:Int}(hu:0≤u)(j:Int):az (s.take k) u j=if u=k then 0 else az s u j:=by
 show(if u.toNat=k then 0 else s.wd u.toNat j.toNat)=_;by_cases h:u=k
 ·rw[if_pos h,if_pos (by omega)]
 ·rw[if_neg h,if_neg (by omega)]
  rfl
theorem Wf.fresh(h:Wf s r gone X)(hk:s.tk k=A):¬sR s r k∧(k:Int) ∉ gone:=by
 constructor
 ·intro hi
  have:=(h.use k).2 (.inl hi);rw[hk] at this;cases this
 ·intro hi
  have:=(h.use k).2 (.inr hi);rw[hk] at this;cases this
theorem np(h:Wf s r gone X)(he:Ends s r p d t)(hp:dv p)(hk:s.tk k=A){q u:Int}{e:Nat}(hq:dv q)(hle:e≤3)(hu:bu s r q e=B u):
  (dO s p t d k).has u=s.has u∧az (dO s p t d k) u (au q (3 - e:Nat))=if e=d∧q / aE (3 - d)=p / aE (3 - d) then iR k (3 - d) else az s u (au q (3 - e:Nat)):=by
 have hn:=h.nat hp he.le he.tab;have hun:=h.nat hq hle hu;have i1:=cq hp (show 3 - d≤3 by omega);have i2:=cq hq (show 3 - e≤3 by omega);have huk:u≠k:=by
  intro e;have:=hun.2.2;rw[e,Int.toNat_natCast,hk] at this;cases this
 refine⟨by unfold dO cQ;rw[je,nm s k huk],?_⟩;unfold dO cQ;rw[dE hun.1 hn.1 i1.1 i2.1,jt hun.1,if_neg huk];have:=xW h hp he.le he.tab hq hle hu;by_cases hs:u=t∧au q (3 - e:Nat)=au p (3 - d:Nat)
 ·rw[if_pos hs,if_pos (this.1 hs)]
 ·rw[if_neg hs,if_neg (fun x=>hs (this.2 x))]
theorem oi(h:Wf s r gone X)(he:Ends s r p d t)(hp:dv p)(hk:s.tk k=A)(hn:k<s.n)(j:Int)(hj:0≤j):(dO s p t d k).has k=o∧az (dO s p t d k) k j=0:=by
 have htn:=h.nat hp he.le he.tab;have i1:=cq hp (show 3 - d≤3 by omega);have hkt:(k:Int)≠t:=by
  intro e;have:=htn.2.2;rw[←e,Int.toNat_natCast,hk] at this;cases this
 unfold dO cQ;rw[je];refine⟨dX hn,?_⟩;rw[dE (by omega) htn.1 i1.1 hj,if_neg (fun x=>hkt x.1),jt (by omega),if_pos rfl]
theorem fd(h:Wf s r gone X)(he:Ends s r p d t)(hp:dv p)(hd:d≤2)(hk:s.tk k=A)(hn:k<s.n)(hs:s.n≤128){q:Int}(hq:dv q):
  ∀e,e≤4→bu (dO s p t d k) r q e=if e=d+1∧q / aE (3 - d)=p / aE (3 - d) then B (k:Int) else bu s r q e:=by
 intro e;induction e with
 |zero=>intro _;rw[if_neg (by omega)];rfl
 |succ e ih=>
  intro hle;have ih:=ih (by omega);by_cases h1:e=d+1∧q / aE (3 - d)=p / aE (3 - d)
  ·rw[if_pos h1] at ih
   have g0:iw (dO s p t d k) q k (3 - e)=A:=fW (by omega) (oi h he hp hk hn _ (cq hq (by omega)).1).2;rw[dJ ih g0,if_neg (by omega)];obtain⟨rfl,hpre⟩:=h1;have hq':=(he.same hp hq hpre).1;exact(bO (dJ hq'.tab hq'.no) _ (by omega)).symm
  ·rw[if_neg h1] at ih
   cases hu:bu s r q e with
   |none=>
    rw[hu] at ih;rw[bO ih (e+1) (by omega),bO hu (e+1) (by omega)];rw[if_neg];rintro⟨h2,hpre⟩;obtain rfl:e=d:=by omega
    rw[(he.same hp hq hpre).1.tab] at hu;cases hu
   |some u=>
    rw[hu] at ih;obtain⟨w1,w2⟩:=np h he hp hk hq (show e≤3 by omega) hu;show(bu (dO s p t d k) r q e).bind _=_;rw[ih,Option.bind_some];by_cases h2:e=d∧q / aE (3 - d)=p / aE (3 - d)
    ·rw[if_pos h2] at w2
     obtain⟨rfl,hpre⟩:=h2;obtain⟨t1,t2⟩:=qc (k:=(k:Int)) (by omega) (by omega) (show 0<3 - e by omega) (by omega);have hhas:=(h.at_ hq (by omega) hu).1;have g1:iw (dO s p t e k) q u (3 - e)=o:=by
      refine js.2 ⟨w1.trans hhas,by rw[w2];exact t1,?_,?_⟩
      ·unfold cT;rw[w2,t2];rfl
      ·unfold cT;rw[w2,t2];rfl
     rw[if_pos g1,if_pos ⟨rfl,hpre⟩];unfold cT;rw[w2,t2];rfl
    ·rw[if_neg h2] at w2
     have hn2:¬(e+1=d+1∧q / aE (3 - d)=p / aE (3 - d)):=fun z=>h2 ⟨by omega,z.2⟩;rw[if_neg hn2];show _=(bu s r q e).bind _;rw[hu,Option.bind_some];unfold iw cT;rw[w1,w2]
theorem sU(h:Wf s r gone X)(he:Ends s r p d t)(hp:dv p)(hd:d≤2)(hk:s.tk k=A)(hn:k<s.n)(hs:s.n≤128)(u:Int):sR (dO s p t d k) r u↔sR s r u∨u=k:=by
 constructor
 ·rintro⟨q,e,hq,hle,hu⟩
  rw[fd h he hp hd hk hn hs hq e (by omega)] at hu;split at hu
  ·injection hu with hu;exact .inr hu.symm
  ·exact .inl ⟨q,e,hq,hle,hu⟩
 ·rintro(⟨q,e,hq,hle,hu⟩|rfl)
  ·refine⟨q,e,hq,hle,?_⟩
   rw[fd h he hp hd hk hn hs hq e (by omega),if_neg]
   ·exact hu
   ·rintro⟨rfl,hpre⟩
    have hq':=(he.same hp hq hpre).1;rw[dJ hq'.tab hq'.no] at hu;cases hu
  ·refine⟨p,d+1,hp,by omega,?_⟩
   rw[fd h he hp hd hk hn hs hp (d+1) (by omega),if_pos ⟨rfl,rfl⟩]
theorem nq(h:Wf s r gone X)(he:Ends s r p d t)(hp:dv p)(hd:d≤2)(hk:s.tk k=A)(hn:k<s.n)(hs:s.n≤128){q u:Int}{e:Nat}(hq:dv q)(hu:Ends s r q e u):
  if q / aE (3 - d)=p / aE (3 - d) then Ends (dO s p t d k) r q (d+1) k∧cT (dO s p t d k) q k (2 - d)=En.zero
  else Ends (dO s p t d k) r q e u∧cT (dO s p t d k) q u (3 - e)=cT s q u (3 - e):=by
 by_cases hpre:q / aE (3 - d)=p / aE (3 - d)
 ·rw[if_pos hpre]
  have e3:3 - (d+1)=2 - d:=by omega
  have i2:=cq hq (show 2 - d≤3 by omega);obtain⟨n1,n2⟩:=oi h he hp hk hn _ i2.1;refine⟨⟨by omega,?_,n1,?_,?_⟩,jf (by omega) n2⟩
  ·rw[fd h he hp hd hk hn hs hq (d+1) (by omega),if_pos ⟨rfl,hpre⟩]
  ·rw[e3,n2];exact(eB (by omega)).1
  ·rw[e3];exact fW (by omega) n2
 ·rw[if_neg hpre]
  have hle:=hu.le;obtain⟨w1,w2⟩:=np h he hp hk hq hle hu.tab;rw[if_neg (fun x=>hpre x.2)] at w2;refine⟨⟨hle,?_,w1.trans hu.use,by rw[w2];exact hu.dec,?_⟩,by unfold cT;rw[w2]⟩
  ·rw[fd h he hp hd hk hn hs hq e (by omega),if_neg (fun x=>hpre x.2)]
   exact hu.tab
  ·have:=hu.no
   unfold iw cT at this⊢;rw[w1,w2];exact this
theorem Wf.graft(h:Wf s r gone X)(he:Ends s r p d t)(hp:dv p)(hd:d≤2)(hk:s.tk k=A)(hn:k<s.n)(hs:s.n≤128):Wf (dO s p t d k) r gone (fun u=>(X u∧u≠t)∨u=k):=by
 have hT:=sU h he hp hd hk hn hs;have htn:=h.nat hp he.le he.tab;have i1:=cq hp (show 3 - d≤3 by omega);obtain⟨f1,f2⟩:=h.fresh hk;refine⟨fun q hq=> ?_,fun q q' e e' u a b c c' x x'=> ?_,fun q e u hq hle hu=> ?_,fun j=> ?_,h.nd,fun g hg'=> ?_,fun g hg'=> ?_⟩
 ·obtain⟨e,u,hu⟩:=h.ends q hq
  have:=nq h he hp hd hk hn hs hq hu;split at this
  ·exact⟨_,_,this.1⟩
  ·exact⟨_,_,this.1⟩
 ·rw[fd h he hp hd hk hn hs a e (by omega)] at x
  rw[fd h he hp hd hk hn hs b e' (by omega)] at x';split at x<;>split at x'
  ·rename_i y y'
   obtain⟨rfl,y⟩:=y;obtain⟨rfl,y'⟩:=y';exact⟨rfl,by rw[show 4 - (d+1)=3 - d by omega];exact y.trans y'.symm⟩
  ·injection x with x;subst x
   exact absurd ⟨q',e',b,c',x'⟩ f1
  ·injection x' with x';subst x'
   exact absurd ⟨q,e,a,c,x⟩ f1
  ·exact h.inj q q' e e' u a b c c' x x'
 ·by_cases huk:u=k
  ·exact .inl (.inr huk)
  ·rw[fd h he hp hd hk hn hs hq (e+1) (by omega)] at hu
   split at hu
   ·injection hu with hu;exact absurd hu.symm huk
   have hun:=h.nat hq (by omega) hu;by_cases hut:u=t
   ·subst hut
    refine .inr ⟨(au p (3 - d:Nat)).toNat,by omega,?_⟩;unfold Go.Proofs.YtmfheghbgihdmaaGreat.dO cQ;rw[dE hun.1 hun.1 i1.1 (by omega),if_pos ⟨rfl,by omega⟩];intro h0;obtain⟨_,t2⟩:=qc (k:=(k:Int)) (by omega) (by omega) (show 0<3 - d by omega) (by omega);rw[h0,(eB (by omega)).2] at t2;cases t2
   ·rcases h.full q e u hq hle hu with hx|⟨i,hi,hw⟩
    ·exact .inl (.inl ⟨hx,hut⟩)
    ·refine .inr ⟨i,hi,?_⟩
     unfold Go.Proofs.YtmfheghbgihdmaaGreat.dO cQ;rw[dE hun.1 htn.1 i1.1 (by omega),if_neg (fun x=>hut x.1),jt hun.1,if_neg huk];exact hw
 ·rw[hT]
  show bZ s.tk k o j=o↔_;by_cases hj:j=k
  ·subst hj
   simp[ly]
  ·rw[iF _ _ hj,h.use j]
   constructor
   ·rintro(a|a)
    ·exact .inl (.inl a)
    ·exact .inr a
   ·rintro((a|a)|a)
    ·exact .inl a
    ·omega
    ·exact .inr a
 ·obtain⟨g0,gz⟩:=h.gz g hg'
  refine⟨g0,fun i hi=> ?_⟩;unfold Go.Proofs.YtmfheghbgihdmaaGreat.dO cQ;have hgk:g≠k:=fun e=>f2 (e▸hg');rw[dE g0 htn.1 i1.1 (by omega),if_neg,jt g0,if_neg hgk]
  ·exact gz i hi
  ·rintro⟨rfl,_⟩
   exact h.gt g hg' ⟨p,d,hp,he.le,he.tab⟩
 ·rw[hT]
  rintro(a|a)
  ·exact h.gt g hg' a
  ·exact f2 (a▸hg')
end graft
section prune
variable {u:Int}
abbrev fX(s:C)(p u:Int)(d:Nat):C:=cQ s p u d 0
theorem gx(h:Wf s r gone X)(hp:dv p)(hd:d≤2)(hu:bu s r p d=B u)(ht:bu s r p (d+1)=B t)(hz:∀i:Nat,i<8→az s t i=0){q:Int}(hq:dv q):
  ∀e,e≤4→bu (fX s p u d) r q e=if e=d+1∧q / aE (3 - d)=p / aE (3 - d) then F else bu s r q e:=by
 intro e;induction e with
 |zero=>intro _;rw[if_neg (by omega)];rfl
 |succ e ih=>
  intro hle;have ih:=ih (by omega);by_cases h1:e=d+1∧q / aE (3 - d)=p / aE (3 - d)
  ·rw[if_pos h1] at ih
   rw[bO ih (e+1) (by omega),if_neg (by omega)];obtain⟨rfl,hpre⟩:=h1;have hq':bu s r q (d+1)=B t:=by
    rw[←ht];exact cH s r hq hp (d+1) (by omega) (by rw[show 4 - (d+1)=3 - d by omega];exact hpre)
   have i2:=cq hq (show 3 - (d+1)≤3 by omega);refine(dJ hq' (fW (by omega) ?_)).symm;have:=hz (au q (3 - (d+1):Nat)).toNat (by omega);rwa [Int.toNat_of_nonneg i2.1] at this
  ·rw[if_neg h1] at ih
   cases hx:bu s r q e with
   |none=>
    rw[hx] at ih;rw[bO ih (e+1) (by omega),bO hx (e+1) (by omega)];simp
   |some x=>
    rw[hx] at ih;have w2:=jX (v:=0) h hp (show d≤3 by omega) hu hq (show e≤3 by omega) hx;show(bu (fX s p u d) r q e).bind _=_;rw[ih,Option.bind_some];by_cases h2:e=d∧q / aE (3 - d)=p / aE (3 - d)
    ·rw[if_pos h2] at w2
     obtain⟨rfl,hpre⟩:=h2;have hp2:e+1=e+1∧q / aE (3 - e)=p / aE (3 - e):=⟨rfl,hpre⟩;rw[fW (by omega) w2,if_pos hp2];simp
    ·rw[if_neg h2] at w2
     have hn2:¬(e+1=d+1∧q / aE (3 - d)=p / aE (3 - d)):=fun z=>h2 ⟨by omega,z.2⟩;rw[if_neg hn2];show _=(bu s r q e).bind _;rw[hx,Option.bind_some];unfold iw cT;rw[w2,je]
theorem vW(h:Wf s r gone X)(hp:dv p)(hd:d≤2)(hu:bu s r p d=B u)(ht:bu s r p (d+1)=B t)(hz:∀i:Nat,i<8→az s t i=0)(x:Int):sR (fX s p u d) r x↔sR s r x∧x≠t:=by
 constructor
 ·rintro⟨q,e,hq,hle,hx⟩
  rw[gx h hp hd hu ht hz hq e (by omega)] at hx;split at hx
  ·cases hx
  ·rename_i hne
   refine⟨⟨q,e,hq,hle,hx⟩,fun hxt=> ?_⟩;subst hxt;obtain⟨rfl,hpre⟩:=h.inj q p e (d+1) x hq hp hle (by omega) hx ht;rw[show 4 - (d+1)=3 - d by omega] at hpre;exact hne ⟨rfl,hpre⟩
 ·rintro⟨⟨q,e,hq,hle,hx⟩,hne⟩
  refine⟨q,e,hq,hle,?_⟩;rw[gx h hp hd hu ht hz hq e (by omega),if_neg]
  ·exact hx
  ·rintro⟨rfl,hpre⟩
   have:bu s r q (d+1)=bu s r p (d+1):=cH s r hq hp (d+1) (by omega) (by rw[show 4 - (d+1)=3 - d by omega];exact hpre);rw[hx,ht] at this;injection this with this
   exact hne this
theorem nr(h:Wf s r gone X)(hp:dv p)(hd:d≤2)(hu:bu s r p d=B u)(ht:bu s r p (d+1)=B t)(hz:∀i:Nat,i<8→az s t i=0){q x:Int}{e:Nat}(hq:dv q)(hx:Ends s r q e x):
  if q / aE (3 - d)=p / aE (3 - d) then Ends (fX s p u d) r q d u∧cT (fX s p u d) q u (3 - d)=En.zero
  else Ends (fX s p u d) r q e x∧cT (fX s p u d) q x (3 - e)=cT s q x (3 - e):=by
 by_cases hpre:q / aE (3 - d)=p / aE (3 - d)
 ·rw[if_pos hpre]
  have hqu:bu s r q d=B u:=by
   rw[←hu];exact cH s r hq hp d (by omega) (iQ (by omega) hpre)
  have w2:=jX (v:=0) h hp (show d≤3 by omega) hu hq (show d≤3 by omega) hqu;rw[if_pos ⟨rfl,hpre⟩] at w2;refine⟨⟨by omega,?_,(h.at_ hq (by omega) hqu).1,by rw[w2];exact(eB (by omega)).1,fW (by omega) w2⟩,jf (by omega) w2⟩;rw[gx h hp hd hu ht hz hq d (by omega),if_neg (by omega)];exact hqu
 ·rw[if_neg hpre]
  have hle:=hx.le;have w2:=jX (v:=0) h hp (show d≤3 by omega) hu hq hle hx.tab;rw[if_neg (fun y=>hpre y.2)] at w2;refine⟨⟨hle,?_,hx.use,by rw[w2];exact hx.dec,?_⟩,by unfold cT;rw[w2]⟩
  ·rw[gx h hp hd hu ht hz hq e (by omega),if_neg (fun y=>hpre y.2)]
   exact hx.tab
  ·have:=hx.no
   unfold iw cT at this⊢;rw[w2,je];exact this
theorem Wf.cut(h:Wf s r gone X)(hp:dv p)(hd:d≤2)(hu:bu s r p d=B u)(ht:bu s r p (d+1)=B t)(hz:∀i:Nat,i<8→az s t i=0):Wf (fX s p u d) r (t::gone) (fun x=>(X x∧x≠t)∨x=u):=by
 have hT:=vW h hp hd hu ht hz;have hun:=h.nat hp (show d≤3 by omega) hu;have htn:=h.nat hp (show d+1≤3 by omega) ht;have i1:=cq hp (show 3 - d≤3 by omega);have hut:t≠u:=by
  rintro rfl;have:=(h.inj p p d (d+1) t hp hp (by omega) (by omega) hu ht).1;omega
 have htT:sR s r t:=⟨p,d+1,hp,by omega,ht⟩;refine⟨fun q hq=> ?_,fun q q' e e' x a b c c' y y'=> ?_,fun q e x hq hle hx=> ?_,fun j=> ?_,?_,fun g hg=> ?_,fun g hg=> ?_⟩
 ·obtain⟨e,x,hx⟩:=h.ends q hq
  have:=nr h hp hd hu ht hz hq hx;split at this
  ·exact⟨_,_,this.1⟩
  ·exact⟨_,_,this.1⟩
 ·rw[gx h hp hd hu ht hz a e (by omega)] at y
  rw[gx h hp hd hu ht hz b e' (by omega)] at y';split at y
  ·cases y
  split at y'
  ·cases y'
  exact h.inj q q' e e' x a b c c' y y'
 ·rw[gx h hp hd hu ht hz hq (e+1) (by omega)] at hx
  split at hx
  ·cases hx
  rename_i hne;have hxn:=h.nat hq (by omega) hx;by_cases hxu:x=u
  ·exact .inl (.inr hxu)
  ·rcases h.full q e x hq hle hx with hX|⟨i,hi,hw⟩
   ·refine .inl (.inl ⟨hX,fun hxt=> ?_⟩)
    subst hxt;obtain⟨h1,hpre⟩:=h.inj q p (e+1) (d+1) x hq hp (by omega) (by omega) hx ht;obtain rfl:e=d:=by omega
    rw[show 4 - (e+1)=3 - e by omega] at hpre;exact hne ⟨rfl,hpre⟩
   ·refine .inr ⟨i,hi,?_⟩
    rw[dE hxn.1 hun.1 i1.1 (by omega),if_neg (fun y=>hxu y.1)];exact hw
 ·rw[hT,List.mem_cons]
  show s.tk j=o↔_;rw[h.use j];by_cases hj:(j:Int)=t
  ·rw[hj]
   constructor
   ·intro _;exact .inr (.inl rfl)
   ·intro _;exact .inl htT
  ·constructor
   ·rintro(a|a)
    ·exact .inl ⟨a,hj⟩
    ·exact .inr (.inr a)
   ·rintro(a|a|a)
    ·exact .inl a.1
    ·exact absurd a hj
    ·exact .inr a
 ·rw[List.nodup_cons]
  exact⟨fun hm=>h.gt t hm htT,h.nd⟩
 ·have hgu:g≠u:=by
   rcases List.mem_cons.1 hg with rfl|hg
   ·exact hut
   ·rintro rfl
    exact h.gt g hg ⟨p,d,hp,by omega,hu⟩
  have g0:0≤g:=by
   rcases List.mem_cons.1 hg with rfl|hg
   ·exact htn.1
   ·exact(h.gz g hg).1
  refine⟨g0,fun i hi=> ?_⟩;rw[dE g0 hun.1 i1.1 (by omega),if_neg (fun y=>hgu y.1)];rcases List.mem_cons.1 hg with rfl|hg
  ·exact hz i hi
  ·exact(h.gz g hg).2 i hi
 ·rw[hT]
  rintro⟨a,b⟩;rcases List.mem_cons.1 hg with rfl|hg
  ·exact b rfl
  ·exact h.gt g hg a
end prune
end
namespace Bk
theorem take_pos(l:List D)(p:Int):l.takeWhile (before p)=l.take (pos l p):=by
 conv=>rhs;rw[←split l p]
 unfold pos;rw[List.take_append_of_le_length (by rw[split];exact Nat.le_refl _),split,List.take_of_length_le (Nat.le_refl _)]
theorem drop_pos(l:List D)(p:Int):l.dropWhile (before p)=l.drop (pos l p):=by
 have h:=split l p;rw[take_pos] at h;have h2:=List.take_append_drop (pos l p) l;exact List.append_cancel_left (h.trans h2.symm)
theorem ins_eq(l:List D)(m:D):ins l m=l.take (pos l m.page)++m::l.drop (pos l m.page):=by
 unfold ins;rw[take_pos,drop_pos]
def part(l:List D)(m:D)(k i:Nat):List D:=if i≤k then l.take i else l.take k++m::(l.take i).drop k
theorem part_low{l:List D}{m:D}{k i:Nat}(h:i<k)(hi:i<l.length):part l m k (i+1)=part l m k i++[l[i]]:=by
 unfold part;rw[if_pos (by omega),if_pos (by omega),List.take_succ_eq_append_getElem hi]
theorem part_at{l:List D}{m:D}{i:Nat}(hi:i<l.length):part l m i (i+1)=part l m i i++[m]++[l[i]]:=by
 unfold part;rw[if_neg (by omega),if_pos (Nat.le_refl _),List.take_succ_eq_append_getElem hi,List.drop_append_of_le_length (by simp;omega)];simp
theorem part_high{l:List D}{m:D}{k i:Nat}(h:k<i)(hi:i<l.length):part l m k (i+1)=part l m k i++[l[i]]:=by
 unfold part;rw[if_neg (by omega),if_neg (by omega),List.take_succ_eq_append_getElem hi,List.drop_append_of_le_length (by simp;omega)];simp
theorem part_end{l:List D}{m:D}{k:Nat}(h:k<l.length):part l m k l.length=l.take k++m::l.drop k:=by
 unfold part;rw[if_neg (by omega),List.take_of_length_le (Nat.le_refl _)]
theorem part_last(l:List D)(m:D):part l m l.length l.length++[m]=l.take l.length++m::l.drop l.length:=by
 unfold part;simp
theorem behind{l:List D}(h:Ok l){m:D}(hm:G m){i:Nat}(hi:i<l.length)(hn:dH l[i] m=A):decide (m.page<l[i].page)=decide (pos l m.page≤i):=by
 have hx:=h.chk l[i] (List.getElem_mem hi);have hb:=pos_iff h m.page hi;have h1:=(eO hx hm).1 hn;have h2:=before_iff (p:=m.page) hx;have:=hx.sp;have:=hm.sp;by_cases hp:pos l m.page≤i
 ·rw[decide_eq_true hp]
  rw[decide_eq_false (by omega)] at hb;have:¬l[i].page +br l[i].size ≤m.page:=fun e=>by rw[h2.2 e] at hb;cases hb
  exact decide_eq_true (by omega)
 ·rw[decide_eq_false hp]
  rw[decide_eq_true (by omega)] at hb;have:=h2.1 hb;exact decide_eq_false (by omega)
theorem mem_ins{l:List D}{m x:D}:x∈ins l m↔x=m∨x∈l:=by
 unfold ins;conv=>rhs;rw[←split l m.page]
 simp only[List.mem_append,List.mem_cons];constructor
 ·rintro(a|a|a)
  ·exact .inr (.inl a)
  ·exact .inl a
  ·exact .inr (.inr a)
 ·rintro(a|a|a)
  ·exact .inr (.inl a)
  ·exact .inl a
  ·exact .inr (.inr a)
end Bk
theorem sV(a b:D):dH a b=dH b a:=Bool.or_comm _ _
namespace Bk
theorem place{l:List D}(h:Ok l)(p:Int):(find l p=F∧del l p=l∧∀r,prot l p r=l)∨
  ∃hl:pos l p<l.length,E l[pos l p] p=o∧find l p=B l[pos l p]∧0≤p∧p<4096∧del l p=l.take (pos l p)++l.drop (pos l p+1)∧
   ∀r,prot l p r=l.take (pos l p)++{l[pos l p] with rights:=r}::l.drop (pos l p+1):=by
 have hf:=find_head h p;have hd:=del_head h p;have hp:=fun r=>prot_head h p r;cases e:l.dropWhile (before p) with
 |nil=>
  rw[e] at hf hd;exact .inl ⟨hf,hd,fun r=>by rw[hp r,e]⟩
 |cons y k=>
  obtain⟨hl,hy⟩:=drop_head e;rw[e] at hf hd;have hk:l.drop (pos l p+1)=k:=by
   have h1:=drop_pos l p;rw[e,List.drop_eq_getElem_cons hl] at h1;injection h1 with _ h1
   exact h1.symm
  cases ho:E y p with
  |false=>
   refine .inl ⟨?_,?_,fun r=> ?_⟩
   ·rw[hf];exact if_neg (by rw[ho];simp)
   ·rw[hd];exact if_neg (by rw[ho];simp)
   ·rw[hp r,e];exact if_neg (by rw[ho];simp)
  |true=>
   have hm:=h.chk y (hy▸List.getElem_mem hl);have hov:=ed.1 ho;have:=hm.p0;have:=hm.p1;refine .inr ⟨hl,by rw[hy];exact ho,?_,by omega,by omega,?_,fun r=> ?_⟩
   ·rw[hf,hy];exact if_pos ho
   ·rw[hd,hk,←take_pos];exact if_pos ho
   ·rw[hp r,e,hk,hy,←take_pos];exact if_pos ho
theorem over_at{l:List D}(h:Ok l){p:Int}{k:Nat}(hk:k<l.length)(ho:E l[k] p=o):k=pos l p∧find l p=B l[k]:=by
 have hb:=pos_iff h p hk;have hn:before p l[k]=A:=by unfold before;rw[ho];rfl
 rw[hn] at hb;have hge:=of_decide_eq_false hb.symm;rcases place h p with ⟨hf,_⟩|⟨hl,ho2,hf,_⟩
 ·unfold find at hf
  have:=List.find?_eq_none.1 hf l[k] (List.getElem_mem hk);exact absurd ho this
 ·by_cases e:k=pos l p
  ·subst e;exact⟨rfl,hf⟩
  ·have:=List.pairwise_iff_getElem.1 h.up (pos l p) k hl hk (by omega)
   have a:=ed.1 ho;have b:=ed.1 ho2;omega
theorem bad_at{l:List D}(h:Ok l){m:D}(hm:G m):bad l m=if h:pos l m.page<l.length then dH m l[pos l m.page] else A:=by
 have hb:=bad_head h hm;cases e:l.dropWhile (before m.page) with
 |nil=>
  have:=drop_nil e;rw[e] at hb;rw[dif_neg (by omega)];exact hb
 |cons y k=>
  obtain⟨hl,hy⟩:=drop_head e;rw[e] at hb;rw[dif_pos hl,hy,sV];exact hb
theorem bad_find{l:List D}{m:D}(hf:(find l m.page).isSome =o):bad l m=o:=by
 obtain⟨y,hy⟩:=Option.isSome_iff_exists.1 hf;have hm:=List.mem_of_find?_eq_some hy;have ho:=List.find?_some hy;exact List.any_eq_true.2 ⟨y,hm,by show(E y m.page||E m y.page)=o;rw[ho];rfl⟩
theorem addC_check{l:List D}{m:D}(h:bg m≠0):addC l m=bg m∧add l m=l:=by
 unfold addC Bk.add;exact⟨if_pos h,if_neg fun e=>h e.1⟩
theorem addC_bad{l:List D}{m:D}(h:bg m=0)(hb:bad l m=o):addC l m=4∧add l m=l:=by
 unfold addC Bk.add;exact⟨by rw[if_neg (by omega),if_pos hb],if_neg fun e=>by rw[hb] at e;cases e.2⟩
theorem addC_ok{l:List D}{m:D}(h:bg m=0)(hb:bad l m=A):addC l m=0∧add l m=l.take (pos l m.page)++m::l.drop (pos l m.page):=by
 unfold addC Bk.add;exact⟨by rw[if_neg (by omega),if_neg (by rw[hb];simp)],by rw[if_pos ⟨h,hb⟩,ins_eq]⟩
def dropR(l:List D)(p:Int):Option D:=if cZ p=o then find l p else F
def dropC(l:List D)(p:Int):Int:=if cZ p=o then(if(find l p).isSome =o then 0 else 5) else 1
def dropL(l:List D)(p:Int):List D:=if cZ p=o then del l p else l
theorem Ok.dropL{l:List D}(h:Ok l)(p:Int):Ok (dropL l p):=by
 unfold Bk.dropL;split
 ·exact h.del p
 ·exact h
def protB(p r:Int):Bool:=cZ p&&decide (0≤r)&&decide (r≤7)
def protR(l:List D)(p r:Int):Option D:=if protB p r=o then(find l p).map fun x=>{x with rights:=r} else F
def protC(l:List D)(p r:Int):Int:=if protB p r=o then(if(find l p).isSome =o then 0 else 5) else 1
def protL(l:List D)(p r:Int):List D:=if protB p r=o then prot l p r else l
theorem protB_iff{p r:Int}:protB p r=o↔0≤p∧p<4096∧0≤r∧r≤7:=by
 unfold protB cZ;simp only[Bool.and_eq_true,decide_eq_true_eq];omega
theorem Ok.protL{l:List D}(h:Ok l)(p r:Int):Ok (protL l p r):=by
 unfold Bk.protL;split
 ·rename_i hb
  have:=protB_iff.1 hb;exact h.prot p this.2.2.1 this.2.2.2
 ·exact h
def ans(l:List D)(a:Ac):An:=match find l a.page with|none=>⟨1,0,0⟩|some m=>bN m a
end Bk
def lI:Option D→Value
 |none=> .agg #[vI vK 0,vI vK 0,vI vK 0,vI vK 0]
 |some x=> .agg #[vI vK x.page,vI vK x.size,vI vK x.frame,vI vK x.rights]
def bF(s:C)(r p:Int):Option D:=if(bv s r p).e.leaf =o then B (aC (bv s r p).e (bv s r p).lev p) else F
theorem bp{s:C}{r p t:Int}{d:Nat}(hp:dv p)(h:Ends s r p d t):
  bF s r p=if(cT s p t (3 - d)).leaf =o then B (aC (cT s p t (3 - d)) ((3 - d:Nat):Int) p) else F:=by
 unfold bF;rw[ch hp.1 hp.2 h]
theorem Ends.not{s:C}{r p t:Int}{d:Nat}(h:Ends s r p d t)(ht:(cT s p t (3 - d)).there =A):cT s p t (3 - d)=En.zero∧az s t (au p (3 - d:Nat))=0:=by
 obtain⟨h1,h2⟩:=iG h.dec;have h3:cT s p t (3 - d)=En.zero:=dL h1 ht;refine⟨h3,?_⟩;unfold cT at h3;rw[h3] at h2;rw[←h2];unfold bx;rw[if_neg (by simp[En.zero])]
theorem Ends.leafOf{s:C}{r p t:Int}{d:Nat}(h:Ends s r p d t)(ht:(cT s p t (3 - d)).there =o):(cT s p t (3 - d)).leaf =o:=by
 rcases h.stop with e|e
 ·rw[ht] at e;cases e
 ·exact e
theorem iy{e:En}{L:Nat}{p:Int}(hp:dv p)(hf:ak e L=0)(hl:e.leaf=o)(hs:br L=aE L):aC e L p=⟨p / aE L*aE L,L,e.frame,e.rights⟩:=by
 unfold aC;rw[if_pos ⟨hf,hl,hp.1,hp.2⟩,hs]
theorem fp{L:Nat}(h:L<3):br L=aE L:=by
 have:L=0∨L=1∨L=2:=by omega
 rcases this with rfl|rfl|rfl<;>rfl
theorem ns{L:Nat}(h:L<3)(b p:Int)(f ri:Int):E ⟨b*aE L,L,f,ri⟩ p=decide (p / aE L=b):=by
 have hs:=fp h;have h8:=fo L;have hL:L=0∨L=1∨L=2:=by omega
 cases ho:E ⟨b*aE L,L,f,ri⟩ p with
 |true=>
  have:=ed.1 ho;dsimp only at this;rw[hs] at this;symm;refine decide_eq_true ?_;rcases hL with rfl|rfl|rfl<;>simp[aE] at this⊢ <;>omega
 |false=>
  have:=dD.1 ho;dsimp only at this;rw[hs] at this;symm;refine decide_eq_false ?_;rcases hL with rfl|rfl|rfl<;>simp[aE] at this⊢ <;>omega
theorem Ends.map{s:C}{r p t:Int}{d:Nat}(hp:dv p)(h:Ends s r p d t)(hl:(cT s p t (3 - d)).leaf =o):
  3 - d<3∧aC (cT s p t (3 - d)) ((3 - d:Nat):Int) p=⟨p / aE (3 - d)*aE (3 - d),((3 - d:Nat):Int),(cT s p t (3 - d)).frame,(cT s p t (3 - d)).rights⟩∧
  ∀q,E (aC (cT s p t (3 - d)) ((3 - d:Nat):Int) p) q=decide (q / aE (3 - d)=p / aE (3 - d)):=by
 obtain⟨_,_,h3,_,hf⟩:=iv h.dec hl;have h3':3 - d<3:=by omega
 have e:=iy hp hf hl (fp h3');refine⟨h3',e,fun q=> ?_⟩;have e':aC (cT s p t (3 - d)) ((3 - d:Nat):Int) p=⟨p / aE (3 - d)*aE (3 - d),((3 - d:Nat):Int),(cT s p t (3 - d)).frame,(cT s p t (3 - d)).rights⟩:=e;rw[e'];exact ns h3' _ _ _ _
theorem Wf.overMap{s:C}{r:Int}{gone:List Int}{X:Int→Prop}(_:Wf s r gone X){p q:Int}{m:D}(hp:dv p)(hq:dv q)(hm:bF s r p=B m)(ho:E m q=o)(hw:Wf s r gone X):bF s r q=B m:=by
 obtain⟨d,t,he⟩:=hw.ends p hp;rw[bp hp he] at hm;split at hm
 ·rename_i hl
  injection hm with hm
  obtain⟨h3,e1,e2⟩:=he.map hp hl;rw[←hm,e2 q] at ho;have hpre:=of_decide_eq_true ho;obtain⟨hq',e3⟩:=he.same hp hq hpre;rw[bp hq hq',e3,if_pos hl,←hm];have hl':=hl;rw[←e3] at hl';rw[←e3,(hq'.map hq hl').2.1,e3,e1,hpre]
 ·cases hm
theorem Wf.self{s:C}{r:Int}{gone:List Int}{X:Int→Prop}(hw:Wf s r gone X){p:Int}{m:D}(hp:dv p)(hm:bF s r p=B m):E m p=o∧G m:=by
 obtain⟨d,t,he⟩:=hw.ends p hp;rw[bp hp he] at hm;split at hm
 ·rename_i hl
  injection hm with hm
  obtain⟨h3,e1,e2⟩:=he.map hp hl;subst hm;refine⟨by rw[e2 p];exact decide_eq_true rfl,?_⟩;have hf:=(iG he.dec).1;have ht:=(iv he.dec hl).1;have hk:=dM hf ht;have hs:=fp h3;have h8:=fo (3 - d);have hL:=hk.leaf hl;have k1:0≤(cT s p t (3 - d)).rights :=hk.r0;have k2:(cT s p t (3 - d)).rights ≤7:=hk.r7;have k3:0≤(cT s p t (3 - d)).frame :=hk.f0;have k4:(cT s p t (3 - d)).frame <1048576:=hk.f1;have k5:(cT s p t (3 - d)).frame % br ((3 - d:Nat):Int)=0:=hL.2;rw[hs] at k5;rw[e1];have hp':0≤p∧p<4096:=hp;have hd:3 - d=0∨3 - d=1∨3 - d=2:=by omega
  refine eN ?_;unfold bg;dsimp only;rw[hs];rw[if_neg (by omega),if_neg,if_neg]
  ·rw[Int.mul_emod_left]
   omega
  ·generalize (cT s p t (3 - d)).rights =ri at*
   generalize (cT s p t (3 - d)).frame =fr at*
   clear e1 e2 hf ht hl he hk hL k5 hs h8;rcases hd with h|h|h<;>rw[h]<;>simp only[aE]<;>omega
 ·cases hm
def dP(s:C)(p lw:Int)(sz:Nat):Nat→Int→C
 |0,t=>s.setW t.toNat (au p sz).toNat lw
 |n+1,t=>match s.top with
  |some k=>dP ((s.take k).setW t.toNat (au p (sz+n+1:Nat)).toNat (iR k (sz+n+1))) p lw sz n k
  |none=>s
theorem ju{s:C}(h:0<s.frees.length):∃k,s.top=B k:=by
 have:=Ms.frees_top s;cases ht:s.top with
 |some k=>exact⟨k,rfl⟩
 |none=>
  rw[ht] at this;have:=List.getLast?_eq_none_iff.1 this;rw[this] at h;cases h
theorem jY{s:C}{k:Nat}(h:s.top=B k):(s.take k).frees.length +1=s.frees.length:=by
 have:=congrArg List.length (Ms.frees_take s k h);rw[List.length_append,List.length_singleton] at this;exact this
theorem uS(s:C)(p t:Int)(d k:Nat):dO s p t d k=(s.take k).setW t.toNat (au p (3 - d:Nat)).toNat (iR k (3 - d)):=rfl
theorem nt{k:Int}(h0:0≤k)(h1:k<1048576){L:Nat}(hL:0<L)(hL3:L≤3):0≤iR k L∧iR k L<18446744073709551616:=by
 have hf:=rL h0 h1 hL hL3;have:=jQ (dM hf rfl);unfold iR bx;rw[if_pos ⟨hf,rfl⟩];omega
theorem uT{p lw:Int}{sz:Nat}(hp:dv p)(h3:sz<3)(hc:bC lw sz=0)(hl:(aF lw sz).leaf =o)(hlw:0≤lw∧lw<18446744073709551616):∀(n d:Nat) (t:Int) (s:C) (r:Int) (gone:List Int) (X:Int→Prop),sz+n+d=3→s.Inv→s.n≤128→n≤s.frees.length→
  Wf s r gone X→(∀u,X u→u=t)→Ends s r p d t→(cT s p t (3 - d)).there =A→
  Wf (dP s p lw sz n t) r gone (fun _=>False)∧(dP s p lw sz n t).Inv ∧(dP s p lw sz n t).n =s.n∧(dP s p lw sz n t).frees.length +n=s.frees.length∧
  ∀q,dv q→if q / aE sz=p / aE sz then bF (dP s p lw sz n t) r q=B (aC (aF lw sz) sz q)∧(bv (dP s p lw sz n t) r q).e =aF lw sz else(bF (dP s p lw sz n t) r q=bF s r q∧(bF s r q≠F→bv (dP s p lw sz n t) r q=bv s r q)):=by
 intro n;induction n with
 |zero=>
  intro d t s r gone X hd hi hn hf hw hX he ht;have e3:3 - d=sz:=by omega
  have hv:kv lw (3 - d):=by
   rw[e3];exact⟨hc,fun h=>by rw[hl] at h;cases h.2⟩
  have hlw0:lw≠0:=by
   intro h0;rw[h0,(eB (by omega)).2] at hl;cases hl
  have hW:=hw.put hp he.le he.tab he.no hv;have es:dP s p lw sz 0 t=cQ s p t d lw:=by unfold dP cQ;rw[e3]
  rw[es];refine⟨hW.mono ?_,hi.setW _ _ hlw,rfl,rfl,fun q hq=> ?_⟩
  ·rintro u (⟨a,b⟩|⟨a,b⟩)
   ·rcases b with b|b
    ·exact hlw0 b
    ·exact b (hX u a)
   ·exact hlw0 a
  ·obtain⟨e,u,hu⟩:=hw.ends q hq
   obtain⟨hu',hE⟩:=nl hw hp he.le he.tab he.no hv hq hu;by_cases hpre:q / aE sz=p / aE sz
   ·rw[if_pos hpre]
    rw[←e3] at hpre;obtain⟨hs,_⟩:=he.same hp hq hpre;obtain⟨rfl,rfl⟩:=hs.unique hu;rw[if_pos ⟨rfl,hpre⟩] at hE;rw[bp hq hu',hE,ch hq.1 hq.2 hu',hE,e3,if_pos hl];exact⟨rfl,rfl⟩
   ·rw[if_neg hpre]
    rw[if_neg (by rw[e3];exact fun h=>hpre h.2)] at hE;rw[bp hq hu',bp hq hu,hE];refine⟨rfl,fun _=> ?_⟩;rw[ch hq.1 hq.2 hu',ch hq.1 hq.2 hu,hE];have:cW (cQ s p t d lw) r q (e+1)=cW s r q (e+1):=by
     unfold cW;refine List.map_congr_left fun x hx=> ?_;rw[fV hw hp he.le he.tab he.no hv hq x (by have:=List.mem_range.1 hx;have:=hu.le;omega)]
    rw[this]
 |succ n ih=>
  intro d t s r gone X hd hi hn hf hw hX he ht;obtain⟨k,hk⟩:=ju (show 0<s.frees.length by omega);obtain⟨hkn,hkt⟩:=Ms.top_lt hi hk;have hd2:d≤2:=by omega
  have e3:3 - d=sz+n+1:=by omega
  have es:dP s p lw sz (n+1) t=dP (dO s p t d k) p lw sz n k:=by
   rw[uS,e3];conv=>lhs;unfold dP
   rw[hk]
  have hG:=hw.graft he hp hd2 hkt hkn hn;have hgE:=fun q (hq:dv q) e u hu=>nq (e:=e) (u:=u) hw he hp hd2 hkt hkn hn hq hu;have hEnd:=hgE p hp d t he;rw[if_pos rfl] at hEnd;have hGi:(dO s p t d k).Inv :=(hi.take hk).setW _ _ (nt (by omega) (by omega) (by omega) (by omega));have hGf:(dO s p t d k).frees.length +1=s.frees.length:=jY hk;have hGn:(dO s p t d k).n =s.n:=rfl;have hE0:(cT (dO s p t d k) p k (3 - (d+1))).there =A:=by
   rw[show 3 - (d+1)=2 - d by omega,hEnd.2];rfl
  obtain⟨i1,i2,i3,i4,i5⟩:=ih (d+1) k (dO s p t d k) r gone _ (by omega) hGi (by omega) (by omega) hG (fun u hu=>by
   rcases hu with ⟨a,b⟩|a
   ·exact absurd (hX u a) b
   ·exact a) hEnd.1 hE0
  rw[es];refine⟨i1,i2,i3.trans hGn,by omega,fun q hq=> ?_⟩;have hm:bF (dO s p t d k) r q=bF s r q∧(bF s r q≠F→bv (dO s p t d k) r q=bv s r q):=by
   obtain⟨e,u,hu⟩:=hw.ends q hq;have hg:=hgE q hq e u hu;split at hg
   ·rename_i hpre
    obtain⟨hs,hsE⟩:=he.same hp hq hpre;obtain⟨rfl,rfl⟩:=hs.unique hu;have hz:=(he.not ht).1;have e2:bF s r q=F:=by rw[bp hq hu,hsE,hz];rfl
    rw[e2];refine⟨?_,fun h=>absurd rfl h⟩;rw[bp hq hg.1,show 3 - (d+1)=2 - d by omega,hg.2];rfl
   ·rename_i hpre
    refine⟨by rw[bp hq hg.1,hg.2,bp hq hu],fun _=> ?_⟩;rw[ch hq.1 hq.2 hg.1,ch hq.1 hq.2 hu,hg.2];have:cW (dO s p t d k) r q (e+1)=cW s r q (e+1):=by
     unfold cW;refine List.map_congr_left fun x hx=> ?_;rw[fd hw he hp hd2 hkt hkn hn hq x (by have:=List.mem_range.1 hx;have:=hu.le;omega),if_neg (fun y=>hpre y.2)]
    rw[this]
  have:=i5 q hq;split at this
  ·rename_i hpre
   rw[if_pos hpre];exact this
  ·rename_i hpre
   rw[if_neg hpre];refine⟨this.1.trans hm.1,fun hne=> ?_⟩;rw[this.2 (by rw[hm.1];exact hne),hm.2 hne]
def dx(x:D):En:=⟨o,o,x.rights,A,A,x.frame⟩
def dd(s:C)(r:Int)(x:D):Int:=
 if bg x≠0 then bg x
 else if(bv s r x.page).code ≠0 then(bv s r x.page).code
 else if(bv s r x.page).e.there =o∨(bv s r x.page).lev <x.size then 4
 else if(s.frees.length:Int)< (bv s r x.page).lev - x.size then 6 else 0
def dQ(s:C)(r:Int)(x:D):C:=
 if dd s r x=0 then dP s x.page (bx (dx x) x.size) x.size.toNat ((bv s r x.page).lev - x.size).toNat ((bv s r x.page).tabs.getLastD 0) else s
def bH(s:C)(r p:Int):Int:=if(bv s r p).code ≠0 then(bv s r p).code else if(bv s r p).e.there =A then 5 else 0
def bR(s:C)(r p:Int):D:=if bH s r p=0 then aC (bv s r p).e (bv s r p).lev p else Mp.zero
def jg(s:C)(r p:Int):En:=if bH s r p=0 then(bv s r p).e else En.zero
def fz(s:C)(t:Int):Bool:=(List.range 8).all fun i=>az s t i==0
def ej(p:Int)(tabs:List Int):Nat→C→C×List Int
 |0,s=>(s.setW (tabs.getD 0 0).toNat (au p (3:Nat)).toNat 0,[])
 |k+1,s=>
  if fz (s.setW (tabs.getD (k+1) 0).toNat (au p (3 - (k+1):Nat)).toNat 0) (tabs.getD (k+1) 0)=o then
   ((ej p tabs k (s.setW (tabs.getD (k+1) 0).toNat (au p (3 - (k+1):Nat)).toNat 0)).1,tabs.getD (k+1) 0::(ej p tabs k (s.setW (tabs.getD (k+1) 0).toNat (au p (3 - (k+1):Nat)).toNat 0)).2)
  else(s.setW (tabs.getD (k+1) 0).toNat (au p (3 - (k+1):Nat)).toNat 0,[])
def dr(s:C)(r p:Int):C:=if bH s r p=0 then(ej p (bv s r p).tabs ((bv s r p).tabs.length - 1) s).1 else s
def fA(s:C)(r p:Int):List Int:=if bH s r p=0 then(ej p (bv s r p).tabs ((bv s r p).tabs.length - 1) s).2 else []
def iS(s:C)(r p ri:Int):Int:=if ri<0∨7<ri then 1 else bH s r p
def li(s:C)(r p ri:Int):D:=if iS s r p ri=0 then {bR s r p with rights:=ri} else Mp.zero
def gV(s:C)(r p ri:Int):C:=
 if iS s r p ri=0 then s.setW ((bv s r p).tabs.getLastD 0).toNat (au p (bv s r p).lev).toNat (bx {(bv s r p).e with rights:=ri} (bv s r p).lev) else s
theorem nu{s:C}{t:Int}:fz s t=o↔∀i:Nat,i<8→az s t i=0:=by
 unfold fz;rw[List.all_eq_true];constructor
 ·intro h i hi
  have:=h i (List.mem_range.2 hi);simpa using this
 ·intro h i hi
  have:=h i (List.mem_range.1 hi);simpa using this
theorem jv{s:C}{r p t:Int}{d:Nat}(h:bu s r p d=B t):(cW s r p (d+1)).getLastD 0=t:=by rw[jr h];simp
theorem jh{s:C}{r p t:Int}{d n:Nat}(h:bu s r p d=B t)(hn:d<n):(cW s r p n).getD d 0=t:=by
 unfold cW;rw[List.getD_eq_getElem?_getD,List.getElem?_map,List.getElem?_range hn];simp[h]
theorem jZ{s:C}{r:Int}{gone:List Int}{X:Int→Prop}(hw:Wf s r gone X){p:Int}(hp:dv p):(bv s r p).code =0∧((bv s r p).e.there =o↔(bv s r p).e.leaf =o):=by
 obtain⟨d,t,he⟩:=hw.ends p hp;rw[ch hp.1 hp.2 he];refine⟨rfl,fun h=>he.leafOf h,fun h=>(iv he.dec h).1⟩
theorem qd{s:C}{r p:Int}(hp:¬dv p):(bv s r p).code =1:=by
 unfold bv;rw[if_neg]
 ·rfl
 ·unfold cZ
  rw[Bool.and_eq_true,decide_eq_true_eq,decide_eq_true_eq];exact hp
section
variable {s:C} {r:Int} {gone:List Int} {X:Int→Prop}
theorem Wf.find(hw:Wf s r gone X){p:Int}(hp:dv p):bH s r p=(if(bF s r p).isSome then 0 else 5)∧bR s r p=(bF s r p).getD Mp.zero:=by
 obtain⟨h1,h2⟩:=jZ hw hp;unfold bR bH bF;rw[h1,if_neg (by simp)];by_cases hl:(bv s r p).e.leaf =o
 ·have ht:=h2.2 hl
  rw[if_pos hl,if_neg (by rw[ht];simp)];simp
 ·have ht:(bv s r p).e.there =A:=by
   cases h:(bv s r p).e.there with
   |true=>exact absurd (h2.1 h) hl
   |false=>rfl
  rw[if_neg hl,if_pos ht];simp
theorem Wf.no_root(hw:Wf s r gone (fun u=>u=r)):Wf s r gone (fun _=>False):=by
 refine⟨hw.ends,hw.inj,fun p d t hp hd ht=> ?_,hw.use,hw.nd,hw.gz,hw.gt⟩;rcases hw.full p d t hp hd ht with rfl|h
 ·have:=(hw.inj p p (d+1) 0 t hp hp (by omega) (by omega) ht rfl).1
  omega
 ·exact .inr h
theorem Wf.no_full{t:Int}(hw:Wf s r gone (fun u=>u=t))(h:fz s t=A):Wf s r gone (fun _=>False):=by
 refine⟨hw.ends,hw.inj,fun p d u hp hd hu=> ?_,hw.use,hw.nd,hw.gz,hw.gt⟩;rcases hw.full p d u hp hd hu with rfl|h'
 ·refine .inr ?_
  apply Classical.byContradiction;intro hn;have:fz s u=o:=nu.2 fun i hi=>Classical.byContradiction fun hne=>hn ⟨i,hi,hne⟩;rw[this] at h;cases h
 ·exact .inr h'
theorem vX{p:Int}(hp:dv p):∀(k:Nat) (s:C) (r:Int) (gone:List Int) (t:Int) (tabs:List Int),k≤2→s.Inv→Wf s r gone (fun u=>u=t)→bu s r p (k+1)=B t→fz s t=o→(∀j,j≤k→tabs.getD j 0=(bu s r p j).getD 0)→
  Wf (ej p tabs k s).1 r ((ej p tabs k s).2.reverse++t::gone) (fun _=>False)∧(ej p tabs k s).1.Inv∧(ej p tabs k s).1.n=s.n∧(ej p tabs k s).1.frees=s.frees∧(∀u,(ej p tabs k s).1.tk u=s.tk u)∧
  ∀q,dv q→bF (ej p tabs k s).1 r q=bF s r q∧(bF s r q≠F→bv (ej p tabs k s).1 r q=bv s r q):=by
 intro k;induction k with
 |zero=>
  intro s r gone t tabs hk hi hw ht hz htabs;have hz':=nu.1 hz;have h0:tabs.getD 0 0=r:=htabs 0 (Nat.le_refl _);have hC:=hw.cut hp (show 0≤2 by omega) (show bu s r p 0=B r from rfl) ht hz';have es:(ej p tabs 0 s).1=fX s p r 0:=by unfold ej;rw[h0]
  have eg:(ej p tabs 0 s).2=[]:=rfl;rw[es,eg];refine⟨(hC.mono ?_).no_root,hi.setW _ _ (by omega),rfl,rfl,fun _=>rfl,fun q hq=> ?_⟩
  ·rintro u (⟨a,b⟩|a)
   ·exact absurd a b
   ·exact a
  ·obtain⟨e,x,hx⟩:=hw.ends q hq
   have hg:=nr hw hp (show 0≤2 by omega) (show bu s r p 0=B r from rfl) ht hz' hq hx;split at hg
   ·rename_i hpre
    have hq':bu s r q (0+1)=B t:=by
     rw[←ht];exact cH s r hq hp 1 (by omega) hpre
    have i2:=cq hq (show 3 - (0+1)≤3 by omega);have hw0:az s t (au q (3 - (0+1):Nat))=0:=by
     have:=hz' (au q (3 - (0+1):Nat)).toNat (by omega);rwa [Int.toNat_of_nonneg i2.1] at this
    have hnone:bF s r q=F:=by
     have he1:Ends s r q (0+1) t:=⟨by omega,hq',(hw.at_ hq (by omega) hq').1,(hw.at_ hq (by omega) hq').2,fW (by omega) hw0⟩;rw[bp hq he1,jf (by omega) hw0];rfl
    rw[hnone];refine⟨?_,fun h=>absurd rfl h⟩;rw[bp hq hg.1,hg.2];rfl
   ·rename_i hpre
    refine⟨by rw[bp hq hg.1,hg.2,bp hq hx],fun _=> ?_⟩;rw[ch hq.1 hq.2 hg.1,ch hq.1 hq.2 hx,hg.2];have:cW (fX s p r 0) r q (e+1)=cW s r q (e+1):=by
     unfold cW;refine List.map_congr_left fun y hy=> ?_;rw[gx hw hp (show 0≤2 by omega) (show bu s r p 0=B r from rfl) ht hz' hq y (by have:=List.mem_range.1 hy;have:=hx.le;omega),if_neg (fun z=>hpre z.2)]
    rw[this]
 |succ k ih=>
  intro s r gone t tabs hk hi hw ht hz htabs;have hz':=nu.1 hz;obtain⟨u,hu⟩:=eU ht (show k+1≤k+1+1 by omega);have h0:tabs.getD (k+1) 0=u:=by rw[htabs (k+1) (Nat.le_refl _),hu];rfl
  have hC:=hw.cut hp (show k+1≤2 by omega) hu ht hz';have hCi:(fX s p u (k+1)).Inv :=hi.setW _ _ (by omega);have hmap:∀q,dv q→bF (fX s p u (k+1)) r q=bF s r q∧(bF s r q≠F→bv (fX s p u (k+1)) r q=bv s r q):=by
   intro q hq;obtain⟨e,x,hx⟩:=hw.ends q hq;have hg:=nr hw hp (show k+1≤2 by omega) hu ht hz' hq hx;split at hg
   ·rename_i hpre
    have hq':bu s r q (k+1+1)=B t:=by
     rw[←ht];exact cH s r hq hp (k+1+1) (by omega) (by rw[show 4 - (k+1+1)=3 - (k+1) by omega];exact hpre)
    have i2:=cq hq (show 3 - (k+1+1)≤3 by omega);have hw0:az s t (au q (3 - (k+1+1):Nat))=0:=by
     have:=hz' (au q (3 - (k+1+1):Nat)).toNat (by omega);rwa [Int.toNat_of_nonneg i2.1] at this
    have hnone:bF s r q=F:=by
     have he1:Ends s r q (k+1+1) t:=⟨by omega,hq',(hw.at_ hq (by omega) hq').1,(hw.at_ hq (by omega) hq').2,fW (by omega) hw0⟩;rw[bp hq he1,jf (by omega) hw0];rfl
    rw[hnone];refine⟨?_,fun h=>absurd rfl h⟩;rw[bp hq hg.1,hg.2];rfl
   ·rename_i hpre
    refine⟨by rw[bp hq hg.1,hg.2,bp hq hx],fun _=> ?_⟩;rw[ch hq.1 hq.2 hg.1,ch hq.1 hq.2 hx,hg.2];have:cW (fX s p u (k+1)) r q (e+1)=cW s r q (e+1):=by
     unfold cW;refine List.map_congr_left fun y hy=> ?_;rw[gx hw hp (show k+1≤2 by omega) hu ht hz' hq y (by have:=List.mem_range.1 hy;have:=hx.le;omega),if_neg (fun z=>hpre z.2)]
    rw[this]
  have hX:Wf (fX s p u (k+1)) r (t::gone) (fun x=>x=u):=hC.mono (by
   rintro x (⟨a,b⟩|a)
   ·exact absurd a b
   ·exact a)
  have hpar:∀j,j≤k+1→bu (fX s p u (k+1)) r p j=bu s r p j:=fun j hj=>by
   rw[gx hw hp (show k+1≤2 by omega) hu ht hz' hp j (by omega),if_neg (by omega)]
  have ez:s.setW (tabs.getD (k+1) 0).toNat (au p (3 - (k+1):Nat)).toNat 0=fX s p u (k+1):=by rw[h0]
  unfold ej;rw[ez,h0];by_cases hzu:fz (fX s p u (k+1)) u=o
  ·rw[if_pos hzu]
   obtain⟨i1,i2,i3,i4,i5,i6⟩:=ih (fX s p u (k+1)) r (t::gone) u tabs (by omega) hCi hX (by rw[hpar (k+1) (by omega)];exact hu) hzu (fun j hj=>by rw[hpar j (by omega)];exact htabs j (by omega));refine⟨?_,i2,i3,i4,i5,fun q hq=> ?_⟩
   ·rw[List.reverse_cons,List.append_assoc]
    exact i1
   ·have a:=i6 q hq
    have b:=hmap q hq;refine⟨a.1.trans b.1,fun hne=> ?_⟩;rw[a.2 (by rw[b.1];exact hne),b.2 hne]
  ·rw[if_neg hzu]
   exact⟨hX.no_full (by simpa using hzu),hCi,rfl,rfl,fun _=>rfl,hmap⟩
end
end Go.Proofs.YtmfheghbgihdmaaGreat
