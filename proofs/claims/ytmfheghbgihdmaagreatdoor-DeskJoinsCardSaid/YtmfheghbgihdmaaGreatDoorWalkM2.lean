/- A list of mappings is all ways: the plain law, with no program in sight. -/
import Derived.Test.YtmfheghbgihdmaaGreatDoorSep
namespace Go.Proofs.YtmfheghbgihdmaaGreatDoor
open Go.Value renaming int→vI
open Go.IntKind renaming i64→vK
open Bool renaming true→o,false→A
open Option renaming some→B,none→E
open Go.Proofs.YtmfheghbgihdmaaGreatDoor renaming Ms→C,over→D,Mp→F,MapOk→G
open Go.RowKit
theorem dD(n:Nat):az (n+1)=8*az n:=rfl
theorem dE:∀n:Nat,0<az n
 |0=>by decide
 |n+1=>by have:=dE n;rw[dD];omega
theorem gO{w l:Int}(hc:bv w l=0)(hl:(aC w l).leaf =o):(aC w l).there =o∧0≤l∧l<3∧bE l=az l.toNat∧ao (aC w l) l=0:=by
 have hf:=(gh hc).1;have ht:(aC w l).there =o:=by
  cases h:(aC w l).there with
  |true=>rfl
  |false=>
   have:=dy hf h;rw[this] at hl;cases hl
 have hk:=dB hf ht;have h3:=(hk.leaf hl).1;have h0:=hk.l0;refine⟨ht,h0,h3,?_,hf⟩;have:l=0∨l=1∨l=2:=by omega
 rcases this with rfl|rfl|rfl<;>rfl
def fX(s:C)(L:Nat)(t a:Int)(i:Nat):List F:=
 let e:=aC (ar s t i) L
 if e.leaf=o then [aK e L ((a*8+i)*az L)] else if e.there=o then bH (gj s L e.frame (a*8+i)).vs else []
def dQ(s:C)(L:Nat)(t a:Int)(i:Nat):List Int:=
 let e:=aC (ar s t i) L
 if e.there=o∧e.leaf=A then e.frame::bL (gj s L e.frame (a*8+i)).vs else []
theorem lc(v:kN)(l:List kN):bH (v::l)=(if v.e.leaf=o then [aK v.e v.lev (v.at_*az v.lev.toNat)] else [])++bH l:=by
 unfold bH;rw[List.filterMap_cons];split<;>rename_i h<;>(split at h<;>simp_all)
theorem im(a b:List kN):bH (a++b)=bH a++bH b:=List.filterMap_append
theorem ld(v:kN)(l:List kN):bL (v::l)=(if v.e.there=o∧v.e.leaf=A then [v.e.frame] else [])++bL l:=by
 unfold bL;rw[List.filterMap_cons];split<;>rename_i h<;>(split at h<;>simp_all)
theorem io(a b:List kN):bL (a++b)=bL a++bL b:=List.filterMap_append
theorem lx(s:C)(L:Nat)(t a:Int):∀is:List Nat,(cK s L t a (gj s L) is).code =0→
  (∀i∈is,bv (ar s t i) L=0∧((aC (ar s t i) L).there =o∧(aC (ar s t i) L).leaf =A→(gj s L (aC (ar s t i) L).frame (a*8+i)).code =0))∧
  bH (cK s L t a (gj s L) is).vs =is.flatMap (fX s L t a)∧bL (cK s L t a (gj s L) is).vs =is.flatMap (dQ s L t a)
 | [],_=>⟨fun i h=>(by cases h),rfl,rfl⟩
 |i::is,hc=>by
  unfold cK at hc⊢;by_cases hd:bv (ar s t i) L=0
  ·rw[if_neg (by rw[hd];simp)] at hc⊢
   dsimp only at hc⊢;by_cases he:(aC (ar s t i) L).there =o∧(aC (ar s t i) L).leaf =A
   ·rw[if_pos he] at hc⊢
    by_cases hr:(gj s L (aC (ar s t i) L).frame (a*8+i)).code =0
    ·rw[if_neg (by rw[hr];simp)] at hc⊢
     obtain⟨h1,h2,h3⟩:=lx s L t a is hc;refine⟨fun j hj=> ?_,?_,?_⟩
     ·rcases List.mem_cons.1 hj with rfl|hj
      ·exact⟨hd,fun _=>hr⟩
      ·exact h1 j hj
     ·rw[lc,im,h2,List.flatMap_cons]
      show _++(_++_)=fX s L t a i++_;unfold fX;dsimp only;rw[he.2,he.1];simp
     ·rw[ld,io,h3,List.flatMap_cons]
      show _++(_++_)=dQ s L t a i++_;unfold dQ;dsimp only;rw[if_pos he,if_pos he];simp
    ·rw[if_pos hr] at hc
     exact absurd hc hr
   ·rw[if_neg he] at hc⊢
    rw[if_neg (by simp)] at hc⊢;obtain⟨h1,h2,h3⟩:=lx s L t a is hc;refine⟨fun j hj=> ?_,?_,?_⟩
    ·rcases List.mem_cons.1 hj with rfl|hj
     ·exact⟨hd,fun h=>absurd h he⟩
     ·exact h1 j hj
    ·rw[lc,List.nil_append,h2,List.flatMap_cons]
     show _++_=fX s L t a i++_;unfold fX;dsimp only;by_cases hf:(aC (ar s t i) L).leaf =o
     ·rw[if_pos hf,if_pos hf]
      simp
     ·rw[if_neg hf,if_neg hf,if_neg (fun ht=>he ⟨ht,by simpa using hf⟩)]
    ·rw[ld,List.nil_append,h3,List.flatMap_cons]
     show _++_=dQ s L t a i++_;unfold dQ;dsimp only;rw[if_neg he,if_neg he]
  ·rw[if_pos hd] at hc
   exact absurd hc hd
theorem Av{α:Type}(f:Nat→List α)(k:Nat)(hk:k<8)(h:∀i,i<8→i≠k→f i=[]):(List.range 8).flatMap f=f k:=by
 have e:List.range 8=[0,1,2,3,4,5,6,7]:=rfl;rw[e];have hk':k=0∨k=1∨k=2∨k=3∨k=4∨k=5∨k=6∨k=7:=by omega
 rcases hk' with rfl|rfl|rfl|rfl|rfl|rfl|rfl|rfl<;>
  simp (config:={decide:=o}) only[List.flatMap_cons,List.flatMap_nil,h 0,h 1,h 2,h 3,h 4,h 5,h 6,h 7,List.nil_append,List.append_nil]
theorem tK{α:Type}(f:Nat→List α)(h:∀i,i<8→f i=[]):(List.range 8).flatMap f=[]:=by
 rw[List.flatMap_eq_nil_iff];intro x hx;exact h x (List.mem_range.1 hx)
theorem qq{α β:Type}(p:β→Bool)(f:α→List β)(l:List α):(l.flatMap f).filter p=l.flatMap fun x=>(f x).filter p:=by
 induction l with
 |nil=>rfl
 |cons x l ih=>rw[List.flatMap_cons,List.flatMap_cons,List.filter_append,ih]
theorem n8{w:Int}{L:Nat}(hc:bv w L=0)(hl:(aC w L).leaf =o){b p:Int}(hb:0≤b)(hb':b*az L<4096)(hp:0≤p):
  D (aK (aC w L) L (b*az L)) p=decide (p / az L=b)∧(p / az L=b→p<4096→aK (aC w L) L (b*az L)=aK (aC w L) L p):=by
 obtain⟨ht,h0,h3,hs,hf⟩:=gO hc hl;rw[Int.toNat_natCast] at hs;have hpos:=dE L;have hbp:0≤b*az L:=Int.mul_nonneg hb (Int.le_of_lt hpos);have e1:aK (aC w L) L (b*az L)=⟨b*az L,L,(aC w L).frame,(aC w L).rights⟩:=by
  unfold aK;rw[if_pos ⟨hf,hl,hbp,hb'⟩,hs,Int.mul_ediv_cancel _ (by omega)]
 have hL:L=0∨L=1∨L=2:=by omega
 rw[e1];constructor
 ·unfold D
  dsimp only;rw[hs];rcases hL with rfl|rfl|rfl
  ·show(decide (b*1≤p)&&decide (p - b*1<1))=decide (p / 1=b)
   by_cases h:p / 1=b
   ·rw[decide_eq_true h,decide_eq_true (by omega),decide_eq_true (by omega)];rfl
   ·rw[decide_eq_false h,Bool.and_eq_false_iff,decide_eq_false_iff_not,decide_eq_false_iff_not];omega
  ·show(decide (b*8≤p)&&decide (p - b*8<8))=decide (p / 8=b)
   by_cases h:p / 8=b
   ·rw[decide_eq_true h,decide_eq_true (by omega),decide_eq_true (by omega)];rfl
   ·rw[decide_eq_false h,Bool.and_eq_false_iff,decide_eq_false_iff_not,decide_eq_false_iff_not];omega
  ·show(decide (b*64≤p)&&decide (p - b*64<64))=decide (p / 64=b)
   by_cases h:p / 64=b
   ·rw[decide_eq_true h,decide_eq_true (by omega),decide_eq_true (by omega)];rfl
   ·rw[decide_eq_false h,Bool.and_eq_false_iff,decide_eq_false_iff_not,decide_eq_false_iff_not];omega
 ·intro h hp2
  unfold aK;rw[if_pos ⟨hf,hl,hp,hp2⟩,hs,h]
theorem Ba{L:Nat}(hL:L≤3){a:Int}(_:0≤a)(h:a*az (L+1)<4096){i:Nat}(hi:i<8):(a*8+i)*az L<4096:=by
 have:L=0∨L=1∨L=2∨L=3:=by omega
 rcases this with rfl|rfl|rfl|rfl<;>simp[az] at h⊢ <;>omega
theorem qs{p:Int}(h0:0≤p)(h1:p<4096){L:Nat}(hL:L≤3):ai p L=((p / az L % 8).toNat :Int):=by
 unfold ai;rw[if_pos ⟨h0,h1,by omega,by omega⟩,Int.toNat_natCast];omega
theorem n9(s:C)(p:Int)(hp0:0≤p)(hp1:p<4096)(L:Nat)(hL:L≤3)(t a:Int)(acc:List Int)
  (ih:∀K,L=K+1→∀(t a:Int) (acc:List Int),(bV s K t a).code =0→0≤a→a*az (K+1)<4096→
   (p / az (K+1)≠a→(bH (bV s K t a).vs).filter (fun m=>D m p)=[])∧
   (p / az (K+1)=a→(cQ s p K t acc).code =0∧
    (bH (bV s K t a).vs).filter (fun m=>D m p)=(if(cQ s p K t acc).e.leaf =o then [aK (cQ s p K t acc).e (cQ s p K t acc).lev p] else [])∧
    (cQ s p K t acc).e.there =(cQ s p K t acc).e.leaf ∧∀x∈(cQ s p K t acc).tabs,x∈acc∨x=t∨x∈bL (bV s K t a).vs))
  (hc:(bV s L t a).code =0) (ha:0≤a) (hb:a*az (L+1)<4096):
  (p / az (L+1)≠a→(bH (bV s L t a).vs).filter (fun m=>D m p)=[])∧
  (p / az (L+1)=a→(cQ s p L t acc).code =0∧
   (bH (bV s L t a).vs).filter (fun m=>D m p)=(if(cQ s p L t acc).e.leaf =o then [aK (cQ s p L t acc).e (cQ s p L t acc).lev p] else [])∧
   (cQ s p L t acc).e.there =(cQ s p L t acc).e.leaf ∧∀x∈(cQ s p L t acc).tabs,x∈acc∨x=t∨x∈bL (bV s L t a).vs):=by
 rw[iy] at hc⊢;cases hh:s.has t with
 |false=>rw[hh] at hc;cases hc
 |true=>
  rw[hh] at hc;rw[if_neg (by simp)] at hc⊢;obtain⟨h1,h2,h3⟩:=lx s L t a (List.range 8) hc;rw[h2,h3];have hdiv:p / az (L+1)=p / az L / 8:=by
   have:=dE L;rw[dD,Int.mul_comm,Int.ediv_ediv_of_nonneg (by omega)]
  have hpos:=dE L;have hq:0≤p / az L:=Int.ediv_nonneg hp0 (by omega);have hix:=qs hp0 hp1 hL;rw[hdiv,qq];generalize hqq:p / az L=q at*
  have hoff:∀i:Nat,i<8→q≠a*8+i→(fX s L t a i).filter (fun m=>D m p)=[]:=fun i hi hne=>by
   obtain⟨hd,hsub⟩:=h1 i (List.mem_range.2 hi);have hbi:=Ba hL ha hb hi;unfold fX;dsimp only;split
   ·rename_i hl
    have:=(n8 hd hl (show 0≤a*8+(i:Int) by omega) hbi hp0).1;rw[hqq,decide_eq_false hne] at this;rw[List.filter_cons,this];rfl
   ·rename_i hl
    split
    ·rename_i ht
     have hl':(aC (ar s t i) L).leaf =A:=by simpa using hl
     have hcs:=hsub ⟨ht,hl'⟩;cases L with
     |zero=>cases hcs
     |succ K=>
      refine(ih K rfl (aC (ar s t i) (K+1:Nat)).frame (a*8+i) [] hcs (by omega) hbi).1 ?_;rw[hqq];exact hne
    ·rfl
  refine⟨fun hne=>tK _ fun i hi=>hoff i hi (by omega),fun he=> ?_⟩;have hi8:(q % 8).toNat <8:=by omega
  have hon:q=a*8+((q % 8).toNat :Int):=by omega
  rw[Av _ (q % 8).toNat hi8 (fun i hi hne=>hoff i hi (by omega))];obtain⟨hd,hsub⟩:=h1 _ (List.mem_range.2 hi8);have hbi:=Ba hL ha hb hi8;have hct:∀x∈dQ s L t a (q % 8).toNat,x∈(List.range 8).flatMap (dQ s L t a):=fun x hx=>List.mem_flatMap.2 ⟨_,List.mem_range.2 hi8,hx⟩;have hdw:=hd;rw[←hix] at hdw;by_cases hend:(aC (ar s t (ai p L)) L).there =A∨(aC (ar s t (ai p L)) L).leaf =o
  ·rw[fW hh hdw hend]
   refine⟨rfl,?_,?_,fun x hx=> ?_⟩
   ·rw[hix]
    unfold fX;dsimp only;by_cases hl:(aC (ar s t ((q % 8).toNat :Nat)) L).leaf =o
    ·rw[if_pos hl,if_pos hl]
     have:=n8 hd hl (show 0≤a*8+((q % 8).toNat :Int) by omega) hbi hp0;rw[hqq,decide_eq_true hon] at this;rw[List.filter_cons,this.1,this.2 hon hp1];rfl
    ·rw[if_neg hl,if_neg hl]
     rw[hix] at hend;have ht:(aC (ar s t ((q % 8).toNat :Nat)) L).there =A:=by
      rcases hend with h|h
      ·exact h
      ·exact absurd h hl
     rw[if_neg (by rw[ht];simp)];rfl
   ·rcases hend with h|h
    ·show(aC _ _).there =(aC _ _).leaf
     rw[h];cases hl:(aC (ar s t (ai p L)) L).leaf with
     |false=>rfl
     |true=>have:=(gO hdw hl).1;rw[h] at this;cases this
    ·show(aC _ _).there =(aC _ _).leaf
     rw[h,(gO hdw h).1]
   ·rcases List.mem_append.1 hx with hx|hx
    ·exact .inl hx
    ·exact .inr (.inl (List.mem_singleton.1 hx))
  ·obtain⟨K,hK,e⟩:=kz (acc:=acc) hh hdw hend
   rw[e];have hne:=hend;rw[not_or] at hne;have ht:(aC (ar s t (ai p L)) L).there =o:=by simpa using hne.1
   have hl:(aC (ar s t (ai p L)) L).leaf =A:=by simpa using hne.2
   subst hK;rw[hix] at ht hl⊢;have hcs:=hsub ⟨ht,hl⟩;have hi:=(ih K rfl (aC (ar s t ((q % 8).toNat :Nat)) (K+1:Nat)).frame (a*8+((q % 8).toNat :Int)) (acc++[t]) hcs (by omega) hbi).2 (by rw[hqq];exact hon);obtain⟨i1,i2,i3,i4⟩:=hi;refine⟨i1,?_,i3,fun x hx=> ?_⟩
   ·unfold fX
    dsimp only;rw[if_neg (by rw[hl];simp),if_pos ht];exact i2
   ·have hcT:dQ s (K+1) t a (q % 8).toNat =(aC (ar s t ((q % 8).toNat :Nat)) (K+1:Nat)).frame ::bL (gj s (K+1) (aC (ar s t ((q % 8).toNat :Nat)) (K+1:Nat)).frame (a*8+((q % 8).toNat :Int))).vs :=by
     unfold dQ;dsimp only;rw[if_pos ⟨ht,hl⟩]
    rcases i4 x hx with h|h|h
    ·rcases List.mem_append.1 h with h|h
     ·exact .inl h
     ·exact .inr (.inl (List.mem_singleton.1 h))
    ·exact .inr (.inr (hct x (by rw[hcT,h];exact List.mem_cons_self ..)))
    ·exact .inr (.inr (hct x (by rw[hcT];exact List.mem_cons_of_mem _ h)))
theorem vR(s:C)(p:Int)(hp0:0≤p)(hp1:p<4096):∀(L:Nat),L≤3→∀(t a:Int) (acc:List Int),(bV s L t a).code =0→0≤a→a*az (L+1)<4096→
  (p / az (L+1)≠a→(bH (bV s L t a).vs).filter (fun m=>D m p)=[])∧
  (p / az (L+1)=a→(cQ s p L t acc).code =0∧
   (bH (bV s L t a).vs).filter (fun m=>D m p)=(if(cQ s p L t acc).e.leaf =o then [aK (cQ s p L t acc).e (cQ s p L t acc).lev p] else [])∧
   (cQ s p L t acc).e.there =(cQ s p L t acc).e.leaf ∧∀x∈(cQ s p L t acc).tabs,x∈acc∨x=t∨x∈bL (bV s L t a).vs):=by
 intro L;induction L with
 |zero=>
  intro hL t a acc hc ha hb;exact n9 s p hp0 hp1 0 hL t a acc (fun K hK=>by omega) hc ha hb
 |succ L ih=>
  intro hL t a acc hc ha hb;exact n9 s p hp0 hp1 (L+1) hL t a acc (fun K hK=>by
   have e:L=K:=by omega
   subst e;exact ih (by omega)) hc ha hb
def cq(s:C)(p t:Int)(L:Nat):En:=aC (ar s t (ai p L)) L
def gP(s:C)(p t:Int)(L:Nat):Bool:=s.has t&&(decide (bv (ar s t (ai p L)) L=0)&&((cq s p t L).there && !(cq s p t L).leaf))
def aW(s:C)(r p:Int):Nat→Option Int
 |0=>B r
 |d+1=>(aW s r p d).bind fun u=>if gP s p u (3 - d)=o then B (cq s p u (3 - d)).frame else E
def ct(s:C)(r p:Int)(n:Nat):List Int:=(List.range n).map fun d=>(aW s r p d).getD 0
structure Ends (s:C) (r p:Int) (d:Nat) (t:Int):Prop where
 le:d≤3
 tab:aW s r p d=B t
 use:s.has t=o
 dec:bv (ar s t (ai p (3 - d:Nat))) (3 - d:Nat)=0
 no:gP s p t (3 - d)=A
theorem iR{s:C}{r p t:Int}{d:Nat}(h:aW s r p d=B t):ct s r p (d+1)=ct s r p d++[t]:=by
 unfold ct;rw[List.range_succ,List.map_append,List.map_singleton,h];rfl
theorem kR(s:C)(r p:Int)(n:Nat):(ct s r p n).length =n:=by simp[ct]
theorem eX{s:C}{r p t:Int}{d:Nat}:aW s r p (d+1)=B t↔∃u,aW s r p d=B u∧gP s p u (3 - d)=o∧(cq s p u (3 - d)).frame =t:=by
 show(aW s r p d).bind _=B t↔_;cases aW s r p d with
 |none=>simp
 |some u=>
  simp only[Option.bind_some,Option.some.injEq,exists_eq_left'];split
  ·rename_i h;simp[h]
  ·rename_i h;simp[h]
theorem cR{s:C}{r p t:Int}{d:Nat}(h:aW s r p d=B t)(hg:gP s p t (3 - d)=A):aW s r p (d+1)=E:=by
 show(aW s r p d).bind _=E;rw[h];simp[hg]
theorem bj{s:C}{r p:Int}{d:Nat}(h:aW s r p d=E):∀e,d≤e→aW s r p e=E:=by
 intro e he;induction he with
 |refl=>exact h
 |step _ ih=>show(aW s r p _).bind _=E;rw[ih];rfl
theorem du{s:C}{r p t:Int}{e:Nat}(h:aW s r p e=B t){d:Nat}(hd:d≤e):∃u,aW s r p d=B u:=by
 cases hh:aW s r p d with
 |some u=>exact⟨u,rfl⟩
 |none=>rw[bj hh e hd] at h;cases h
theorem iS{s:C}{p t:Int}{L:Nat}:gP s p t L=o↔s.has t=o∧bv (ar s t (ai p L)) L=0∧(cq s p t L).there =o∧(cq s p t L).leaf =A:=by
 unfold gP;simp only[Bool.and_eq_true,decide_eq_true_eq,Bool.not_eq_true']
theorem Ends.unique{s:C}{r p t u:Int}{d e:Nat}(h:Ends s r p d t)(k:Ends s r p e u):d=e∧t=u:=by
 have h1:=cR h.tab h.no;have h2:=cR k.tab k.no;have hde:d=e:=by
  rcases Nat.lt_trichotomy d e with hlt|rfl|hlt
  ·have:=bj h1 e hlt;rw[k.tab] at this;cases this
  ·rfl
  ·have:=bj h2 d hlt;rw[h.tab] at this;cases this
 subst hde;have:=h.tab.symm.trans k.tab;injection this with this
 exact⟨rfl,this⟩
theorem Ends.stop{s:C}{r p t:Int}{d:Nat}(h:Ends s r p d t):(cq s p t (3 - d)).there =A∨(cq s p t (3 - d)).leaf =o:=by
 have h1:=h.no;unfold gP at h1;rw[h.use,decide_eq_true h.dec] at h1;simp only[Bool.true_and,Bool.and_eq_false_iff,Bool.not_eq_false'] at h1;exact h1
theorem tL{s:C}{r p:Int}:∀(L d:Nat) (t:Int),L+d=3→aW s r p d=B t→∀(e:Nat) (u:Int),d≤e→Ends s r p e u→
  cQ s p L t (ct s r p d)=⟨0,ct s r p (e+1),((3 - e:Nat):Int),cq s p u (3 - e)⟩:=by
 intro L;induction L with
 |zero=>
  intro d t hL ht e u hde he;have:=he.le;obtain rfl:e=d:=by omega
  obtain rfl:t=u:=by have:=ht.symm.trans he.tab;injection this
  obtain rfl:e=3:=by omega
  rw[fW he.use he.dec he.stop,iR ht];rfl
 |succ L ih=>
  intro d t hL ht e u hde he;by_cases hd:d=e
  ·subst hd
   obtain rfl:t=u:=by have:=ht.symm.trans he.tab;injection this
   have e3:3 - d=L+1:=by omega
   have hu:=he.use;have hc:=he.dec;have hs:=he.stop;rw[e3] at hc hs⊢;rw[fW hu hc hs,iR ht];rfl
  ·obtain⟨v,hv⟩:=du he.tab (show d+1≤e by omega)
   obtain⟨t',h1,h2,h3⟩:=eX.1 hv;obtain rfl:t'=t:=by have:=h1.symm.trans ht;injection this
   have e3:3 - d=L+1:=by omega
   rw[e3] at h2 h3;obtain⟨g1,g2,g3,g4⟩:=iS.1 h2;have hne:¬((aC (ar s t' (ai p (L+1:Nat))) (L+1:Nat)).there =A∨(aC (ar s t' (ai p (L+1:Nat))) (L+1:Nat)).leaf =o):=by
    unfold cq at g3 g4;rw[g3,g4];simp
   obtain⟨K,hK,ew⟩:=kz (acc:=ct s r p d) g1 g2 hne;obtain rfl:L=K:=by omega
   rw[ew,←iR ht];have h3':(aC (ar s t' (ai p (L+1:Nat))) (L+1:Nat)).frame =v:=h3;rw[h3'];exact ih (d+1) v (by omega) hv e u (by omega) he
theorem bM{s:C}{r p t:Int}{d:Nat}(h0:0≤p)(h1:p<4096)(h:Ends s r p d t):bo s r p=⟨0,ct s r p (d+1),((3 - d:Nat):Int),cq s p t (3 - d)⟩:=by
 unfold bo;rw[if_pos (by unfold cN;rw[decide_eq_true h0,decide_eq_true h1];rfl)];exact tL 3 0 r rfl rfl d t (Nat.zero_le _) h
theorem eG(n:Nat):0<az n:=dE n
theorem gQ{p q:Int}{a b:Nat}(hab:a≤b)(h:p / az a=q / az a):p / az b=q / az b:=by
 induction hab with
 |refl=>exact h
 | @step n _ ih=>
  have:=eG n;rw[dD,Int.mul_comm,←Int.ediv_ediv_of_nonneg (by omega),←Int.ediv_ediv_of_nonneg (by omega),ih]
theorem gu{p q:Int}(hp:0≤p∧p<4096)(hq:0≤q∧q<4096){L:Nat}(h:p / az L=q / az L):ai p L=ai q L:=by
 unfold ai;by_cases hL:L<4
 ·rw[if_pos ⟨hp.1,hp.2,by omega,by omega⟩,if_pos ⟨hq.1,hq.2,by omega,by omega⟩,Int.toNat_natCast,h]
 ·rw[if_neg (by omega),if_neg (by omega)]
theorem oQ{p q:Int}(hp:0≤p∧p<4096)(hq:0≤q∧q<4096){L:Nat}(hL:L≤3)(h:p / az (L+1)=q / az (L+1))(hi:ai p L=ai q L):p / az L=q / az L:=by
 have h0:=eG L;have e:∀x:Int,x / az (L+1)=x / az L / 8:=fun x=>by rw[dD,Int.mul_comm,←Int.ediv_ediv_of_nonneg (by omega)]
 rw[e,e] at h;unfold ai at hi;rw[if_pos ⟨hp.1,hp.2,by omega,by omega⟩,if_pos ⟨hq.1,hq.2,by omega,by omega⟩,Int.toNat_natCast] at hi;omega
theorem bR{p:Int}(hp:0≤p∧p<4096){L:Nat}(hL:L≤3):0≤ai p L∧ai p L<8:=by
 unfold ai;rw[if_pos ⟨hp.1,hp.2,by omega,by omega⟩];omega
theorem xv{p q:Int}(hp:0≤p∧p<4096)(hq:0≤q∧q<4096):p / az 4=q / az 4:=by
 have:az 4=4096:=rfl;rw[this];omega
theorem tM{p:Int}(hp:0≤p∧p<4096){L:Nat}(hL:L≤3):ai p L=p / az L % 8:=by
 unfold ai;rw[if_pos ⟨hp.1,hp.2,by omega,by omega⟩,Int.toNat_natCast]
theorem ly{p:Int}(hp:0≤p∧p<4096){L:Nat}(hL:L≤3)(i:Nat)(hi:i<8):∃q,(0≤q∧q<4096)∧q / az (L+1)=p / az (L+1)∧ai q L=i∧q % az L=0:=by
 have h:(0≤(p / az (L+1)*8+i)*az L∧(p / az (L+1)*8+i)*az L<4096)∧(p / az (L+1)*8+i)*az L / az (L+1)=p / az (L+1)∧(p / az (L+1)*8+i)*az L / az L % 8=i∧(p / az (L+1)*8+i)*az L % az L=0:=by
  have hL':L=0∨L=1∨L=2∨L=3:=by omega
  rcases hL' with rfl|rfl|rfl|rfl<;>simp only[az]<;>omega
 exact⟨(p / az (L+1)*8+i)*az L,h.1,h.2.1,(tM h.1 hL).trans h.2.2.1,h.2.2.2⟩
theorem bI(s:C)(r:Int){p q:Int}(hp:0≤p∧p<4096)(hq:0≤q∧q<4096):∀(d:Nat),d≤4→p / az (4 - d)=q / az (4 - d)→aW s r p d=aW s r q d:=by
 intro d;induction d with
 |zero=>intro _ _;rfl
 |succ d ih=>
  intro hd h;have h3:p / az (3 - d)=q / az (3 - d):=by rw[show 4 - (d+1)=3 - d by omega] at h;exact h
  have hi:=gu hp hq h3;show(aW s r p d).bind _=(aW s r q d).bind _;rw[ih (by omega) (gQ (by omega) h)];congr 1
  funext u
  unfold gP cq;rw[hi]
def cH(p:Int):Prop:=0≤p∧p<4096
def rZ(s:C)(r t:Int):Prop:=∃p d,cH p∧d≤3∧aW s r p d=B t
structure Wf (s:C) (r:Int) (gone:List Int) (X:Int→Prop):Prop where
 ends:∀p,cH p→∃d t,Ends s r p d t
 inj:∀p q d e t,cH p→cH q→d≤3→e≤3→aW s r p d=B t→aW s r q e=B t→d=e∧p / az (4 - d)=q / az (4 - d)
 full:∀p d t,cH p→d<3→aW s r p (d+1)=B t→X t∨∃i:Nat,i<8∧ar s t i≠0
 use:∀k:Nat,s.tk k=o↔rZ s r k∨(k:Int)∈gone
 nd:gone.Nodup
 gz:∀g∈gone,0≤g∧∀i:Nat,i<8→ar s g i=0
 gt:∀g∈gone,¬rZ s r g
section
variable {s:C} {r:Int} {gone:List Int} {X:Int→Prop}
theorem Wf.mono{Y:Int→Prop}(h:Wf s r gone X)(hxy:∀t,X t→Y t):Wf s r gone Y:=
 ⟨h.ends,h.inj,fun p d t a b c=>(h.full p d t a b c).imp (hxy t) id,h.use,h.nd,h.gz,h.gt⟩
theorem Wf.at_(h:Wf s r gone X){p t:Int}{d:Nat}(hp:cH p)(hd:d≤3)(ht:aW s r p d=B t):
  s.has t=o∧bv (ar s t (ai p (3 - d:Nat))) (3 - d:Nat)=0:=by
 cases hg:gP s p t (3 - d) with
 |true=>have:=iS.1 hg;exact⟨this.1,this.2.1⟩
 |false=>
  obtain⟨e,u,he⟩:=h.ends p hp;have h1:=cR ht hg;have hle:e≤d:=by
   rcases Nat.lt_or_ge d e with hlt|hge
   ·have:=bj h1 e hlt;rw[he.tab] at this;cases this
   ·exact hge
  rcases Nat.lt_or_ge e d with hlt|hge
  ·have:=bj (cR he.tab he.no) d hlt;rw[ht] at this;cases this
  ·obtain rfl:e=d:=by omega
   obtain rfl:t=u:=by have:=ht.symm.trans he.tab;injection this
   exact⟨he.use,he.dec⟩
theorem Wf.nat(h:Wf s r gone X){p t:Int}{d:Nat}(hp:cH p)(hd:d≤3)(ht:aW s r p d=B t):0≤t∧t<s.n∧s.tk t.toNat=o:=Ms.has_iff.1 (h.at_ hp hd ht).1
theorem Wf.dec(h:Wf s r gone X){p t:Int}{d:Nat}(hp:cH p)(hd:d≤3)(ht:aW s r p d=B t)(i:Nat)(hi:i<8):bv (ar s t i) (3 - d:Nat)=0:=by
 obtain⟨q,hq,hpre,hix,_⟩:=ly hp (show 3 - d≤3 by omega) i hi;have e1:aW s r q d=B t:=by
  rw[←ht];exact bI s r hq hp d (by omega) (by rw[show 4 - d=3 - d+1 by omega];exact hpre)
 have:=(h.at_ hq hd e1).2;rw[hix] at this;exact this
theorem Ends.same{p q t:Int}{d:Nat}(hp:cH p)(hq:cH q)(h:Ends s r p d t)(hpre:q / az (3 - d)=p / az (3 - d)):Ends s r q d t∧cq s q t (3 - d)=cq s p t (3 - d):=by
 have hi:=gu hq hp hpre;have:=h.le;refine⟨⟨h.le,?_,h.use,by rw[hi];exact h.dec,?_⟩,by unfold cq;rw[hi]⟩
 ·rw[←h.tab]
  exact bI s r hq hp d (by omega) (gQ (by omega) hpre)
 ·have:=h.no
  unfold gP cq at this⊢;rw[hi];exact this
theorem cU{s:C}{t i u j:Int}{v:Int}(hu:0≤u)(ht:0≤t)(hi:0≤i)(hj:0≤j):ar (s.setW t.toNat i.toNat v) u j=if u=t∧j=i then v else ar s u j:=by
 show(if u.toNat=t.toNat∧j.toNat=i.toNat then v else s.wd u.toNat j.toNat)=_;by_cases h:u=t∧j=i
 ·rw[if_pos h,if_pos ⟨by rw[h.1],by rw[h.2]⟩]
 ·rw[if_neg h,if_neg (by omega)]
  rfl
theorem iD(s:C)(t i:Nat)(v u:Int):(s.setW t i v).has u=s.has u:=rfl
section leaf
variable {p t v:Int} {d:Nat}
abbrev cm(s:C)(p t:Int)(d:Nat)(v:Int):C:=s.setW t.toNat (ai p (3 - d:Nat)).toNat v
theorem zr(h:Wf s r gone X)(hp:cH p)(hd:d≤3)(ht:aW s r p d=B t){q u:Int}{e:Nat}(hq:cH q)(he:e≤3)(hu:aW s r q e=B u):
  (u=t∧ai q (3 - e:Nat)=ai p (3 - d:Nat))↔(e=d∧q / az (3 - d)=p / az (3 - d)):=by
 constructor
 ·rintro⟨rfl,hi⟩
  obtain⟨rfl,hpre⟩:=h.inj q p e d u hq hp he hd hu ht;refine⟨rfl,oQ hq hp (by omega) ?_ hi⟩;rw[show 3 - e+1=4 - e by omega];exact hpre
 ·rintro⟨rfl,hpre⟩
  have:aW s r q e=aW s r p e:=bI s r hq hp e (by omega) (gQ (by omega) hpre);rw[hu,ht] at this;injection this with this
  exact⟨this,gu hq hp hpre⟩
theorem jv(h:Wf s r gone X)(hp:cH p)(hd:d≤3)(ht:aW s r p d=B t){q u:Int}{e:Nat}(hq:cH q)(he:e≤3)(hu:aW s r q e=B u):
  ar (cm s p t d v) u (ai q (3 - e:Nat))=if e=d∧q / az (3 - d)=p / az (3 - d) then v else ar s u (ai q (3 - e:Nat)):=by
 have h1:=(h.nat hp hd ht).1;have h2:=(h.nat hq he hu).1;have i1:=bR hp (show 3 - d≤3 by omega);have i2:=bR hq (show 3 - e≤3 by omega);rw[cU h2 h1 i1.1 i2.1];have:=zr h hp hd ht hq he hu;by_cases hs:u=t∧ai q (3 - e:Nat)=ai p (3 - d:Nat)
 ·rw[if_pos hs,if_pos (this.1 hs)]
 ·rw[if_neg hs,if_neg (fun x=>hs (this.2 x))]
def jS(v:Int)(L:Nat):Prop:=bv v L=0∧¬((aC v L).there =o∧(aC v L).leaf =A)
theorem fp(h:Wf s r gone X)(hp:cH p)(hd:d≤3)(ht:aW s r p d=B t)(hg:gP s p t (3 - d)=A)(hv:jS v (3 - d)){q:Int}(hq:cH q):
  ∀e,e≤4→aW (cm s p t d v) r q e=aW s r q e:=by
 intro e;induction e with
 |zero=>intro _;rfl
 |succ e ih=>
  intro he;show(aW (cm s p t d v) r q e).bind _=(aW s r q e).bind _;rw[ih (by omega)];cases hu:aW s r q e with
  |none=>rfl
  |some u=>
   have hw:=jv (v:=v) h hp hd ht hq (show e≤3 by omega) hu;simp only[Option.bind_some];by_cases hs:e=d∧q / az (3 - d)=p / az (3 - d)
   ·rw[if_pos hs] at hw
    obtain⟨rfl,hpre⟩:=hs;have g1:gP (cm s p t e v) q u (3 - e)=A:=by
     unfold gP cq;rw[hw];have:=hv.2;cases h1:(aC v (3 - e:Nat)).there <;>cases h2:(aC v (3 - e:Nat)).leaf <;>simp_all
    have g2:gP s q u (3 - e)=A:=by
     have hix:=gu hq hp hpre;obtain⟨rfl,_⟩:=(zr h hp hd ht hq hd hu).2 ⟨rfl,hpre⟩;unfold gP cq at hg⊢;rw[hix];exact hg
    rw[g1,g2];simp
   ·rw[if_neg hs] at hw
    unfold gP cq;rw[hw,iD]
theorem xC(h:Wf s r gone X)(hp:cH p)(hd:d≤3)(ht:aW s r p d=B t)(hg:gP s p t (3 - d)=A)(hv:jS v (3 - d))(u:Int):rZ (cm s p t d v) r u↔rZ s r u:=by
 constructor
 ·rintro⟨q,e,hq,he,hu⟩
  rw[fp h hp hd ht hg hv hq e (by omega)] at hu;exact⟨q,e,hq,he,hu⟩
 ·rintro⟨q,e,hq,he,hu⟩
  rw[←fp h hp hd ht hg hv hq e (by omega)] at hu;exact⟨q,e,hq,he,hu⟩
theorem mT(h:Wf s r gone X)(hp:cH p)(hd:d≤3)(ht:aW s r p d=B t)(hg:gP s p t (3 - d)=A)(hv:jS v (3 - d)){q u:Int}{e:Nat}(hq:cH q)(he:Ends s r q e u):
  Ends (cm s p t d v) r q e u∧cq (cm s p t d v) q u (3 - e)=if e=d∧q / az (3 - d)=p / az (3 - d) then aC v (3 - d:Nat) else cq s q u (3 - e):=by
 have hle:=he.le;have hw:=jv (v:=v) h hp hd ht hq he.le he.tab;have ht':=(fp h hp hd ht hg hv hq e (by omega)).trans he.tab;by_cases hs:e=d∧q / az (3 - d)=p / az (3 - d)
 ·rw[if_pos hs] at hw⊢
  obtain⟨rfl,hpre⟩:=hs;refine⟨⟨hle,ht',he.use,by rw[hw];exact hv.1,?_⟩,by unfold cq;rw[hw]⟩;unfold gP cq;rw[hw];have:=hv.2;cases h1:(aC v (3 - e:Nat)).there <;>cases h2:(aC v (3 - e:Nat)).leaf <;>simp_all
 ·rw[if_neg hs] at hw⊢
  refine⟨⟨hle,ht',he.use,by rw[hw];exact he.dec,?_⟩,by unfold cq;rw[hw]⟩;have:=he.no;unfold gP cq at this⊢;rw[hw,iD];exact this
theorem Wf.put(h:Wf s r gone X)(hp:cH p)(hd:d≤3)(ht:aW s r p d=B t)(hg:gP s p t (3 - d)=A)(hv:jS v (3 - d)):
  Wf (cm s p t d v) r gone (fun u=>(X u∧(v=0∨u≠t))∨(v=0∧u=t)):=by
 have hT:=xC h hp hd ht hg hv;have hn:=h.nat hp hd ht;have i1:=bR hp (show 3 - d≤3 by omega);refine⟨fun q hq=> ?_,fun q q' e e' u a b c c' k k'=> ?_,fun q e u hq he hu=> ?_,fun k=> ?_,h.nd,fun g hg'=> ?_,fun g hg'=> ?_⟩
 ·obtain⟨e,u,he⟩:=h.ends q hq
  exact⟨e,u,(mT h hp hd ht hg hv hq he).1⟩
 ·rw[fp h hp hd ht hg hv a e (by omega)] at k
  rw[fp h hp hd ht hg hv b e' (by omega)] at k';exact h.inj q q' e e' u a b c c' k k'
 ·rw[fp h hp hd ht hg hv hq (e+1) (by omega)] at hu
  have hun:=h.nat hq (by omega) hu;by_cases hut:u=t
  ·subst hut
   by_cases hv0:v=0
   ·exact .inl (.inr ⟨hv0,rfl⟩)
   ·refine .inr ⟨(ai p (3 - d:Nat)).toNat,by omega,?_⟩
    rw[cU hn.1 hn.1 i1.1 (by omega),if_pos ⟨rfl,by omega⟩];exact hv0
  ·rcases h.full q e u hq he hu with hx|⟨i,hi,hw⟩
   ·exact .inl (.inl ⟨hx,.inr hut⟩)
   ·refine .inr ⟨i,hi,?_⟩
    rw[cU hun.1 hn.1 i1.1 (by omega),if_neg (fun x=>hut x.1)];exact hw
 ·rw[hT]
  exact h.use k
 ·obtain⟨g0,gz⟩:=h.gz g hg'
  refine⟨g0,fun i hi=> ?_⟩;rw[cU g0 hn.1 i1.1 (by omega),if_neg]
  ·exact gz i hi
  ·rintro⟨rfl,_⟩
   exact h.gt g hg' ⟨p,d,hp,hd,ht⟩
 ·rw[hT]
  exact h.gt g hg'
end leaf
end
theorem dC{L:Nat}(hL:L≤3):bv 0 L=0∧aC 0 L=En.zero:=by
 have h1:bv 0 L=0:=by
  unfold bv;rw[if_neg (by omega),if_neg (by unfold jo;simp),if_pos rfl]
 refine⟨h1,?_⟩;unfold aC;rw[if_neg (by simp)]
def vS(k:Int):En:=⟨o,A,7,A,A,k⟩
def iT(k:Int)(L:Nat):Int:=bF (vS k) L
theorem r9{k:Int}(h0:0≤k)(h1:k<1048576){L:Nat}(hL:0<L)(hL3:L≤3):ao (vS k) L=0:=by
 unfold ao vS;simp;omega
theorem qt{k:Int}(h0:0≤k)(h1:k<1048576){L:Nat}(hL:0<L)(hL3:L≤3):bv (iT k L) L=0∧aC (iT k L) L=vS k:=by
 have:=ky (r9 h0 h1 hL hL3);exact⟨this.1,this.2.1⟩
theorem iE{s:C}{p t:Int}{L:Nat}(hL:L≤3)(h:ar s t (ai p L)=0):cq s p t L=En.zero:=by
 unfold cq;rw[h];exact(dC hL).2
theorem fq{s:C}{p t:Int}{L:Nat}(hL:L≤3)(h:ar s t (ai p L)=0):gP s p t L=A:=by
 unfold gP;rw[iE hL h];simp[En.zero]
section
variable {s:C} {r:Int} {gone:List Int} {X:Int→Prop} {p t:Int} {d:Nat}
def da(s:C)(p t:Int)(d k:Nat):C:=cm (s.take k) p t d (iT k (3 - d))
section graft
variable {k:Nat}
theorem mU{u:Int}(s:C)(k:Nat)(h:u≠k):(s.take k).has u=s.has u:=by
 unfold Ms.has;by_cases h0:0≤u
 ·have:u.toNat≠k:=by omega
  show(_&&(_&&ch s.tk k o u.toNat))=_;rw[g9 _ _ this];rfl
 ·simp[h0]
theorem dF{s:C}{k:Nat}(h:k<s.n):(s.take k).has k=o:=by
 refine Ms.has_iff.2 ⟨by omega,?_,?_⟩
 ·show(k:Int)<s.n;omega
 ·show ch s.tk k o (k:Int).toNat =o
  rw[Int.toNat_natCast,kM]
theorem iU{s:C}{k:Nat}{u:Int}(hu:0≤u)(j:Int):ar (s.take k) u j=if u=k then 0 else ar s u j:=by
 show(if u.toNat=k then 0 else s.wd u.toNat j.toNat)=_;by_cases h:u=k
 ·rw[if_pos h,if_pos (by omega)]
 ·rw[if_neg h,if_neg (by omega)]
  rfl
theorem Wf.fresh(h:Wf s r gone X)(hk:s.tk k=A):¬rZ s r k∧(k:Int) ∉ gone:=by
 constructor
 ·intro hi
  have:=(h.use k).2 (.inl hi);rw[hk] at this;cases this
 ·intro hi
  have:=(h.use k).2 (.inr hi);rw[hk] at this;cases this
theorem mV(h:Wf s r gone X)(he:Ends s r p d t)(hp:cH p)(hk:s.tk k=A){q u:Int}{e:Nat}(hq:cH q)(hle:e≤3)(hu:aW s r q e=B u):
  (da s p t d k).has u=s.has u∧ar (da s p t d k) u (ai q (3 - e:Nat))=if e=d∧q / az (3 - d)=p / az (3 - d) then iT k (3 - d) else ar s u (ai q (3 - e:Nat)):=by
 have hn:=h.nat hp he.le he.tab;have hun:=h.nat hq hle hu;have i1:=bR hp (show 3 - d≤3 by omega);have i2:=bR hq (show 3 - e≤3 by omega);have huk:u≠k:=by
  intro e;have:=hun.2.2;rw[e,Int.toNat_natCast,hk] at this;cases this
 refine⟨by unfold da cm;rw[iD,mU s k huk],?_⟩;unfold da cm;rw[cU hun.1 hn.1 i1.1 i2.1,iU hun.1,if_neg huk];have:=zr h hp he.le he.tab hq hle hu;by_cases hs:u=t∧ai q (3 - e:Nat)=ai p (3 - d:Nat)
 ·rw[if_pos hs,if_pos (this.1 hs)]
 ·rw[if_neg hs,if_neg (fun x=>hs (this.2 x))]
theorem oa(h:Wf s r gone X)(he:Ends s r p d t)(hp:cH p)(hk:s.tk k=A)(hn:k<s.n)(j:Int)(hj:0≤j):(da s p t d k).has k=o∧ar (da s p t d k) k j=0:=by
 have htn:=h.nat hp he.le he.tab;have i1:=bR hp (show 3 - d≤3 by omega);have hkt:(k:Int)≠t:=by
  intro e;have:=htn.2.2;rw[←e,Int.toNat_natCast,hk] at this;cases this
 unfold da cm;rw[iD];refine⟨dF hn,?_⟩;rw[cU (by omega) htn.1 i1.1 hj,if_neg (fun x=>hkt x.1),iU (by omega),if_pos rfl]
theorem ej(h:Wf s r gone X)(he:Ends s r p d t)(hp:cH p)(hd:d≤2)(hk:s.tk k=A)(hn:k<s.n)(hs:s.n≤128){q:Int}(hq:cH q):
  ∀e,e≤4→aW (da s p t d k) r q e=if e=d+1∧q / az (3 - d)=p / az (3 - d) then B (k:Int) else aW s r q e:=by
 intro e;induction e with
 |zero=>intro _;rw[if_neg (by omega)];rfl
 |succ e ih=>
  intro hle;have ih:=ih (by omega);by_cases h1:e=d+1∧q / az (3 - d)=p / az (3 - d)
  ·rw[if_pos h1] at ih
   have g0:gP (da s p t d k) q k (3 - e)=A:=fq (by omega) (oa h he hp hk hn _ (bR hq (by omega)).1).2;rw[cR ih g0,if_neg (by omega)];obtain⟨rfl,hpre⟩:=h1;have hq':=(he.same hp hq hpre).1;exact(bj (cR hq'.tab hq'.no) _ (by omega)).symm
  ·rw[if_neg h1] at ih
   cases hu:aW s r q e with
   |none=>
    rw[hu] at ih;rw[bj ih (e+1) (by omega),bj hu (e+1) (by omega)];rw[if_neg];rintro⟨h2,hpre⟩;obtain rfl:e=d:=by omega
    rw[(he.same hp hq hpre).1.tab] at hu;cases hu
   |some u=>
    rw[hu] at ih;obtain⟨w1,w2⟩:=mV h he hp hk hq (show e≤3 by omega) hu;show(aW (da s p t d k) r q e).bind _=_;rw[ih,Option.bind_some];by_cases h2:e=d∧q / az (3 - d)=p / az (3 - d)
    ·rw[if_pos h2] at w2
     obtain⟨rfl,hpre⟩:=h2;obtain⟨t1,t2⟩:=qt (k:=(k:Int)) (by omega) (by omega) (show 0<3 - e by omega) (by omega);have hhas:=(h.at_ hq (by omega) hu).1;have g1:gP (da s p t e k) q u (3 - e)=o:=by
      refine iS.2 ⟨w1.trans hhas,by rw[w2];exact t1,?_,?_⟩
      ·unfold cq;rw[w2,t2];rfl
      ·unfold cq;rw[w2,t2];rfl
     rw[if_pos g1,if_pos ⟨rfl,hpre⟩];unfold cq;rw[w2,t2];rfl
    ·rw[if_neg h2] at w2
     have hn2:¬(e+1=d+1∧q / az (3 - d)=p / az (3 - d)):=fun z=>h2 ⟨by omega,z.2⟩;rw[if_neg hn2];show _=(aW s r q e).bind _;rw[hu,Option.bind_some];unfold gP cq;rw[w1,w2]
theorem tN(h:Wf s r gone X)(he:Ends s r p d t)(hp:cH p)(hd:d≤2)(hk:s.tk k=A)(hn:k<s.n)(hs:s.n≤128)(u:Int):rZ (da s p t d k) r u↔rZ s r u∨u=k:=by
 constructor
 ·rintro⟨q,e,hq,hle,hu⟩
  rw[ej h he hp hd hk hn hs hq e (by omega)] at hu;split at hu
  ·injection hu with hu;exact .inr hu.symm
  ·exact .inl ⟨q,e,hq,hle,hu⟩
 ·rintro(⟨q,e,hq,hle,hu⟩|rfl)
  ·refine⟨q,e,hq,hle,?_⟩
   rw[ej h he hp hd hk hn hs hq e (by omega),if_neg]
   ·exact hu
   ·rintro⟨rfl,hpre⟩
    have hq':=(he.same hp hq hpre).1;rw[cR hq'.tab hq'.no] at hu;cases hu
  ·refine⟨p,d+1,hp,by omega,?_⟩
   rw[ej h he hp hd hk hn hs hp (d+1) (by omega),if_pos ⟨rfl,rfl⟩]
theorem mW(h:Wf s r gone X)(he:Ends s r p d t)(hp:cH p)(hd:d≤2)(hk:s.tk k=A)(hn:k<s.n)(hs:s.n≤128){q u:Int}{e:Nat}(hq:cH q)(hu:Ends s r q e u):
  if q / az (3 - d)=p / az (3 - d) then Ends (da s p t d k) r q (d+1) k∧cq (da s p t d k) q k (2 - d)=En.zero
  else Ends (da s p t d k) r q e u∧cq (da s p t d k) q u (3 - e)=cq s q u (3 - e):=by
 by_cases hpre:q / az (3 - d)=p / az (3 - d)
 ·rw[if_pos hpre]
  have e3:3 - (d+1)=2 - d:=by omega
  have i2:=bR hq (show 2 - d≤3 by omega);obtain⟨n1,n2⟩:=oa h he hp hk hn _ i2.1;refine⟨⟨by omega,?_,n1,?_,?_⟩,iE (by omega) n2⟩
  ·rw[ej h he hp hd hk hn hs hq (d+1) (by omega),if_pos ⟨rfl,hpre⟩]
  ·rw[e3,n2];exact(dC (by omega)).1
  ·rw[e3];exact fq (by omega) n2
 ·rw[if_neg hpre]
  have hle:=hu.le;obtain⟨w1,w2⟩:=mV h he hp hk hq hle hu.tab;rw[if_neg (fun x=>hpre x.2)] at w2;refine⟨⟨hle,?_,w1.trans hu.use,by rw[w2];exact hu.dec,?_⟩,by unfold cq;rw[w2]⟩
  ·rw[ej h he hp hd hk hn hs hq e (by omega),if_neg (fun x=>hpre x.2)]
   exact hu.tab
  ·have:=hu.no
   unfold gP cq at this⊢;rw[w1,w2];exact this
theorem Wf.graft(h:Wf s r gone X)(he:Ends s r p d t)(hp:cH p)(hd:d≤2)(hk:s.tk k=A)(hn:k<s.n)(hs:s.n≤128):Wf (da s p t d k) r gone (fun u=>(X u∧u≠t)∨u=k):=by
 have hT:=tN h he hp hd hk hn hs;have htn:=h.nat hp he.le he.tab;have i1:=bR hp (show 3 - d≤3 by omega);obtain⟨f1,f2⟩:=h.fresh hk;refine⟨fun q hq=> ?_,fun q q' e e' u a b c c' x x'=> ?_,fun q e u hq hle hu=> ?_,fun j=> ?_,h.nd,fun g hg'=> ?_,fun g hg'=> ?_⟩
 ·obtain⟨e,u,hu⟩:=h.ends q hq
  have:=mW h he hp hd hk hn hs hq hu;split at this
  ·exact⟨_,_,this.1⟩
  ·exact⟨_,_,this.1⟩
 ·rw[ej h he hp hd hk hn hs a e (by omega)] at x
  rw[ej h he hp hd hk hn hs b e' (by omega)] at x';split at x<;>split at x'
  ·rename_i y y'
   obtain⟨rfl,y⟩:=y;obtain⟨rfl,y'⟩:=y';exact⟨rfl,by rw[show 4 - (d+1)=3 - d by omega];exact y.trans y'.symm⟩
  ·injection x with x;subst x
   exact absurd ⟨q',e',b,c',x'⟩ f1
  ·injection x' with x';subst x'
   exact absurd ⟨q,e,a,c,x⟩ f1
  ·exact h.inj q q' e e' u a b c c' x x'
 ·by_cases huk:u=k
  ·exact .inl (.inr huk)
  ·rw[ej h he hp hd hk hn hs hq (e+1) (by omega)] at hu
   split at hu
   ·injection hu with hu;exact absurd hu.symm huk
   have hun:=h.nat hq (by omega) hu;by_cases hut:u=t
   ·subst hut
    refine .inr ⟨(ai p (3 - d:Nat)).toNat,by omega,?_⟩;unfold Go.Proofs.YtmfheghbgihdmaaGreatDoor.da cm;rw[cU hun.1 hun.1 i1.1 (by omega),if_pos ⟨rfl,by omega⟩];intro h0;obtain⟨_,t2⟩:=qt (k:=(k:Int)) (by omega) (by omega) (show 0<3 - d by omega) (by omega);rw[h0,(dC (by omega)).2] at t2;cases t2
   ·rcases h.full q e u hq hle hu with hx|⟨i,hi,hw⟩
    ·exact .inl (.inl ⟨hx,hut⟩)
    ·refine .inr ⟨i,hi,?_⟩
     unfold Go.Proofs.YtmfheghbgihdmaaGreatDoor.da cm;rw[cU hun.1 htn.1 i1.1 (by omega),if_neg (fun x=>hut x.1),iU hun.1,if_neg huk];exact hw
 ·rw[hT]
  show ch s.tk k o j=o↔_;by_cases hj:j=k
  ·subst hj
   simp[kM]
  ·rw[g9 _ _ hj,h.use j]
   constructor
   ·rintro(a|a)
    ·exact .inl (.inl a)
    ·exact .inr a
   ·rintro((a|a)|a)
    ·exact .inl a
    ·omega
    ·exact .inr a
 ·obtain⟨g0,gz⟩:=h.gz g hg'
  refine⟨g0,fun i hi=> ?_⟩;unfold Go.Proofs.YtmfheghbgihdmaaGreatDoor.da cm;have hgk:g≠k:=fun e=>f2 (e▸hg');rw[cU g0 htn.1 i1.1 (by omega),if_neg,iU g0,if_neg hgk]
  ·exact gz i hi
  ·rintro⟨rfl,_⟩
   exact h.gt g hg' ⟨p,d,hp,he.le,he.tab⟩
 ·rw[hT]
  rintro(a|a)
  ·exact h.gt g hg' a
  ·exact f2 (a▸hg')
end graft
section prune
variable {u:Int}
abbrev ft(s:C)(p u:Int)(d:Nat):C:=cm s p u d 0
theorem fO(h:Wf s r gone X)(hp:cH p)(hd:d≤2)(hu:aW s r p d=B u)(ht:aW s r p (d+1)=B t)(hz:∀i:Nat,i<8→ar s t i=0){q:Int}(hq:cH q):
  ∀e,e≤4→aW (ft s p u d) r q e=if e=d+1∧q / az (3 - d)=p / az (3 - d) then E else aW s r q e:=by
 intro e;induction e with
 |zero=>intro _;rw[if_neg (by omega)];rfl
 |succ e ih=>
  intro hle;have ih:=ih (by omega);by_cases h1:e=d+1∧q / az (3 - d)=p / az (3 - d)
  ·rw[if_pos h1] at ih
   rw[bj ih (e+1) (by omega),if_neg (by omega)];obtain⟨rfl,hpre⟩:=h1;have hq':aW s r q (d+1)=B t:=by
    rw[←ht];exact bI s r hq hp (d+1) (by omega) (by rw[show 4 - (d+1)=3 - d by omega];exact hpre)
   have i2:=bR hq (show 3 - (d+1)≤3 by omega);refine(cR hq' (fq (by omega) ?_)).symm;have:=hz (ai q (3 - (d+1):Nat)).toNat (by omega);rwa [Int.toNat_of_nonneg i2.1] at this
  ·rw[if_neg h1] at ih
   cases hx:aW s r q e with
   |none=>
    rw[hx] at ih;rw[bj ih (e+1) (by omega),bj hx (e+1) (by omega)];simp
   |some x=>
    rw[hx] at ih;have w2:=jv (v:=0) h hp (show d≤3 by omega) hu hq (show e≤3 by omega) hx;show(aW (ft s p u d) r q e).bind _=_;rw[ih,Option.bind_some];by_cases h2:e=d∧q / az (3 - d)=p / az (3 - d)
    ·rw[if_pos h2] at w2
     obtain⟨rfl,hpre⟩:=h2;have hp2:e+1=e+1∧q / az (3 - e)=p / az (3 - e):=⟨rfl,hpre⟩;rw[fq (by omega) w2,if_pos hp2];simp
    ·rw[if_neg h2] at w2
     have hn2:¬(e+1=d+1∧q / az (3 - d)=p / az (3 - d)):=fun z=>h2 ⟨by omega,z.2⟩;rw[if_neg hn2];show _=(aW s r q e).bind _;rw[hx,Option.bind_some];unfold gP cq;rw[w2,iD]
theorem xD(h:Wf s r gone X)(hp:cH p)(hd:d≤2)(hu:aW s r p d=B u)(ht:aW s r p (d+1)=B t)(hz:∀i:Nat,i<8→ar s t i=0)(x:Int):rZ (ft s p u d) r x↔rZ s r x∧x≠t:=by
 constructor
 ·rintro⟨q,e,hq,hle,hx⟩
  rw[fO h hp hd hu ht hz hq e (by omega)] at hx;split at hx
  ·cases hx
  ·rename_i hne
   refine⟨⟨q,e,hq,hle,hx⟩,fun hxt=> ?_⟩;subst hxt;obtain⟨rfl,hpre⟩:=h.inj q p e (d+1) x hq hp hle (by omega) hx ht;rw[show 4 - (d+1)=3 - d by omega] at hpre;exact hne ⟨rfl,hpre⟩
 ·rintro⟨⟨q,e,hq,hle,hx⟩,hne⟩
  refine⟨q,e,hq,hle,?_⟩;rw[fO h hp hd hu ht hz hq e (by omega),if_neg]
  ·exact hx
  ·rintro⟨rfl,hpre⟩
   have:aW s r q (d+1)=aW s r p (d+1):=bI s r hq hp (d+1) (by omega) (by rw[show 4 - (d+1)=3 - d by omega];exact hpre);rw[hx,ht] at this;injection this with this
   exact hne this
theorem mX(h:Wf s r gone X)(hp:cH p)(hd:d≤2)(hu:aW s r p d=B u)(ht:aW s r p (d+1)=B t)(hz:∀i:Nat,i<8→ar s t i=0){q x:Int}{e:Nat}(hq:cH q)(hx:Ends s r q e x):
  if q / az (3 - d)=p / az (3 - d) then Ends (ft s p u d) r q d u∧cq (ft s p u d) q u (3 - d)=En.zero
  else Ends (ft s p u d) r q e x∧cq (ft s p u d) q x (3 - e)=cq s q x (3 - e):=by
 by_cases hpre:q / az (3 - d)=p / az (3 - d)
 ·rw[if_pos hpre]
  have hqu:aW s r q d=B u:=by
   rw[←hu];exact bI s r hq hp d (by omega) (gQ (by omega) hpre)
  have w2:=jv (v:=0) h hp (show d≤3 by omega) hu hq (show d≤3 by omega) hqu;rw[if_pos ⟨rfl,hpre⟩] at w2;refine⟨⟨by omega,?_,(h.at_ hq (by omega) hqu).1,by rw[w2];exact(dC (by omega)).1,fq (by omega) w2⟩,iE (by omega) w2⟩;rw[fO h hp hd hu ht hz hq d (by omega),if_neg (by omega)];exact hqu
 ·rw[if_neg hpre]
  have hle:=hx.le;have w2:=jv (v:=0) h hp (show d≤3 by omega) hu hq hle hx.tab;rw[if_neg (fun y=>hpre y.2)] at w2;refine⟨⟨hle,?_,hx.use,by rw[w2];exact hx.dec,?_⟩,by unfold cq;rw[w2]⟩
  ·rw[fO h hp hd hu ht hz hq e (by omega),if_neg (fun y=>hpre y.2)]
   exact hx.tab
  ·have:=hx.no
   unfold gP cq at this⊢;rw[w2,iD];exact this
theorem Wf.cut(h:Wf s r gone X)(hp:cH p)(hd:d≤2)(hu:aW s r p d=B u)(ht:aW s r p (d+1)=B t)(hz:∀i:Nat,i<8→ar s t i=0):Wf (ft s p u d) r (t::gone) (fun x=>(X x∧x≠t)∨x=u):=by
 have hT:=xD h hp hd hu ht hz;have hun:=h.nat hp (show d≤3 by omega) hu;have htn:=h.nat hp (show d+1≤3 by omega) ht;have i1:=bR hp (show 3 - d≤3 by omega);have hut:t≠u:=by
  rintro rfl;have:=(h.inj p p d (d+1) t hp hp (by omega) (by omega) hu ht).1;omega
 have htT:rZ s r t:=⟨p,d+1,hp,by omega,ht⟩;refine⟨fun q hq=> ?_,fun q q' e e' x a b c c' y y'=> ?_,fun q e x hq hle hx=> ?_,fun j=> ?_,?_,fun g hg=> ?_,fun g hg=> ?_⟩
 ·obtain⟨e,x,hx⟩:=h.ends q hq
  have:=mX h hp hd hu ht hz hq hx;split at this
  ·exact⟨_,_,this.1⟩
  ·exact⟨_,_,this.1⟩
 ·rw[fO h hp hd hu ht hz a e (by omega)] at y
  rw[fO h hp hd hu ht hz b e' (by omega)] at y';split at y
  ·cases y
  split at y'
  ·cases y'
  exact h.inj q q' e e' x a b c c' y y'
 ·rw[fO h hp hd hu ht hz hq (e+1) (by omega)] at hx
  split at hx
  ·cases hx
  rename_i hne;have hxn:=h.nat hq (by omega) hx;by_cases hxu:x=u
  ·exact .inl (.inr hxu)
  ·rcases h.full q e x hq hle hx with hX|⟨i,hi,hw⟩
   ·refine .inl (.inl ⟨hX,fun hxt=> ?_⟩)
    subst hxt;obtain⟨h1,hpre⟩:=h.inj q p (e+1) (d+1) x hq hp (by omega) (by omega) hx ht;obtain rfl:e=d:=by omega
    rw[show 4 - (e+1)=3 - e by omega] at hpre;exact hne ⟨rfl,hpre⟩
   ·refine .inr ⟨i,hi,?_⟩
    rw[cU hxn.1 hun.1 i1.1 (by omega),if_neg (fun y=>hxu y.1)];exact hw
 ·rw[hT,List.mem_cons]
  show s.tk j=o↔_;rw[h.use j];by_cases hj:(j:Int)=t
  ·rw[hj]
   constructor
   ·intro _;exact .inr (.inl rfl)
   ·intro _;exact .inl htT
  ·constructor
   ·rintro(a|a)
    ·exact .inl ⟨a,hj⟩
    ·exact .inr (.inr a)
   ·rintro(a|a|a)
    ·exact .inl a.1
    ·exact absurd a hj
    ·exact .inr a
 ·rw[List.nodup_cons]
  exact⟨fun hm=>h.gt t hm htT,h.nd⟩
 ·have hgu:g≠u:=by
   rcases List.mem_cons.1 hg with rfl|hg
   ·exact hut
   ·rintro rfl
    exact h.gt g hg ⟨p,d,hp,by omega,hu⟩
  have g0:0≤g:=by
   rcases List.mem_cons.1 hg with rfl|hg
   ·exact htn.1
   ·exact(h.gz g hg).1
  refine⟨g0,fun i hi=> ?_⟩;rw[cU g0 hun.1 i1.1 (by omega),if_neg (fun y=>hgu y.1)];rcases List.mem_cons.1 hg with rfl|hg
  ·exact hz i hi
  ·exact(h.gz g hg).2 i hi
 ·rw[hT]
  rintro⟨a,b⟩;rcases List.mem_cons.1 hg with rfl|hg
  ·exact b rfl
  ·exact h.gt g hg a
end prune
end
namespace Bk
theorem take_pos(l:List F)(p:Int):l.takeWhile (before p)=l.take (pos l p):=by
 conv=>rhs;rw[←split l p]
 unfold pos;rw[List.take_append_of_le_length (by rw[split];exact Nat.le_refl _),split,List.take_of_length_le (Nat.le_refl _)]
theorem drop_pos(l:List F)(p:Int):l.dropWhile (before p)=l.drop (pos l p):=by
 have h:=split l p;rw[take_pos] at h;have h2:=List.take_append_drop (pos l p) l;exact List.append_cancel_left (h.trans h2.symm)
theorem ins_eq(l:List F)(m:F):ins l m=l.take (pos l m.page)++m::l.drop (pos l m.page):=by
 unfold ins;rw[take_pos,drop_pos]
theorem behind{l:List F}(h:Ok l){m:F}(hm:G m){i:Nat}(hi:i<l.length)(hn:ey l[i] m=A):decide (m.page<l[i].page)=decide (pos l m.page≤i):=by
 have hx:=h.chk l[i] (List.getElem_mem hi);have hb:=pos_iff h m.page hi;have h1:=(fH hx hm).1 hn;have h2:=before_iff (p:=m.page) hx;have:=hx.sp;have:=hm.sp;by_cases hp:pos l m.page≤i
 ·rw[decide_eq_true hp]
  rw[decide_eq_false (by omega)] at hb;have:¬l[i].page +bE l[i].size ≤m.page:=fun e=>by rw[h2.2 e] at hb;cases hb
  exact decide_eq_true (by omega)
 ·rw[decide_eq_false hp]
  rw[decide_eq_true (by omega)] at hb;have:=h2.1 hb;exact decide_eq_false (by omega)
theorem mem_ins{l:List F}{m x:F}:x∈ins l m↔x=m∨x∈l:=by
 unfold ins;conv=>rhs;rw[←split l m.page]
 simp only[List.mem_append,List.mem_cons];constructor
 ·rintro(a|a|a)
  ·exact .inr (.inl a)
  ·exact .inl a
  ·exact .inr (.inr a)
 ·rintro(a|a|a)
  ·exact .inr (.inl a)
  ·exact .inl a
  ·exact .inr (.inr a)
end Bk
theorem tO(a b:F):ey a b=ey b a:=Bool.or_comm _ _
namespace Bk
theorem place{l:List F}(h:Ok l)(p:Int):(find l p=E∧del l p=l∧∀r,prot l p r=l)∨
  ∃hl:pos l p<l.length,D l[pos l p] p=o∧find l p=B l[pos l p]∧0≤p∧p<4096∧del l p=l.take (pos l p)++l.drop (pos l p+1)∧
   ∀r,prot l p r=l.take (pos l p)++{l[pos l p] with rights:=r}::l.drop (pos l p+1):=by
 have hf:=find_head h p;have hd:=del_head h p;have hp:=fun r=>prot_head h p r;cases e:l.dropWhile (before p) with
 |nil=>
  rw[e] at hf hd;exact .inl ⟨hf,hd,fun r=>by rw[hp r,e]⟩
 |cons y k=>
  obtain⟨hl,hy⟩:=drop_head e;rw[e] at hf hd;have hk:l.drop (pos l p+1)=k:=by
   have h1:=drop_pos l p;rw[e,List.drop_eq_getElem_cons hl] at h1;injection h1 with _ h1
   exact h1.symm
  cases ho:D y p with
  |false=>
   refine .inl ⟨?_,?_,fun r=> ?_⟩
   ·rw[hf];exact if_neg (by rw[ho];simp)
   ·rw[hd];exact if_neg (by rw[ho];simp)
   ·rw[hp r,e];exact if_neg (by rw[ho];simp)
  |true=>
   have hm:=h.chk y (hy▸List.getElem_mem hl);have hov:=dr.1 ho;have:=hm.p0;have:=hm.p1;refine .inr ⟨hl,by rw[hy];exact ho,?_,by omega,by omega,?_,fun r=> ?_⟩
   ·rw[hf,hy];exact if_pos ho
   ·rw[hd,hk,←take_pos];exact if_pos ho
   ·rw[hp r,e,hk,hy,←take_pos];exact if_pos ho
theorem over_at{l:List F}(h:Ok l){p:Int}{k:Nat}(hk:k<l.length)(ho:D l[k] p=o):k=pos l p∧find l p=B l[k]:=by
 have hb:=pos_iff h p hk;have hn:before p l[k]=A:=by unfold before;rw[ho];rfl
 rw[hn] at hb;have hge:=of_decide_eq_false hb.symm;rcases place h p with ⟨hf,_⟩|⟨hl,ho2,hf,_⟩
 ·unfold find at hf
  have:=List.find?_eq_none.1 hf l[k] (List.getElem_mem hk);exact absurd ho this
 ·by_cases e:k=pos l p
  ·subst e;exact⟨rfl,hf⟩
  ·have:=List.pairwise_iff_getElem.1 h.up (pos l p) k hl hk (by omega)
   have a:=dr.1 ho;have b:=dr.1 ho2;omega
theorem bad_at{l:List F}(h:Ok l){m:F}(hm:G m):bad l m=if h:pos l m.page<l.length then ey m l[pos l m.page] else A:=by
 have hb:=bad_head h hm;cases e:l.dropWhile (before m.page) with
 |nil=>
  have:=drop_nil e;rw[e] at hb;rw[dif_neg (by omega)];exact hb
 |cons y k=>
  obtain⟨hl,hy⟩:=drop_head e;rw[e] at hb;rw[dif_pos hl,hy,tO];exact hb
theorem bad_find{l:List F}{m:F}(hf:(find l m.page).isSome =o):bad l m=o:=by
 obtain⟨y,hy⟩:=Option.isSome_iff_exists.1 hf;have hm:=List.mem_of_find?_eq_some hy;have ho:=List.find?_some hy;exact List.any_eq_true.2 ⟨y,hm,by show(D y m.page||D m y.page)=o;rw[ho];rfl⟩
theorem addC_check{l:List F}{m:F}(h:bp m≠0):addC l m=bp m∧add l m=l:=by
 unfold addC Bk.add;exact⟨if_pos h,if_neg fun e=>h e.1⟩
theorem addC_bad{l:List F}{m:F}(h:bp m=0)(hb:bad l m=o):addC l m=4∧add l m=l:=by
 unfold addC Bk.add;exact⟨by rw[if_neg (by omega),if_pos hb],if_neg fun e=>by rw[hb] at e;cases e.2⟩
theorem addC_ok{l:List F}{m:F}(h:bp m=0)(hb:bad l m=A):addC l m=0∧add l m=l.take (pos l m.page)++m::l.drop (pos l m.page):=by
 unfold addC Bk.add;exact⟨by rw[if_neg (by omega),if_neg (by rw[hb];simp)],by rw[if_pos ⟨h,hb⟩,ins_eq]⟩
def dropR(l:List F)(p:Int):Option F:=if cN p=o then find l p else E
def dropC(l:List F)(p:Int):Int:=if cN p=o then(if(find l p).isSome =o then 0 else 5) else 1
def dropL(l:List F)(p:Int):List F:=if cN p=o then del l p else l
theorem Ok.dropL{l:List F}(h:Ok l)(p:Int):Ok (dropL l p):=by
 unfold Bk.dropL;split
 ·exact h.del p
 ·exact h
def protB(p r:Int):Bool:=cN p&&decide (0≤r)&&decide (r≤7)
def protR(l:List F)(p r:Int):Option F:=if protB p r=o then(find l p).map fun x=>{x with rights:=r} else E
def protC(l:List F)(p r:Int):Int:=if protB p r=o then(if(find l p).isSome =o then 0 else 5) else 1
def protL(l:List F)(p r:Int):List F:=if protB p r=o then prot l p r else l
theorem protB_iff{p r:Int}:protB p r=o↔0≤p∧p<4096∧0≤r∧r≤7:=by
 unfold protB cN;simp only[Bool.and_eq_true,decide_eq_true_eq];omega
theorem Ok.protL{l:List F}(h:Ok l)(p r:Int):Ok (protL l p r):=by
 unfold Bk.protL;split
 ·rename_i hb
  have:=protB_iff.1 hb;exact h.prot p this.2.2.1 this.2.2.2
 ·exact h
def ans(l:List F)(a:Ac):An:=match find l a.page with|none=>⟨1,0,0⟩|some m=>cv m a
end Bk
def rz:Option F→Value
 |none=> .agg #[vI vK 0,vI vK 0,vI vK 0,vI vK 0]
 |some x=> .agg #[vI vK x.page,vI vK x.size,vI vK x.frame,vI vK x.rights]
def ba(s:C)(r p:Int):Option F:=if(bo s r p).e.leaf =o then B (aK (bo s r p).e (bo s r p).lev p) else E
theorem aT{s:C}{r p t:Int}{d:Nat}(hp:cH p)(h:Ends s r p d t):
  ba s r p=if(cq s p t (3 - d)).leaf =o then B (aK (cq s p t (3 - d)) ((3 - d:Nat):Int) p) else E:=by
 unfold ba;rw[bM hp.1 hp.2 h]
theorem Ends.not{s:C}{r p t:Int}{d:Nat}(h:Ends s r p d t)(ht:(cq s p t (3 - d)).there =A):cq s p t (3 - d)=En.zero∧ar s t (ai p (3 - d:Nat))=0:=by
 obtain⟨h1,h2⟩:=gh h.dec;have h3:cq s p t (3 - d)=En.zero:=dy h1 ht;refine⟨h3,?_⟩;unfold cq at h3;rw[h3] at h2;rw[←h2];unfold bF;rw[if_neg (by simp[En.zero])]
theorem Ends.leafOf{s:C}{r p t:Int}{d:Nat}(h:Ends s r p d t)(ht:(cq s p t (3 - d)).there =o):(cq s p t (3 - d)).leaf =o:=by
 rcases h.stop with e|e
 ·rw[ht] at e;cases e
 ·exact e
theorem fL{e:En}{L:Nat}{p:Int}(hp:cH p)(hf:ao e L=0)(hl:e.leaf=o)(hs:bE L=az L):aK e L p=⟨p / az L*az L,L,e.frame,e.rights⟩:=by
 unfold aK;rw[if_pos ⟨hf,hl,hp.1,hp.2⟩,hs]
theorem dR{L:Nat}(h:L<3):bE L=az L:=by
 have:L=0∨L=1∨L=2:=by omega
 rcases this with rfl|rfl|rfl<;>rfl
theorem mY{L:Nat}(h:L<3)(b p:Int)(f ri:Int):D ⟨b*az L,L,f,ri⟩ p=decide (p / az L=b):=by
 have hs:=dR h;have h8:=eG L;have hL:L=0∨L=1∨L=2:=by omega
 cases ho:D ⟨b*az L,L,f,ri⟩ p with
 |true=>
  have:=dr.1 ho;dsimp only at this;rw[hs] at this;symm;refine decide_eq_true ?_;rcases hL with rfl|rfl|rfl<;>simp[az] at this⊢ <;>omega
 |false=>
  have:=cT.1 ho;dsimp only at this;rw[hs] at this;symm;refine decide_eq_false ?_;rcases hL with rfl|rfl|rfl<;>simp[az] at this⊢ <;>omega
theorem Ends.map{s:C}{r p t:Int}{d:Nat}(hp:cH p)(h:Ends s r p d t)(hl:(cq s p t (3 - d)).leaf =o):
  3 - d<3∧aK (cq s p t (3 - d)) ((3 - d:Nat):Int) p=⟨p / az (3 - d)*az (3 - d),((3 - d:Nat):Int),(cq s p t (3 - d)).frame,(cq s p t (3 - d)).rights⟩∧
  ∀q,D (aK (cq s p t (3 - d)) ((3 - d:Nat):Int) p) q=decide (q / az (3 - d)=p / az (3 - d)):=by
 obtain⟨_,_,h3,_,hf⟩:=gO h.dec hl;have h3':3 - d<3:=by omega
 have e:=fL hp hf hl (dR h3');refine⟨h3',e,fun q=> ?_⟩;have e':aK (cq s p t (3 - d)) ((3 - d:Nat):Int) p=⟨p / az (3 - d)*az (3 - d),((3 - d:Nat):Int),(cq s p t (3 - d)).frame,(cq s p t (3 - d)).rights⟩:=e;rw[e'];exact mY h3' _ _ _ _
theorem Wf.overMap{s:C}{r:Int}{gone:List Int}{X:Int→Prop}(_:Wf s r gone X){p q:Int}{m:F}(hp:cH p)(hq:cH q)(hm:ba s r p=B m)(ho:D m q=o)(hw:Wf s r gone X):ba s r q=B m:=by
 obtain⟨d,t,he⟩:=hw.ends p hp;rw[aT hp he] at hm;split at hm
 ·rename_i hl
  injection hm with hm
  obtain⟨h3,e1,e2⟩:=he.map hp hl;rw[←hm,e2 q] at ho;have hpre:=of_decide_eq_true ho;obtain⟨hq',e3⟩:=he.same hp hq hpre;rw[aT hq hq',e3,if_pos hl,←hm];have hl':=hl;rw[←e3] at hl';rw[←e3,(hq'.map hq hl').2.1,e3,e1,hpre]
 ·cases hm
theorem Wf.self{s:C}{r:Int}{gone:List Int}{X:Int→Prop}(hw:Wf s r gone X){p:Int}{m:F}(hp:cH p)(hm:ba s r p=B m):D m p=o∧G m:=by
 obtain⟨d,t,he⟩:=hw.ends p hp;rw[aT hp he] at hm;split at hm
 ·rename_i hl
  injection hm with hm
  obtain⟨h3,e1,e2⟩:=he.map hp hl;subst hm;refine⟨by rw[e2 p];exact decide_eq_true rfl,?_⟩;have hf:=(gh he.dec).1;have ht:=(gO he.dec hl).1;have hk:=dB hf ht;have hs:=dR h3;have h8:=eG (3 - d);have hL:=hk.leaf hl;have k1:0≤(cq s p t (3 - d)).rights :=hk.r0;have k2:(cq s p t (3 - d)).rights ≤7:=hk.r7;have k3:0≤(cq s p t (3 - d)).frame :=hk.f0;have k4:(cq s p t (3 - d)).frame <1048576:=hk.f1;have k5:(cq s p t (3 - d)).frame % bE ((3 - d:Nat):Int)=0:=hL.2;rw[hs] at k5;rw[e1];have hp':0≤p∧p<4096:=hp;have hd:3 - d=0∨3 - d=1∨3 - d=2:=by omega
  refine dL ?_;unfold bp;dsimp only;rw[hs];rw[if_neg (by omega),if_neg,if_neg]
  ·rw[Int.mul_emod_left]
   omega
  ·generalize (cq s p t (3 - d)).rights =ri at*
   generalize (cq s p t (3 - d)).frame =fr at*
   clear e1 e2 hf ht hl he hk hL k5 hs h8;rcases hd with h|h|h<;>rw[h]<;>simp only[az]<;>omega
 ·cases hm
def dS(s:C)(p lw:Int)(sz:Nat):Nat→Int→C
 |0,t=>s.setW t.toNat (ai p sz).toNat lw
 |n+1,t=>match s.top with
  |some k=>dS ((s.take k).setW t.toNat (ai p (sz+n+1:Nat)).toNat (iT k (sz+n+1))) p lw sz n k
  |none=>s
theorem jw{s:C}(h:0<s.frees.length):∃k,s.top=B k:=by
 have:=Ms.frees_top s;cases ht:s.top with
 |some k=>exact⟨k,rfl⟩
 |none=>
  rw[ht] at this;have:=List.getLast?_eq_none_iff.1 this;rw[this] at h;cases h
theorem mZ{s:C}{k:Nat}(h:s.top=B k):(s.take k).frees.length +1=s.frees.length:=by
 have:=congrArg List.length (Ms.frees_take s k h);rw[List.length_append,List.length_singleton] at this;exact this
theorem vT(s:C)(p t:Int)(d k:Nat):da s p t d k=(s.take k).setW t.toNat (ai p (3 - d:Nat)).toNat (iT k (3 - d)):=rfl
theorem m9{k:Int}(h0:0≤k)(h1:k<1048576){L:Nat}(hL:0<L)(hL3:L≤3):0≤iT k L∧iT k L<18446744073709551616:=by
 have hf:=r9 h0 h1 hL hL3;have:=jr (dB hf rfl);unfold iT bF;rw[if_pos ⟨hf,rfl⟩];omega
theorem vV{p lw:Int}{sz:Nat}(hp:cH p)(h3:sz<3)(hc:bv lw sz=0)(hl:(aC lw sz).leaf =o)(hlw:0≤lw∧lw<18446744073709551616):∀(n d:Nat) (t:Int) (s:C) (r:Int) (gone:List Int) (X:Int→Prop),sz+n+d=3→s.Inv→s.n≤128→n≤s.frees.length→
  Wf s r gone X→(∀u,X u→u=t)→Ends s r p d t→(cq s p t (3 - d)).there =A→
  Wf (dS s p lw sz n t) r gone (fun _=>False)∧(dS s p lw sz n t).Inv ∧(dS s p lw sz n t).n =s.n∧(dS s p lw sz n t).frees.length +n=s.frees.length∧
  ∀q,cH q→if q / az sz=p / az sz then ba (dS s p lw sz n t) r q=B (aK (aC lw sz) sz q)∧(bo (dS s p lw sz n t) r q).e =aC lw sz else(ba (dS s p lw sz n t) r q=ba s r q∧(ba s r q≠E→bo (dS s p lw sz n t) r q=bo s r q)):=by
 intro n;induction n with
 |zero=>
  intro d t s r gone X hd hi hn hf hw hX he ht;have e3:3 - d=sz:=by omega
  have hv:jS lw (3 - d):=by
   rw[e3];exact⟨hc,fun h=>by rw[hl] at h;cases h.2⟩
  have hlw0:lw≠0:=by
   intro h0;rw[h0,(dC (by omega)).2] at hl;cases hl
  have hW:=hw.put hp he.le he.tab he.no hv;have es:dS s p lw sz 0 t=cm s p t d lw:=by unfold dS cm;rw[e3]
  rw[es];refine⟨hW.mono ?_,hi.setW _ _ hlw,rfl,rfl,fun q hq=> ?_⟩
  ·rintro u (⟨a,b⟩|⟨a,b⟩)
   ·rcases b with b|b
    ·exact hlw0 b
    ·exact b (hX u a)
   ·exact hlw0 a
  ·obtain⟨e,u,hu⟩:=hw.ends q hq
   obtain⟨hu',hE⟩:=mT hw hp he.le he.tab he.no hv hq hu;by_cases hpre:q / az sz=p / az sz
   ·rw[if_pos hpre]
    rw[←e3] at hpre;obtain⟨hs,_⟩:=he.same hp hq hpre;obtain⟨rfl,rfl⟩:=hs.unique hu;rw[if_pos ⟨rfl,hpre⟩] at hE;rw[aT hq hu',hE,bM hq.1 hq.2 hu',hE,e3,if_pos hl];exact⟨rfl,rfl⟩
   ·rw[if_neg hpre]
    rw[if_neg (by rw[e3];exact fun h=>hpre h.2)] at hE;rw[aT hq hu',aT hq hu,hE];refine⟨rfl,fun _=> ?_⟩;rw[bM hq.1 hq.2 hu',bM hq.1 hq.2 hu,hE];have:ct (cm s p t d lw) r q (e+1)=ct s r q (e+1):=by
     unfold ct;refine List.map_congr_left fun x hx=> ?_;rw[fp hw hp he.le he.tab he.no hv hq x (by have:=List.mem_range.1 hx;have:=hu.le;omega)]
    rw[this]
 |succ n ih=>
  intro d t s r gone X hd hi hn hf hw hX he ht;obtain⟨k,hk⟩:=jw (show 0<s.frees.length by omega);obtain⟨hkn,hkt⟩:=Ms.top_lt hi hk;have hd2:d≤2:=by omega
  have e3:3 - d=sz+n+1:=by omega
  have es:dS s p lw sz (n+1) t=dS (da s p t d k) p lw sz n k:=by
   rw[vT,e3];conv=>lhs;unfold dS
   rw[hk]
  have hG:=hw.graft he hp hd2 hkt hkn hn;have hgE:=fun q (hq:cH q) e u hu=>mW (e:=e) (u:=u) hw he hp hd2 hkt hkn hn hq hu;have hEnd:=hgE p hp d t he;rw[if_pos rfl] at hEnd;have hGi:(da s p t d k).Inv :=(hi.take hk).setW _ _ (m9 (by omega) (by omega) (by omega) (by omega));have hGf:(da s p t d k).frees.length +1=s.frees.length:=mZ hk;have hGn:(da s p t d k).n =s.n:=rfl;have hE0:(cq (da s p t d k) p k (3 - (d+1))).there =A:=by
   rw[show 3 - (d+1)=2 - d by omega,hEnd.2];rfl
  obtain⟨i1,i2,i3,i4,i5⟩:=ih (d+1) k (da s p t d k) r gone _ (by omega) hGi (by omega) (by omega) hG (fun u hu=>by
   rcases hu with ⟨a,b⟩|a
   ·exact absurd (hX u a) b
   ·exact a) hEnd.1 hE0
  rw[es];refine⟨i1,i2,i3.trans hGn,by omega,fun q hq=> ?_⟩;have hm:ba (da s p t d k) r q=ba s r q∧(ba s r q≠E→bo (da s p t d k) r q=bo s r q):=by
   obtain⟨e,u,hu⟩:=hw.ends q hq;have hg:=hgE q hq e u hu;split at hg
   ·rename_i hpre
    obtain⟨hs,hsE⟩:=he.same hp hq hpre;obtain⟨rfl,rfl⟩:=hs.unique hu;have hz:=(he.not ht).1;have e2:ba s r q=E:=by rw[aT hq hu,hsE,hz];rfl
    rw[e2];refine⟨?_,fun h=>absurd rfl h⟩;rw[aT hq hg.1,show 3 - (d+1)=2 - d by omega,hg.2];rfl
   ·rename_i hpre
    refine⟨by rw[aT hq hg.1,hg.2,aT hq hu],fun _=> ?_⟩;rw[bM hq.1 hq.2 hg.1,bM hq.1 hq.2 hu,hg.2];have:ct (da s p t d k) r q (e+1)=ct s r q (e+1):=by
     unfold ct;refine List.map_congr_left fun x hx=> ?_;rw[ej hw he hp hd2 hkt hkn hn hq x (by have:=List.mem_range.1 hx;have:=hu.le;omega),if_neg (fun y=>hpre y.2)]
    rw[this]
  have:=i5 q hq;split at this
  ·rename_i hpre
   rw[if_pos hpre];exact this
  ·rename_i hpre
   rw[if_neg hpre];refine⟨this.1.trans hm.1,fun hne=> ?_⟩;rw[this.2 (by rw[hm.1];exact hne),hm.2 hne]
def dU(x:F):En:=⟨o,o,x.rights,A,A,x.frame⟩
def dm(s:C)(r:Int)(x:F):Int:=
 if bp x≠0 then bp x
 else if(bo s r x.page).code ≠0 then(bo s r x.page).code
 else if(bo s r x.page).e.there =o∨(bo s r x.page).lev <x.size then 4
 else if(s.frees.length:Int)< (bo s r x.page).lev - x.size then 6 else 0
def eB(s:C)(r:Int)(x:F):C:=
 if dm s r x=0 then dS s x.page (bF (dU x) x.size) x.size.toNat ((bo s r x.page).lev - x.size).toNat ((bo s r x.page).tabs.getLastD 0) else s
def bm(s:C)(r p:Int):Int:=if(bo s r p).code ≠0 then(bo s r p).code else if(bo s r p).e.there =A then 5 else 0
def bJ(s:C)(r p:Int):F:=if bm s r p=0 then aK (bo s r p).e (bo s r p).lev p else Mp.zero
def jT(s:C)(r p:Int):En:=if bm s r p=0 then(bo s r p).e else En.zero
def i7(s:C)(t:Int):Bool:=(List.range 8).all fun i=>ar s t i==0
def fy(p:Int)(tabs:List Int):Nat→C→C×List Int
 |0,s=>(s.setW (tabs.getD 0 0).toNat (ai p (3:Nat)).toNat 0,[])
 |k+1,s=>
  if i7 (s.setW (tabs.getD (k+1) 0).toNat (ai p (3 - (k+1):Nat)).toNat 0) (tabs.getD (k+1) 0)=o then
   ((fy p tabs k (s.setW (tabs.getD (k+1) 0).toNat (ai p (3 - (k+1):Nat)).toNat 0)).1,tabs.getD (k+1) 0::(fy p tabs k (s.setW (tabs.getD (k+1) 0).toNat (ai p (3 - (k+1):Nat)).toNat 0)).2)
  else(s.setW (tabs.getD (k+1) 0).toNat (ai p (3 - (k+1):Nat)).toNat 0,[])
def dn(s:C)(r p:Int):C:=if bm s r p=0 then(fy p (bo s r p).tabs ((bo s r p).tabs.length - 1) s).1 else s
def gR(s:C)(r p:Int):List Int:=if bm s r p=0 then(fy p (bo s r p).tabs ((bo s r p).tabs.length - 1) s).2 else []
def iV(s:C)(r p ri:Int):Int:=if ri<0∨7<ri then 1 else bm s r p
def nu(s:C)(r p ri:Int):F:=if iV s r p ri=0 then {bJ s r p with rights:=ri} else Mp.zero
def iH(s:C)(r p ri:Int):C:=
 if iV s r p ri=0 then s.setW ((bo s r p).tabs.getLastD 0).toNat (ai p (bo s r p).lev).toNat (bF {(bo s r p).e with rights:=ri} (bo s r p).lev) else s
theorem na{s:C}{t:Int}:i7 s t=o↔∀i:Nat,i<8→ar s t i=0:=by
 unfold i7;rw[List.all_eq_true];constructor
 ·intro h i hi
  have:=h i (List.mem_range.2 hi);simpa using this
 ·intro h i hi
  have:=h i (List.mem_range.1 hi);simpa using this
theorem iW{s:C}{r p t:Int}{d:Nat}(h:aW s r p d=B t):(ct s r p (d+1)).getLastD 0=t:=by rw[iR h];simp
theorem iF{s:C}{r p t:Int}{d n:Nat}(h:aW s r p d=B t)(hn:d<n):(ct s r p n).getD d 0=t:=by
 unfold ct;rw[List.getD_eq_getElem?_getD,List.getElem?_map,List.getElem?_range hn];simp[h]
theorem jx{s:C}{r:Int}{gone:List Int}{X:Int→Prop}(hw:Wf s r gone X){p:Int}(hp:cH p):(bo s r p).code =0∧((bo s r p).e.there =o↔(bo s r p).e.leaf =o):=by
 obtain⟨d,t,he⟩:=hw.ends p hp;rw[bM hp.1 hp.2 he];refine⟨rfl,fun h=>he.leafOf h,fun h=>(gO he.dec h).1⟩
theorem qu{s:C}{r p:Int}(hp:¬cH p):(bo s r p).code =1:=by
 unfold bo;rw[if_neg]
 ·rfl
 ·unfold cN
  rw[Bool.and_eq_true,decide_eq_true_eq,decide_eq_true_eq];exact hp
section
variable {s:C} {r:Int} {gone:List Int} {X:Int→Prop}
theorem Wf.find(hw:Wf s r gone X){p:Int}(hp:cH p):bm s r p=(if(ba s r p).isSome then 0 else 5)∧bJ s r p=(ba s r p).getD Mp.zero:=by
 obtain⟨h1,h2⟩:=jx hw hp;unfold bJ bm ba;rw[h1,if_neg (by simp)];by_cases hl:(bo s r p).e.leaf =o
 ·have ht:=h2.2 hl
  rw[if_pos hl,if_neg (by rw[ht];simp)];simp
 ·have ht:(bo s r p).e.there =A:=by
   cases h:(bo s r p).e.there with
   |true=>exact absurd (h2.1 h) hl
   |false=>rfl
  rw[if_neg hl,if_pos ht];simp
theorem Wf.no_root(hw:Wf s r gone (fun u=>u=r)):Wf s r gone (fun _=>False):=by
 refine⟨hw.ends,hw.inj,fun p d t hp hd ht=> ?_,hw.use,hw.nd,hw.gz,hw.gt⟩;rcases hw.full p d t hp hd ht with rfl|h
 ·have:=(hw.inj p p (d+1) 0 t hp hp (by omega) (by omega) ht rfl).1
  omega
 ·exact .inr h
theorem Wf.no_full{t:Int}(hw:Wf s r gone (fun u=>u=t))(h:i7 s t=A):Wf s r gone (fun _=>False):=by
 refine⟨hw.ends,hw.inj,fun p d u hp hd hu=> ?_,hw.use,hw.nd,hw.gz,hw.gt⟩;rcases hw.full p d u hp hd hu with rfl|h'
 ·refine .inr ?_
  apply Classical.byContradiction;intro hn;have:i7 s u=o:=na.2 fun i hi=>Classical.byContradiction fun hne=>hn ⟨i,hi,hne⟩;rw[this] at h;cases h
 ·exact .inr h'
theorem xE{p:Int}(hp:cH p):∀(k:Nat) (s:C) (r:Int) (gone:List Int) (t:Int) (tabs:List Int),k≤2→s.Inv→Wf s r gone (fun u=>u=t)→aW s r p (k+1)=B t→i7 s t=o→(∀j,j≤k→tabs.getD j 0=(aW s r p j).getD 0)→
  Wf (fy p tabs k s).1 r ((fy p tabs k s).2.reverse++t::gone) (fun _=>False)∧(fy p tabs k s).1.Inv∧(fy p tabs k s).1.n=s.n∧(fy p tabs k s).1.frees=s.frees∧(∀u,(fy p tabs k s).1.tk u=s.tk u)∧
  ∀q,cH q→ba (fy p tabs k s).1 r q=ba s r q∧(ba s r q≠E→bo (fy p tabs k s).1 r q=bo s r q):=by
 intro k;induction k with
 |zero=>
  intro s r gone t tabs hk hi hw ht hz htabs;have hz':=na.1 hz;have h0:tabs.getD 0 0=r:=htabs 0 (Nat.le_refl _);have hC:=hw.cut hp (show 0≤2 by omega) (show aW s r p 0=B r from rfl) ht hz';have es:(fy p tabs 0 s).1=ft s p r 0:=by unfold fy;rw[h0]
  have eg:(fy p tabs 0 s).2=[]:=rfl;rw[es,eg];refine⟨(hC.mono ?_).no_root,hi.setW _ _ (by omega),rfl,rfl,fun _=>rfl,fun q hq=> ?_⟩
  ·rintro u (⟨a,b⟩|a)
   ·exact absurd a b
   ·exact a
  ·obtain⟨e,x,hx⟩:=hw.ends q hq
   have hg:=mX hw hp (show 0≤2 by omega) (show aW s r p 0=B r from rfl) ht hz' hq hx;split at hg
   ·rename_i hpre
    have hq':aW s r q (0+1)=B t:=by
     rw[←ht];exact bI s r hq hp 1 (by omega) hpre
    have i2:=bR hq (show 3 - (0+1)≤3 by omega);have hw0:ar s t (ai q (3 - (0+1):Nat))=0:=by
     have:=hz' (ai q (3 - (0+1):Nat)).toNat (by omega);rwa [Int.toNat_of_nonneg i2.1] at this
    have hnone:ba s r q=E:=by
     have he1:Ends s r q (0+1) t:=⟨by omega,hq',(hw.at_ hq (by omega) hq').1,(hw.at_ hq (by omega) hq').2,fq (by omega) hw0⟩;rw[aT hq he1,iE (by omega) hw0];rfl
    rw[hnone];refine⟨?_,fun h=>absurd rfl h⟩;rw[aT hq hg.1,hg.2];rfl
   ·rename_i hpre
    refine⟨by rw[aT hq hg.1,hg.2,aT hq hx],fun _=> ?_⟩;rw[bM hq.1 hq.2 hg.1,bM hq.1 hq.2 hx,hg.2];have:ct (ft s p r 0) r q (e+1)=ct s r q (e+1):=by
     unfold ct;refine List.map_congr_left fun y hy=> ?_;rw[fO hw hp (show 0≤2 by omega) (show aW s r p 0=B r from rfl) ht hz' hq y (by have:=List.mem_range.1 hy;have:=hx.le;omega),if_neg (fun z=>hpre z.2)]
    rw[this]
 |succ k ih=>
  intro s r gone t tabs hk hi hw ht hz htabs;have hz':=na.1 hz;obtain⟨u,hu⟩:=du ht (show k+1≤k+1+1 by omega);have h0:tabs.getD (k+1) 0=u:=by rw[htabs (k+1) (Nat.le_refl _),hu];rfl
  have hC:=hw.cut hp (show k+1≤2 by omega) hu ht hz';have hCi:(ft s p u (k+1)).Inv :=hi.setW _ _ (by omega);have hmap:∀q,cH q→ba (ft s p u (k+1)) r q=ba s r q∧(ba s r q≠E→bo (ft s p u (k+1)) r q=bo s r q):=by
   intro q hq;obtain⟨e,x,hx⟩:=hw.ends q hq;have hg:=mX hw hp (show k+1≤2 by omega) hu ht hz' hq hx;split at hg
   ·rename_i hpre
    have hq':aW s r q (k+1+1)=B t:=by
     rw[←ht];exact bI s r hq hp (k+1+1) (by omega) (by rw[show 4 - (k+1+1)=3 - (k+1) by omega];exact hpre)
    have i2:=bR hq (show 3 - (k+1+1)≤3 by omega);have hw0:ar s t (ai q (3 - (k+1+1):Nat))=0:=by
     have:=hz' (ai q (3 - (k+1+1):Nat)).toNat (by omega);rwa [Int.toNat_of_nonneg i2.1] at this
    have hnone:ba s r q=E:=by
     have he1:Ends s r q (k+1+1) t:=⟨by omega,hq',(hw.at_ hq (by omega) hq').1,(hw.at_ hq (by omega) hq').2,fq (by omega) hw0⟩;rw[aT hq he1,iE (by omega) hw0];rfl
    rw[hnone];refine⟨?_,fun h=>absurd rfl h⟩;rw[aT hq hg.1,hg.2];rfl
   ·rename_i hpre
    refine⟨by rw[aT hq hg.1,hg.2,aT hq hx],fun _=> ?_⟩;rw[bM hq.1 hq.2 hg.1,bM hq.1 hq.2 hx,hg.2];have:ct (ft s p u (k+1)) r q (e+1)=ct s r q (e+1):=by
     unfold ct;refine List.map_congr_left fun y hy=> ?_;rw[fO hw hp (show k+1≤2 by omega) hu ht hz' hq y (by have:=List.mem_range.1 hy;have:=hx.le;omega),if_neg (fun z=>hpre z.2)]
    rw[this]
  have hX:Wf (ft s p u (k+1)) r (t::gone) (fun x=>x=u):=hC.mono (by
   rintro x (⟨a,b⟩|a)
   ·exact absurd a b
   ·exact a)
  have hpar:∀j,j≤k+1→aW (ft s p u (k+1)) r p j=aW s r p j:=fun j hj=>by
   rw[fO hw hp (show k+1≤2 by omega) hu ht hz' hp j (by omega),if_neg (by omega)]
  have ez:s.setW (tabs.getD (k+1) 0).toNat (ai p (3 - (k+1):Nat)).toNat 0=ft s p u (k+1):=by rw[h0]
  unfold fy;rw[ez,h0];by_cases hzu:i7 (ft s p u (k+1)) u=o
  ·rw[if_pos hzu]
   obtain⟨i1,i2,i3,i4,i5,i6⟩:=ih (ft s p u (k+1)) r (t::gone) u tabs (by omega) hCi hX (by rw[hpar (k+1) (by omega)];exact hu) hzu (fun j hj=>by rw[hpar j (by omega)];exact htabs j (by omega));refine⟨?_,i2,i3,i4,i5,fun q hq=> ?_⟩
   ·rw[List.reverse_cons,List.append_assoc]
    exact i1
   ·have a:=i6 q hq
    have b:=hmap q hq;refine⟨a.1.trans b.1,fun hne=> ?_⟩;rw[a.2 (by rw[b.1];exact hne),b.2 hne]
  ·rw[if_neg hzu]
   exact⟨hX.no_full (by simpa using hzu),hCi,rfl,rfl,fun _=>rfl,hmap⟩
end
end Go.Proofs.YtmfheghbgihdmaaGreatDoor
