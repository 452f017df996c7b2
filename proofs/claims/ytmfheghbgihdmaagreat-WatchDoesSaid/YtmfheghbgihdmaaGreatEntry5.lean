/- The contract of entry.Decode. -/
import Derived.Test.YtmfheghbgihdmaaGreatRefPage
import Derived.Deep.RegionHeld3
import Derived.Test.YtmfheghbgihdmaaGreatFrames3
import Derived.Test.YtmfheghbgihdmaaGreatWalkM2
import Derived.Test.YtmfheghbgihdmaaGreatTblM3
namespace Go.Proofs.YtmfheghbgihdmaaGreat
open Bool renaming false→g,true→D
open Option renaming none→q,some→ad
open Go renaming World→F,bodyPost_ret→J,Value→al,Addr→a4,Calls→a5
open Go.Lib renaming hid→G
open Go.Ending renaming returned→I
open Go.Value renaming bool→M,int→N
open Go.IntKind renaming i64→U
open Go.World renaming size_alloc→Y
open List renaming length_append→Z,getElem?_eq_some_iff→ax
open Go.Proofs.YtmfheghbgihdmaaGreat renaming Has→af,Ext→a0
open Go.Addr renaming mk→ag
open Go.Proofs.YtmfheghbgihdmaaGreat.Has renaming rowNil→an
open Tryz
open Go.RowKit
set_option maxRecDepth 100000
set_option maxHeartbeats 4000000 in
theorem jX(w l:Int)(W:F)(h0:0≤w)(h1:w<18446744073709551616):a5 prog 171 #[.int .u64 w,.int .i64 l] W (Pure (eZ w l) W):=by
 have hw:=Has.new (aT W) #[M g,M g,N U 0,M g,M g,N U 0] 70;have xw:=(Ext.refl W).alloc (.cells #[M g,M g,N U 0,M g,M g,N U 0] 70);by_cases l0:l<0
 ·have hy:=G (dd (w:=w) (l:=l) (c:=1) (by unfold bu;rw[if_pos (.inl l0)]) (.inl (by decide)))
  generalize eZ _ l=V at hy⊢;go_enter func171,ntmps171;go_wp2
  all_goals exact J (av results171 rfl rfl (bC hw)) rfl ⟨congrArg I hy.out.symm,aq hw.right xw⟩
 by_cases l4:4≤l
 ·have hy:=G (dd (w:=w) (l:=l) (c:=1) (by unfold bu;rw[if_pos (.inr l4)]) (.inl (by decide)))
  generalize eZ _ l=V at hy⊢;go_enter func171,ntmps171;go_wp2
  all_goals exact J (av results171 rfl rfl (bC hw)) rfl ⟨congrArg I hy.out.symm,aq hw.right xw⟩
 have e1:=xN w h0 h1;have e7:=xO w h0 h1;have e32:=wQ w h0 h1;have e64:=wR w h0 h1;have e128:=vw w h0 h1;have eA:=nF w h0 h1;have hl:0≤l∧l<4:=by omega
 cases hs:ju w with
 |true=>
  have hy:=G (dd (ka hl (.inl hs)) (.inl (by decide)));rw[hs] at eA;clear hs hl;generalize eZ _ l=V at hy⊢;go_enter func171,ntmps171;go_wp2
  all_goals exact J (av results171 rfl rfl (bC hw)) rfl ⟨congrArg I hy.out.symm,aq hw.right xw⟩
 |false=>
  rw[hs] at eA;by_cases wz:w=0
  ·subst wz
   have hy:=G (dd (w:=0) (l:=l) (c:=0) (by rw[qj hl hs (.inl rfl) (fun _=>rfl)];rfl) (.inr rfl));have z:(bits .and .u64 0 128 !=0)=g:=rfl;clear hs hl e1 e7 e32 e64 e128;have e1:bits .and .u64 0 1=0:=rfl;generalize eZ _ l=V at hy⊢;go_enter func171,ntmps171;go_wp2
   all_goals exact J (av results171 rfl rfl (bC hw)) rfl ⟨congrArg I hy.out.symm,aq hw.right xw⟩
  have wz':(w !=0)=D:=by simpa using wz
  have wz'':(w==0)=g:=by simpa using wz
  by_cases w1:w % 2=0
  ·have hy:=G (dd (ka hl (.inr (.inl ⟨w1,wz⟩))) (.inl (by decide)))
   have w1':(w % 2==0)=D:=by simpa using w1
   clear hs hl w1 wz;generalize eZ _ l=V at hy⊢;go_enter func171,ntmps171;go_wp2
   all_goals exact J (av results171 rfl rfl (bC hw)) rfl ⟨congrArg I hy.out.symm,aq hw.right xw⟩
  have w1':(w % 2==0)=g:=by simpa using w1
  have w2:w % 2=1:=by omega
  by_cases lz:l=0∧aK w 128=D
  ·obtain⟨rfl,lb⟩:=lz
   have hy:=G (dd (ka hl (.inr (.inr ⟨rfl,lb⟩))) (.inl (by decide)));rw[lb] at e128;clear hs hl w1 wz w2 lb;generalize eZ _ 0=V at hy⊢;go_enter func171,ntmps171;go_wp2
   all_goals exact J (av results171 rfl rfl (bC hw)) rfl ⟨congrArg I hy.out.symm,aq hw.right xw⟩
  have hd:bu w l=aj (dv w l) l:=by
   rw[qj hl hs (.inr w2) (fun e=> ?_),if_neg wz];cases hb:aK w 128 with
   |false=>rfl
   |true=>exact absurd ⟨e,hb⟩ lz
  have b32:w<4294967296:=by
   unfold ju at hs;simp at hs;exact hs.2.2
  have hv0:bu w l=0→eZ w l= .tuple #[.agg #[M D,M (dv w l).leaf,N U (w / 2 % 8),M (aK w 32),M (aK w 64),N U (w / 4096)],N U 0]:=fun hc=>by
   unfold eZ aE;rw[if_pos ⟨hc,wz⟩,hc];rfl
  have hv0:=G hv0;by_cases l00:l=0
  ·subst l00
   have he:dv w 0=⟨D,D,w / 2 % 8,aK w 32,aK w 64,w / 4096⟩:=rfl;have e128':aK w 128=g:=by
    cases hb:aK w 128 with
    |false=>rfl
    |true=>exact absurd ⟨rfl,hb⟩ lz
   rw[e128'] at e128;clear e128';have HC:∀X,a5 prog 172 #[.agg #[M D,M (D),N U (w / 2 % 8),M (aK w 32),M (aK w 64),N U (w / 4096)],.int .i64 0] X (Pure (N U (bu w 0)) X):=fun X=>by
    have:=gy (dv w 0) 0 X;rw[←hd,he] at this;exact this
   have HC:=G HC;rw[he] at hv0;have hx:=hw.new #[M D,M (D),N U (w / 2 % 8),M (aK w 32),M (aK w 64),N U (w / 4096)] 70;have xx:=xw.alloc (.cells #[M D,M (D),N U (w / 2 % 8),M (aK w 32),M (aK w 64),N U (w / 4096)] 70);simp only[Y] at hx;have hno:=G (fun hc=>dd (w:=w) (l:=0) (c:=bu w 0) rfl (.inl hc));clear hs hl w1 wz w2 lz hd he;by_cases hc:bu w 0=0
   ·have hy:=G (hv0.out hc)
    rw[hc] at HC;clear hc hv0 hno;generalize eZ w 0=V at hy⊢;go_enter func171,ntmps171;go_wp2_with fail
    refine(HC.out _).mono ?_;rintro e w2 ⟨rfl,bl⟩;have h2:=hx.below bl;have x2:=xx.below bl;obtain⟨c0,c1,c2,c3,c4,c5⟩:=h2.cells6;obtain⟨d0,d1,d2,d3,d4,d5⟩:=h2.right.cells6;obtain⟨f0,f1,f2,f3,f4,f5⟩:=h2.right.frees6;have l2:=h2.right.lt;clear HC bl hx xx hw xw;go_wp2;refine ak (fun wz=>af wz (aa W.heap.size #[M D,M (D),N U (w / 2 % 8),M (aK w 32),M (aK w 64),N U (w / 4096)] 70*bS W W.heap.size)∧a0 W wz) ⟨h2.right.set6 _ _ _ _ _ _,ah⟩ ?_;rintro wz ⟨hz,xz⟩;exact J (av results171 rfl rfl (bC hz)) rfl ⟨congrArg I hy.out.symm,aq hz.right xz⟩
   ·have hy:=G (hno.out hc)
    have hn:(bu w 0 !=0)=D:=by simpa using hc
    clear hc hv0 hno;generalize eZ w 0=V at hy⊢;generalize bu w 0=c at*
    go_enter func171,ntmps171;go_wp2_with fail
    refine(HC.out _).mono ?_;rintro e w2 ⟨rfl,bl⟩;have h2:=hx.below bl;have x2:=xx.below bl;obtain⟨c0,c1,c2,c3,c4,c5⟩:=h2.cells6;obtain⟨d0,d1,d2,d3,d4,d5⟩:=h2.right.cells6;obtain⟨f0,f1,f2,f3,f4,f5⟩:=h2.right.frees6;have l2:=h2.right.lt;clear HC bl hx xx hw xw;go_wp2;refine ak (fun wz=>af wz (aa W.heap.size #[M g,M g,N U 0,M g,M g,N U 0] 70*bS W W.heap.size)∧a0 W wz) ⟨h2.right.set6 _ _ _ _ _ _,ah⟩ ?_;rintro wz ⟨hz,xz⟩;exact J (av results171 rfl rfl (bC hz)) rfl ⟨congrArg I hy.out.symm,aq hz.right xz⟩
  ·have l00':(l==0)=g:=by simpa using l00
   have he:dv w l=⟨D,aK w 128,w / 2 % 8,aK w 32,aK w 64,w / 4096⟩:=by unfold dv;rw[l00'];rfl
   clear l00;have HC:∀X,a5 prog 172 #[.agg #[M D,M (aK w 128),N U (w / 2 % 8),M (aK w 32),M (aK w 64),N U (w / 4096)],.int .i64 l] X (Pure (N U (bu w l)) X):=fun X=>by
    have:=gy (dv w l) l X;rw[←hd,he] at this;exact this
   have HC:=G HC;rw[he] at hv0;have hx:=hw.new #[M D,M (aK w 128),N U (w / 2 % 8),M (aK w 32),M (aK w 64),N U (w / 4096)] 70;have xx:=xw.alloc (.cells #[M D,M (aK w 128),N U (w / 2 % 8),M (aK w 32),M (aK w 64),N U (w / 4096)] 70);simp only[Y] at hx;have hno:=G (fun hc=>dd (w:=w) (l:=l) (c:=bu w l) rfl (.inl hc));clear hs hl w1 wz w2 lz hd he;by_cases hc:bu w l=0
   ·have hy:=G (hv0.out hc)
    rw[hc] at HC;clear hc hv0 hno;generalize eZ w l=V at hy⊢;go_enter func171,ntmps171;go_wp2_with fail
    refine(HC.out _).mono ?_;rintro e w2 ⟨rfl,bl⟩;have h2:=hx.below bl;have x2:=xx.below bl;obtain⟨c0,c1,c2,c3,c4,c5⟩:=h2.cells6;obtain⟨d0,d1,d2,d3,d4,d5⟩:=h2.right.cells6;obtain⟨f0,f1,f2,f3,f4,f5⟩:=h2.right.frees6;have l2:=h2.right.lt;clear HC bl hx xx hw xw;go_wp2;refine ak (fun wz=>af wz (aa W.heap.size #[M D,M (aK w 128),N U (w / 2 % 8),M (aK w 32),M (aK w 64),N U (w / 4096)] 70*bS W W.heap.size)∧a0 W wz) ⟨h2.right.set6 _ _ _ _ _ _,ah⟩ ?_;rintro wz ⟨hz,xz⟩;exact J (av results171 rfl rfl (bC hz)) rfl ⟨congrArg I hy.out.symm,aq hz.right xz⟩
   ·have hy:=G (hno.out hc)
    have hn:(bu w l !=0)=D:=by simpa using hc
    clear hc hv0 hno;generalize eZ w l=V at hy⊢;generalize bu w l=c at*
    go_enter func171,ntmps171;go_wp2_with fail
    refine(HC.out _).mono ?_;rintro e w2 ⟨rfl,bl⟩;have h2:=hx.below bl;have x2:=xx.below bl;obtain⟨c0,c1,c2,c3,c4,c5⟩:=h2.cells6;obtain⟨d0,d1,d2,d3,d4,d5⟩:=h2.right.cells6;obtain⟨f0,f1,f2,f3,f4,f5⟩:=h2.right.frees6;have l2:=h2.right.lt;clear HC bl hx xx hw xw;go_wp2;refine ak (fun wz=>af wz (aa W.heap.size #[M g,M g,N U 0,M g,M g,N U 0] 70*bS W W.heap.size)∧a0 W wz) ⟨h2.right.set6 _ _ _ _ _ _,ah⟩ ?_;rintro wz ⟨hz,xz⟩;exact J (av results171 rfl rfl (bC hz)) rfl ⟨congrArg I hy.out.symm,aq hz.right xz⟩
section
variable {P:Program} {md:Region.Mode} {ops:Array Oper} {Q:Exit→Act→F→Prop} (S:Array Bool→F→Prop)
def lc(P:Program)(md:Region.Mode)(ops:Array Oper)(Q:Exit→Act→F→Prop):Nat→Array Bool→Act→F→Prop
 |0,L,a,w=>Region.ready md ops L=[]∧Q .normal a w
 |n+1,L,a,w=>(Region.ready md ops L=[]→Q .normal a w)∧
   ∀k,k∈Region.ready md ops L→wpOp P ops Q k (fun b u=>S (L.setIfInBounds k D) u∧lc P md ops Q n (L.setIfInBounds k D) b u) a w
variable {S}
theorem n5:∀{n:Nat} {L:Array Bool} {a:Act} {w:F},lc S P md ops Q n L a w→wpAny P md ops Q n L a w
 |0,_,_,_,h=>h
 |_+1,_,_,_,⟨h1,h2⟩=>⟨h1,fun k hk=>wpOp_mono (fun _ _ h=>n5 h.2) (h2 k hk)⟩
def uF(S:Array Bool→F→Prop)(i:Nat)(w:F):Prop:=∃L,L.getD i g=g∧S L w
structure Good (md:Region.Mode) (ops:Array Oper) (i:Nat) (S:Array Bool→F→Prop):Prop where
 up:∀L w,S L w→S (L.setIfInBounds i D) w
 back:∀(L:Array Bool) (j:Nat) (oj:Oper) (w w':F),S L w→L.getD i g=g→ops[j]? =ad oj→j≠i→(∀e∈oj.after,Region.binds md e=D→e.on≠i)→
  S ((L.setIfInBounds j D).setIfInBounds i D) w'→S (L.setIfInBounds j D) w'
theorem Good.and{i:Nat}{S T:Array Bool→F→Prop}(h1:Good md ops i S)(h2:Good md ops i T):Good md ops i fun L w=>S L w∧T L w:=
 ⟨fun L w h=>⟨h1.up L w h.1,h2.up L w h.2⟩,fun L j oj w w' h hi ho hj hn h'=>⟨h1.back L j oj w w' h.1 hi ho hj hn h'.1,h2.back L j oj w w' h.2 hi ho hj hn h'.2⟩⟩
def Till(k d:Nat)(p:F→Prop)(L:Array Bool)(w:F):Prop:=(L.getD k g=D→L.getD d g=D)∧(L.getD k g=g→p w)
theorem n6{L:Array Bool}{j k:Nat}(h:(L.setIfInBounds j D).getD k g=D):k=j∨L.getD k g=D:=by
 by_cases e:j=k
 ·exact .inl e.symm
 ·rw[getD_set_ne g e] at h
  exact .inr h
theorem Good.till{i k d:Nat}{p:F→Prop}(hk:i≠k)(hd:∃o e,ops[k]? =ad o∧e∈o.after∧Region.binds md e=D∧e.on=d):Good md ops i (Till k d p):=by
 constructor
 ·rintro L w ⟨h1,h2⟩
  constructor
  ·intro h
   rw[getD_set_ne g hk] at h;exact getD_set_true (h1 h)
  ·intro h
   rw[getD_set_ne g hk] at h;exact h2 h
 ·rintro L j oj w w' ⟨h1,_⟩ hi hoj hj hn ⟨g1,g2⟩
  constructor
  ·intro h
   have hd':=g1 (getD_set_true h);by_cases e:i=d
   ·exfalso
    rcases n6 h with hkj|hkj
    ·obtain⟨o,x,ho,hx,hb,hxd⟩:=hd
     rw[hkj,hoj] at ho;injection ho with ho
     subst ho;exact hn x hx hb (hxd.trans e.symm)
    ·have:=h1 hkj
     rw[←e,hi] at this;cases this
   ·rwa [getD_set_ne g e] at hd'
  ·intro h
   refine g2 ?_;rw[getD_set_ne g hk];exact h
theorem Till.still{k d:Nat}{p:F→Prop}{w:F}{L:Array Bool}(h:Till k d p L w)(hd:L.getD d g=g):p w:=by
 refine h.2 ?_;cases hk:L.getD k g with
 |false=>rfl
 |true=>rw[h.1 hk] at hd;cases hd
theorem aS{b:Bool}{p:Prop}(h:b=D)(h':b=g):p:=by rw[h] at h';cases h'
theorem Till.start{k d n:Nat}{p:F→Prop}{w:F}(h:p w):Till k d p (Array.replicate n g) w:=by
 have e:(Array.replicate n g).getD k g=g:=by
  rcases Nat.lt_or_ge k n with h|h
  ·simp[h]
  ·simp[h]
 exact⟨fun h=>(by rw[e] at h;cases h),fun _=>h⟩
theorem pj{i:Nat}{o:Oper}{v:al}(hi:ops[i]? =ad o)(hsel:∀(j:Nat) (o:Oper) cs b,ops[j]? =ad o→o.op≠ .select cs b)
  (hQ:∀c a w,Q (.panic c) (a.put o.dst v) w→Q (.panic c) a w) (hG:Good md ops i S):
  ∀(n:Nat) (L:Array Bool) (a:Act) (w:F),
   (∀j oj,ops[j]? =ad oj→j≠i→L.getD j D=g→(∀e∈oj.after,Region.binds md e=D→e.on≠i)→o.apart ops oj=D)→
   i∈Region.ready md ops L→YieldsIf P ops (uF S i) o v a→S L w→
   lc S P md ops Q n (L.setIfInBounds i D) (a.put o.dst v) w→lc S P md ops Q (n+1) L a w:=by
 intro n;induction n with
 |zero=>
  intro L a w _ hr hy h0 H;have hun:L.getD i g=g:=by
   have:=(mem_ready.1 hr).1;rcases Nat.lt_or_ge i L.size with h|h
   ·simpa [h] using this
   ·simp[Array.getElem?_eq_none h]
  constructor
  ·intro h
   rw[h] at hr;cases hr
  ·intro j hj
   by_cases e:j=i
   ·subst e
    exact hy.wpOp hi ⟨L,hun,h0⟩ ⟨hG.up _ _ h0,H⟩
   ·have hm:=ready_mono hj e
    rw[H.1] at hm;cases hm
 |succ n ih=>
  intro L a w hfree hr hy h0 H;have hun:L.getD i g=g:=by
   have:=(mem_ready.1 hr).1;rcases Nat.lt_or_ge i L.size with h|h
   ·simpa [h] using this
   ·simp[Array.getElem?_eq_none h]
  constructor
  ·intro h
   rw[h] at hr;cases hr
  ·intro j hj
   by_cases e:j=i
   ·subst e
    exact hy.wpOp hi ⟨L,hun,h0⟩ ⟨hG.up _ _ h0,H⟩
   ·obtain⟨hjun,oj,hoj,hall⟩:=mem_ready.1 hj
    have hno:∀x∈oj.after,Region.binds md x=D→x.on≠i:=by
     intro x hx hb he;have hl:=hall x hx hb;rw[he,hun] at hl;cases hl
    have step:=wpOp_putIf hoj (hfree j oj hoj e hjun hno) (fun cs b=>hsel i o cs b hi) (fun cs b=>hsel j oj cs b hoj) hQ hy (H.2 j (ready_mono hj e));refine wpOp_mono ?_ step;rintro a' w' ⟨y',s',H'⟩;rw[Array.setIfInBounds_comm _ _ (Ne.symm e)] at s' H';refine⟨hG.back L j oj w w' h0 hun hoj e hno s',ih _ a' w' ?_ (ready_mono hr (Ne.symm e)) y' (hG.back L j oj w w' h0 hun hoj e hno s') H'⟩;intro k ok hk hki hku hkn;refine hfree k ok hk hki ?_ hkn;by_cases hjk:j=k
    ·subst hjk
     exact hjun
    ·rwa [getD_set_ne D hjk] at hku
theorem aO{i:Nat}{o:Oper}{v:al}{n:Nat}{L:Array Bool}{a:Act}{w:F}(hi:ops[i]? =ad o)
  (hs:Region.noSelect ops=D) (hf:Region.free md ops L i=D) (hr:(Region.ready md ops L).contains i=D)
  (hQ:∀c a w,Q (.panic c) (a.put o.dst v) w→Q (.panic c) a w) (hG:Good md ops i S) (hy:YieldsIf P ops (uF S i) o v a) (h0:S L w)
  (h:S (L.setIfInBounds i D) w→lc S P md ops Q n (L.setIfInBounds i D) (a.put o.dst v) w):lc S P md ops Q (n+1) L a w:=
 pj hi (Region.noSelect_spec hs) hQ hG n L a w (Region.free_spec hi hf) (by simpa using hr) hy h0 (h (hG.up _ _ h0))
theorem fj{n:Nat}{L:Array Bool}{a:Act}{w:F}(hr:Region.ready md ops L=[])(h:Q .normal a w):lc S P md ops Q n L a w:=by
 cases n with
 |zero=>exact⟨hr,h⟩
 |succ n=>exact⟨fun _=>h,fun k hk=>by rw[hr] at hk;cases hk⟩
def OneOf(S:Array Bool→F→Prop)(P:Program)(md:Region.Mode)(ops:Array Oper)(Q:Exit→Act→F→Prop)(n:Nat)(L:Array Bool)(a:Act)(w:F)(rs:List Nat):Prop:=
 ∀k∈rs,wpOp P ops Q k (fun b u=>S (L.setIfInBounds k D) u∧lc S P md ops Q n (L.setIfInBounds k D) b u) a w
theorem OneOf.nil{n:Nat}{L:Array Bool}{a:Act}{w:F}:OneOf S P md ops Q n L a w []:=fun _ h=>by cases h
theorem OneOf.cons{n:Nat}{L:Array Bool}{a:Act}{w:F}{i:Nat}{o:Oper}{rs:List Nat}(ho:ops[i]? =ad o)
  (h:∀K:Act→F→Prop,Shut (∀b u,S (L.setIfInBounds i D) u→(S (L.setIfInBounds i D) u→lc S P md ops Q n (L.setIfInBounds i D) b u)→K b u)→
   if Region.wanted o (yielded ops a.tmps)=D then Oper.wp P o a w K Q else K (a.put o.dst undef) w)
  (hs:OneOf S P md ops Q n L a w rs):OneOf S P md ops Q n L a w (i::rs):=by
 intro k hk;rcases List.mem_cons.1 hk with e|hk
 ·subst e
  exact wpOp_step ho fun K hK=>h K fun b u h1 h2=>hK b u ⟨h1,h2 h1⟩
 ·exact hs k hk
theorem aX{rs:List Nat}{n:Nat}{L:Array Bool}{a:Act}{w:F}(hr:Region.ready md ops L=rs)(hne:rs≠[])
  (h:OneOf S P md ops Q n L a w rs):lc S P md ops Q (n+1) L a w:=by
 constructor
 ·intro e
  exact absurd (hr.symm.trans e) hne
 ·intro k hk
  exact h k (hr▸hk)
theorem iE{id:Nat}{a:Act}{w:F}(hm:P.follows .mixedOrders =D)(h0:S (Array.replicate ops.size g) w.drew)
  (h:S (Array.replicate ops.size g) w.drew→lc S P .any ops Q ops.size (Array.replicate ops.size g) a w.drew):(Code.region id ops D).wp P Q a w:=
 wp_region_any hm (n5 (h h0))
end
def ao(v:al)(l:List Int):ab:=bZ 3 1 v l.length (l.map (N U))
theorem gQ{p L:Int}(hp:cP p=D)(h0:0≤L)(h3:L≤3):0≤am p L∧am p L<8:=by
 have hp':0≤p∧p<4096:=by unfold cP at hp;simpa using hp
 obtain⟨L,rfl⟩:=Int.eq_ofNat_of_zero_le h0;rw[oY hp'.1 hp'.2 (by omega)];omega
theorem ed{s:Ms}{t p L:Int}(hp:cP p=D)(h0:0≤L)(h3:L≤3):s.hasW t (am p L)=s.has t:=by
 obtain⟨i0,i8⟩:=gQ hp h0 h3;unfold Ms.hasW;simp[i0,i8]
def aF(p:Int)(n:Nat):List Int:=(List.range n).map fun(i:Nat)=>am p (3 - (i:Int))
theorem jR(p:Int)(n:Nat):aF p (n+1)=aF p n++[am p (3 - (n:Int))]:=by simp[aF,List.range_succ]
theorem gv(p:Int)(n:Nat):(aF p n).length =n:=by simp[aF]
theorem Has.set9{w:F}{R:ab}{b:Nat}{v0 v1 v2 v3 v4 v5 v6 v7 v8:al}{t:TypeId}(h:af w (aa b #[v0,v1,v2,v3,v4,v5,v6,v7,v8] t*R))(u0 u1 u2 u3 u4 u5 u6 u7 u8:al):
  af ((((((((((w.setCell (ag b 0 q) u0).setCell (ag b 1 q) u1).setCell (ag b 2 q) u2).setCell (ag b 3 q) u3).setCell (ag b 4 q) u4).setCell (ag b 5 q) u5).setCell (ag b 6 q) u6).setCell (ag b 7 q) u7).setCell (ag b 8 q) u8)) (aa b #[u0,u1,u2,u3,u4,u5,u6,u7,u8] t*R):=by
 have h0:af _ (aa b #[u0,v1,v2,v3,v4,v5,v6,v7,v8] t*R):=h.set 0 u0;have h1:af _ (aa b #[u0,u1,v2,v3,v4,v5,v6,v7,v8] t*R):=h0.set 1 u1;have h2:af _ (aa b #[u0,u1,u2,v3,v4,v5,v6,v7,v8] t*R):=h1.set 2 u2;have h3:af _ (aa b #[u0,u1,u2,u3,v4,v5,v6,v7,v8] t*R):=h2.set 3 u3;have h4:af _ (aa b #[u0,u1,u2,u3,u4,v5,v6,v7,v8] t*R):=h3.set 4 u4;have h5:af _ (aa b #[u0,u1,u2,u3,u4,u5,v6,v7,v8] t*R):=h4.set 5 u5;have h6:af _ (aa b #[u0,u1,u2,u3,u4,u5,u6,v7,v8] t*R):=h5.set 6 u6;have h7:af _ (aa b #[u0,u1,u2,u3,u4,u5,u6,u7,v8] t*R):=h6.set 7 u7;have h8:af _ (aa b #[u0,u1,u2,u3,u4,u5,u6,u7,u8] t*R):=h7.set 8 u8;exact h8
theorem Has.frees9{w:F}{R:ab}{b:Nat}{v0 v1 v2 v3 v4 v5 v6 v7 v8:al}{t:TypeId}(h:af w (aa b #[v0,v1,v2,v3,v4,v5,v6,v7,v8] t*R)):
  w.frozen? (ag b 0 q)=g∧w.frozen? (ag b 1 q)=g∧w.frozen? (ag b 2 q)=g∧w.frozen? (ag b 3 q)=g∧w.frozen? (ag b 4 q)=g∧w.frozen? (ag b 5 q)=g∧w.frozen? (ag b 6 q)=g∧w.frozen? (ag b 7 q)=g∧w.frozen? (ag b 8 q)=g:=
 ⟨h.free 0,h.free 1,h.free 2,h.free 3,h.free 4,h.free 5,h.free 6,h.free 7,h.free 8⟩
theorem Ext.set9{w0 w:F}(h:a0 w0 w)(b:Nat)(u0 u1 u2 u3 u4 u5 u6 u7 u8:al):a0 w0 ((((((((((w.setCell (ag b 0 q) u0).setCell (ag b 1 q) u1).setCell (ag b 2 q) u2).setCell (ag b 3 q) u3).setCell (ag b 4 q) u4).setCell (ag b 5 q) u5).setCell (ag b 6 q) u6).setCell (ag b 7 q) u7).setCell (ag b 8 q) u8)):=
 (((((((((h.set _ _).set _ _).set _ _).set _ _).set _ _).set _ _).set _ _).set _ _).set _ _)
theorem fk{w:F}{R:ab}{b:Nat}{v0 v1 v2 v3 v4 v5 v6 v7 v8:al}(h:af w (aa b #[v0,v1,v2,v3,v4,v5,v6,v7,v8] 206*R)):(loadVar 206 (ag b 0 q)).run prog w= .ok (.agg #[v0,v1,v2,v3,v4,v5,v6,v7,v8]) w:=
 run_loadVar_row w b 206 206 _ _ _ h.heap underlying206 rfl (by kernel_rfl)
def rM(y:Wy)(A B:Option a4)(n c d:Nat):al:= .tuple #[.agg #[N U y.lev,M y.e.there,M y.e.leaf,N U y.e.rights,M y.e.used,M y.e.dirty,N U y.e.frame,.slice A n c,.slice B n d],N U y.code]
def rN(y:Wy)(p:Int)(w:F)(e:Ending)(w':F):Prop:=
 ∃A B c d,e= .returned (rM y A B y.tabs.length c d)∧af w' (ao (.slice A y.tabs.length c) y.tabs*(ao (.slice B y.tabs.length d) (aF p y.tabs.length)*bS w w.heap.size))∧a0 w w'
def lev(w:F)(b:Nat):Nat:=match w.cell? (ag b 0 q) with|some (.int _ n)=>n.toNat|_=>0
theorem Has.build{w:F}{A B C:ab}(h:af w (A*(B*C)))(cs:Array al)(t:TypeId):af (w.alloc (.cells cs t)) (A*(B*(aa w.heap.size cs t*C))):=by
 have h1:=h.new cs t;rw[ar,ar (aa w.heap.size cs t) B C] at h1;exact h1
theorem fo{w:F}{b:Nat}{v:al}(h:w.cell? (ag b 0 q)=ad v):∀j u,([v]:List al)[j]? =ad u→w.cell? (((ag b 0 q):a4).add j)=ad u:=by
 intro j u hj;match j,hj with
 |0,hj=>simp at hj;subst hj;exact h
theorem ld{w:F}{A:Option a4}{c:Nat}{l:List Int}{P:ab}(h:af w (ao (.slice A l.length c) l*P)):af w (bZ 3 1 (.slice A l.length c) l.length (l.map (N U))*P):=h
theorem lg{w:F}{v:al}{p:Int}{n:Nat}{P:ab}(h:af w (ao v (aF p n)*P)):af w (bZ 3 1 v n ((aF p n).map (N U))*P):=by
 unfold ao at h;rw[gv] at h;exact h
theorem lh{w:F}{A B J1 J2 C:ab}(h:af w (A*(B*(J1*(J2*C))))):af w (A*(B*C)):=h.drop3.drop3
theorem li{w:F}{A B C:ab}{b:Nat}{v0 v1 v2 v3 v4 v5 v6 v7 v8:al}{t:TypeId}(h:af w (A*(B*(aa b #[v0,v1,v2,v3,v4,v5,v6,v7,v8] t*C))))(u7 u8:al):
  af ((w.setCell (ag b 7 q) u7).setCell (ag b 8 q) u8) (A*(B*(aa b #[v0,v1,v2,v3,v4,v5,v6,u7,u8] t*C))):=by
 rw[ar B,ar A] at h;have h1:af _ (aa b #[v0,v1,v2,v3,v4,v5,v6,u7,v8] t*_):=h.set 7 u7;have h2:af _ (aa b #[v0,v1,v2,v3,v4,v5,v6,u7,u8] t*_):=h1.set 8 u8;rw[ar B,ar A];exact h2
theorem qz{w:F}{A B C:ab}{b:Nat}{v0 v1 v2 v3 v4 v5 v6 v7 v8:al}{t:TypeId}(h:af w (A*(B*(aa b #[v0,v1,v2,v3,v4,v5,v6,v7,v8] t*C))))(u0:al):
  af (w.setCell (ag b 0 q) u0) (A*(B*(aa b #[u0,v1,v2,v3,v4,v5,v6,v7,v8] t*C))):=by
 rw[ar B,ar A] at h;have h1:af _ (aa b #[u0,v1,v2,v3,v4,v5,v6,v7,v8] t*_):=h.set 0 u0;rw[ar B,ar A];exact h1
theorem mK{w:F}{A B X O:ab}{b r:Nat}{v0 v1 v2 v3 v4 v5 v6 v7 v8 z0 z1 z2 z3 z4 z5 z6 z7 z8:al}{t:TypeId}(h:af w (A*(B*(aa b #[v0,v1,v2,v3,v4,v5,v6,v7,v8] t*(X*(aa r #[z0,z1,z2,z3,z4,z5,z6,z7,z8] t*O))))))(u1 u2 u3 u4 u5 u6:al):
  af (((((((((((((((w.setCell (ag b 1 q) u1).setCell (ag b 2 q) u2).setCell (ag b 3 q) u3).setCell (ag b 4 q) u4).setCell (ag b 5 q) u5).setCell (ag b 6 q) u6).setCell (ag r 0 q) v0).setCell (ag r 1 q) u1).setCell (ag r 2 q) u2).setCell (ag r 3 q) u3).setCell (ag r 4 q) u4).setCell (ag r 5 q) u5).setCell (ag r 6 q) u6).setCell (ag r 7 q) v7).setCell (ag r 8 q) v8) (aa r #[v0,u1,u2,u3,u4,u5,u6,v7,v8] t*(A*(B*O))):=by
 have h1:=h.drop4;rw[ar B,ar A] at h1;have s1:af _ (aa b #[v0,u1,v2,v3,v4,v5,v6,v7,v8] t*_):=h1.set 1 u1;have s2:af _ (aa b #[v0,u1,u2,v3,v4,v5,v6,v7,v8] t*_):=s1.set 2 u2;have s3:af _ (aa b #[v0,u1,u2,u3,v4,v5,v6,v7,v8] t*_):=s2.set 3 u3;have s4:af _ (aa b #[v0,u1,u2,u3,u4,v5,v6,v7,v8] t*_):=s3.set 4 u4;have s5:af _ (aa b #[v0,u1,u2,u3,u4,u5,v6,v7,v8] t*_):=s4.set 5 u5;have s6:af _ (aa b #[v0,u1,u2,u3,u4,u5,u6,v7,v8] t*_):=s5.set 6 u6;have h2:=s6.right;rw[ar B,ar A] at h2;exact h2.set9 _ _ _ _ _ _ _ _ _
theorem lj{w:F}{u v:al}{l:List Int}{x ix p:Int}{C:ab}(hp:aF p (l.length+1)=aF p l.length++[ix])
  (h:af w (bZ 3 1 u (l.length+1) (l.map (N U)++[N U x])*(bZ 3 1 v (l.length+1) ((aF p l.length).map (N U)++[N U ix])*C))):af w (ao u (l++[x])*(ao v (aF p (l.length+1))*C)):=by
 unfold ao;rw[hp,Z,Z,List.length_singleton,List.length_singleton,gv,List.map_append,List.map_append];exact h
theorem iT(n:Int):∀u∈([N U n]:List al),u.oneCell'=D:=by
 intro u hu;simp at hu;subst hu;rfl
set_option maxHeartbeats 4000000 in
theorem n7(f:Nat)(s:Ms)(root p:Int)(R:ab)(w:F)(hs:s.Ok)(h:af w (ai f s*R)):
  a5 prog 149 #[.pointer (ad (ag f 0 q)),.int .i64 root,.int .i64 p] w (rN (bp s root p) p w):=by
 have h1:=(aT w).new #[N U 0,M g,M g,N U 0,M g,M g,N U 0,.slice q 0 0,.slice q 0 0] 206;have x1:=(Ext.refl w).alloc (.cells #[N U 0,M g,M g,N U 0,M g,M g,N U 0,.slice q 0 0,.slice q 0 0] 206);have HH:=G (dm p);cases hp:cP p with
 |false=>
  have hy:=G (show bp s root p= .err 1 by unfold bp;rw[hp];rfl);rw[hp] at HH;go_enter func149,ntmps149;go_wp2_with(refine(HH.out _).mono ?_;rintro e w2 ⟨rfl,rfl⟩)
  refine ak (fun wz=>af wz (aa w.heap.size #[N U 0,M g,M g,N U 0,M g,M g,N U 0,.slice q 0 0,.slice q 0 0] 206*bS w w.heap.size)∧a0 w wz) ⟨h1,ah⟩ ?_;rintro wz ⟨hz,xz⟩;exact J (av results149 rfl rfl (fk hz)) rfl ⟨q,q,0,0,by rw[hy.out];rfl,by rw[hy.out];exact an (an hz.right),xz⟩
 |true=>
  have hwy:=G (show bp s root p=cZ s p 3 root [] by unfold bp;rw[if_pos hp]);rw[hp] at HH;have h2:=h1.new #[N U 3,M g,M g,N U 0,M g,M g,N U 0,.slice q 0 0,.slice q 0 0] 206;have x2:=x1.alloc (.cells #[N U 3,M g,M g,N U 0,M g,M g,N U 0,.slice q 0 0,.slice q 0 0] 206);simp only[Y] at h2;have h3:af ((w.alloc (.cells #[N U 0,M g,M g,N U 0,M g,M g,N U 0,.slice q 0 0,.slice q 0 0] 206)).alloc (.cells #[N U 3,M g,M g,N U 0,M g,M g,N U 0,.slice q 0 0,.slice q 0 0] 206))
    (ao (.slice q 0 0) []*(ao (.slice q 0 0) []*(aa (w.heap.size+1) #[N U 3,M g,M g,N U 0,M g,M g,N U 0,.slice q 0 0,.slice q 0 0] 206*(aa w.heap.size #[N U 0,M g,M g,N U 0,M g,M g,N U 0,.slice q 0 0,.slice q 0 0] 206*bS w w.heap.size)))):=an (an h2)
  clear h1 x1 h2;go_enter func149,ntmps149;go_wp2_with(refine(HH.out _).mono ?_;rintro e w2 ⟨rfl,rfl⟩)
  go_loopw [9] (fun s9 wr=>∃(L:Nat) (t:Int) (acc:List Int) (A B:Option a4) (c d:Nat),s9=N U t∧acc.length+L=3∧Hid (cZ s p 3 root []=cZ s p L t acc)∧
    af wr (ao (.slice A acc.length c) acc*(ao (.slice B acc.length d) (aF p acc.length)*(aa (w.heap.size+1) #[N U L,M g,M g,N U 0,M g,M g,N U 0,.slice A acc.length c,.slice B acc.length d] 206*(aa w.heap.size #[N U 0,M g,M g,N U 0,M g,M g,N U 0,.slice q 0 0,.slice q 0 0] 206*bS w w.heap.size))))∧a0 w wr)
   (fun _ wr=>lev wr (w.heap.size+1))
  case atStart=>exact⟨3,root,[],q,q,0,0,rfl,rfl,G rfl,h3,x2⟩
  case round=>
   clear h3 x2;obtain⟨L,t,acc,A,B,c,d,rfl,hL,HW,hr,hx⟩:=hrel;have hlev:=G (show lev wr (w.heap.size+1)=L by unfold lev;rw[hr.right.right.cell 0];rfl);have hL3:(L:Int)≤3:=by omega
   have hL0:(0:Int)≤L:=by omega
   obtain⟨c0,c1,c2,c3,c4,c5,c6,c7,c8⟩:=hr.right.right.cells9;have cl:=hr.right.right.lt;obtain⟨r0,r1,r2,r3,r4,r5,r6,r7,r8⟩:=hr.r3.cells9;obtain⟨g0,g1,g2,g3,g4,g5,g6,g7,g8⟩:=hr.r3.frees9;have rl:=hr.r3.lt;have hF:af wr (ai f s*R):=(h.onto' (hr.eq (show _=(ao (.slice A acc.length c) acc*(ao (.slice B acc.length d) (aF p acc.length)*(aa (w.heap.size+1) #[N U L,M g,M g,N U 0,M g,M g,N U 0,.slice A acc.length c,.slice B acc.length d] 206*aa w.heap.size #[N U 0,M g,M g,N U 0,M g,M g,N U 0,.slice q 0 0,.slice q 0 0] 206)))*bS w w.heap.size by simp only[aG]))).right;have hLD:=qc f s t (am p L) R wr hF;rw[ed hp hL0 hL3] at hLD;have hIX:=jH p L wr;have hwq:s.has t=D→dQ s t (am p L)=ay s t (am p L):=fun e=>by
    unfold dQ ay;rw[if_pos (by rw[ed hp hL0 hL3];exact e)]
   cases ht:s.has t with
   |false=>
    rw[ht] at hLD;have hy:=G (show bp s root p= .err 12 by rw[hwy.out,HW.out];exact gO ht);clear hwq ht;generalize am p L=ix at*
    generalize dQ s t ix=v at*
    go_wp2_with fail
    refine hIX.mono ?_;rintro e w2 ⟨rfl,rfl⟩;go_wp2_with fail
    refine hLD.mono ?_;rintro e w2 ⟨rfl,rfl⟩;go_wp2_with fail
    refine ak (fun wz=>af wz (aa w.heap.size #[N U 0,M g,M g,N U 0,M g,M g,N U 0,.slice q 0 0,.slice q 0 0] 206*bS w w.heap.size)∧a0 w wz) ⟨hr.r3.set9 _ _ _ _ _ _ _ _ _,hx.set9 _ _ _ _ _ _ _ _ _ _⟩ ?_;rintro wz ⟨hz,xz⟩;exact J (av results149 rfl rfl (fk hz)) rfl ⟨q,q,0,0,by rw[hy.out];rfl,by rw[hy.out];exact an (an hz.right),xz⟩
   |true=>
    rw[ht] at hLD;rw[hwq ht] at hLD;clear hwq;have hb:=hs.inv.wok t.toNat (am p L).toNat;have HD:=G (fun W=>jX (ay s t (am p L)) L W hb.1 hb.2);clear hb;by_cases hc:bu (ay s t (am p L)) L=0
    case neg=>
     have hy:=G (show bp s root p= .err (bu (ay s t (am p L)) L) by rw[hwy.out,HW.out];exact iI ht hc);have hv:=G (dd (w:=ay s t (am p L)) (l:=L) rfl (.inl hc));rw[hv.out] at HD;clear hv;have hn:(bu (ay s t (am p L)) L !=0)=D:=by simpa using hc
     clear hc;generalize bu (ay s t (am p L)) L=code at*
     generalize ay s t (am p L)=v at*
     generalize am p L=ix at*
     go_wp2_with fail
     refine hIX.mono ?_;rintro e w2 ⟨rfl,rfl⟩;go_wp2_with fail
     refine hLD.mono ?_;rintro e w2 ⟨rfl,rfl⟩;go_wp2_with fail
     refine(HD.out _).mono ?_;rintro e w2 ⟨rfl,b2⟩;have h2:=(hr.r3.below b2);have x2:=hx.below b2;clear r0 r1 r2 r3 r4 r5 r6 r7 r8 g0 g1 g2 g3 g4 g5 g6 g7 g8 rl;obtain⟨r0,r1,r2,r3,r4,r5,r6,r7,r8⟩:=h2.cells9;obtain⟨g0,g1,g2,g3,g4,g5,g6,g7,g8⟩:=h2.frees9;have rl:=h2.lt;go_wp2_with fail
     refine ak (fun wz=>af wz (aa w.heap.size #[N U 0,M g,M g,N U 0,M g,M g,N U 0,.slice q 0 0,.slice q 0 0] 206*bS w w.heap.size)∧a0 w wz) ⟨(h2.set9 _ _ _ _ _ _ _ _ _).alloc _,(x2.set9 _ _ _ _ _ _ _ _ _ _).alloc _⟩ ?_;rintro wz ⟨hz,xz⟩;exact J (av results149 rfl rfl (fk hz)) rfl ⟨q,q,0,0,by rw[hy.out];rfl,by rw[hy.out];exact an (an hz.right),xz⟩
    have hy:=G (show bp s root p=cZ s p L t acc by rw[hwy.out,HW.out]);have hend:=G (fun he=>fF (acc:=acc) ht hc he);have hon:=G (fun he=>jP (acc:=acc) ht hc he);have hv:=G (show eZ (ay s t (am p L)) L= .tuple #[.agg #[M (aE (ay s t (am p L)) L).there,M (aE (ay s t (am p L)) L).leaf,N U (aE (ay s t (am p L)) L).rights,M (aE (ay s t (am p L)) L).used,M (aE (ay s t (am p L)) L).dirty,N U (aE (ay s t (am p L)) L).frame],N U 0] by unfold eZ;rw[hc]);rw[hv.out] at HD;clear hv hc HW;have hpl:=G (show aF p (acc.length+1)=aF p acc.length++[am p L] by rw[jR,show(3:Int) - acc.length=L by omega]);generalize aE (ay s t (am p L)) L=e at*
    generalize ay s t (am p L)=v at*
    generalize am p L=ix at*
    go_wp2_with fail
    refine hIX.mono ?_;rintro e2 w2 ⟨rfl,rfl⟩;go_wp2_with fail
    refine hLD.mono ?_;rintro e2 w2 ⟨rfl,rfl⟩;go_wp2_with fail
    refine(HD.out _).mono ?_;rintro e2 w2 ⟨rfl,b2⟩;have h2:=(hr.below b2).build #[M e.there,M e.leaf,N U e.rights,M e.used,M e.dirty,N U e.frame] 70;have x2:=(hx.below b2).alloc (.cells #[M e.there,M e.leaf,N U e.rights,M e.used,M e.dirty,N U e.frame] 70);clear r0 r1 r2 r3 r4 r5 r6 r7 r8 g0 g1 g2 g3 g4 g5 g6 g7 g8 rl c0 c1 c2 c3 c4 c5 c6 c7 c8 cl hF hLD hIX HD hr hx;go_upto_region 13 with fail;generalize w2.alloc _=w4 at*
    generalize w2.heap.size=E at*
    have h3:af w4 (ao (.slice A acc.length c) acc*(ao (.slice B acc.length d) (aF p acc.length)*(aa (w.heap.size+1) #[N U L,M g,M g,N U 0,M g,M g,N U 0,.slice A acc.length c,.slice B acc.length d] 206*
      (aa E #[M e.there,M e.leaf,N U e.rights,M e.used,M e.dirty,N U e.frame] 70*(aa w.heap.size #[N U 0,M g,M g,N U 0,M g,M g,N U 0,.slice q 0 0,.slice q 0 0] 206*bS w w.heap.size))))):=h2.eq (by congr 2;exact ar _ _ _)
    clear h2 b2;go_cut [] (fun wx=>∃(A' B':Option a4) (c' d':Nat),af wx (ao (.slice A' (acc.length+1) c') (acc++[t])*(ao (.slice B' (acc.length+1) d') (aF p (acc.length+1))*(aa (w.heap.size+1) #[N U L,M g,M g,N U 0,M g,M g,N U 0,.slice A' (acc.length+1) c',.slice B' (acc.length+1) d'] 206*
      (aa E #[M e.there,M e.leaf,N U e.rights,M e.used,M e.dirty,N U e.frame] 70*(aa w.heap.size #[N U 0,M g,M g,N U 0,M g,M g,N U 0,.slice q 0 0,.slice q 0 0] 206*bS w w.heap.size)))))∧a0 w wx)
    case first=>
     have c7:w4.cell? ⟨w.heap.size+1,7,q⟩=ad (.slice A acc.length c):=h3.right.right.cell 7;have c8:w4.cell? ⟨w.heap.size+1,8,q⟩=ad (.slice B acc.length d):=h3.right.right.cell 8;refine iE (S:=fun L w'=>Till 4 1 (fun w'=>w'.cell? ⟨w.heap.size+1,7,q⟩=ad (.slice A acc.length c)) L w'∧Till 9 6 (fun w'=>w'.cell? ⟨w.heap.size+1,8,q⟩=ad (.slice B acc.length d)) L w') (by kernel_rfl) ⟨Till.start c7,Till.start c8⟩ (fun hHeld=> ?_);refine aO (i:=0) (v:= ?_) rfl (by kernel_rfl) (by kernel_rfl) (by kernel_rfl) (fun _ _ _ h=>h) (Good.and (Good.till (by decide) ⟨_,⟨1,.data⟩,rfl,by simp,rfl,rfl⟩) (Good.till (by decide) ⟨_,⟨6,.data⟩,rfl,by simp,rfl,rfl⟩)) (Or.inl ⟨by kernel_rfl,?_⟩) hHeld (fun hHeld=> ?_);rotate_left;focus (intro wS hSw;obtain⟨Lx,hLx,hs1,hs2⟩:=hSw;skip;go_simp;first|done|with_reducible rfl)
     try go_simp
     refine aO (i:=1) (v:= ?_) rfl (by kernel_rfl) (by kernel_rfl) (by kernel_rfl) (fun _ _ _ h=>h) (Good.and (Good.till (by decide) ⟨_,⟨1,.data⟩,rfl,by simp,rfl,rfl⟩) (Good.till (by decide) ⟨_,⟨6,.data⟩,rfl,by simp,rfl,rfl⟩)) (Or.inl ⟨by kernel_rfl,?_⟩) hHeld (fun hHeld=> ?_);rotate_left;focus (intro wS hSw;obtain⟨Lx,hLx,hs1,hs2⟩:=hSw;have cS:=hs1.still hLx;go_simp;first|done|with_reducible rfl)
     try go_simp
     refine aO (i:=2) (v:= ?_) rfl (by kernel_rfl) (by kernel_rfl) (by kernel_rfl) (fun _ _ _ h=>h) (Good.and (Good.till (by decide) ⟨_,⟨1,.data⟩,rfl,by simp,rfl,rfl⟩) (Good.till (by decide) ⟨_,⟨6,.data⟩,rfl,by simp,rfl,rfl⟩)) (Or.inl ⟨by kernel_rfl,?_⟩) hHeld (fun hHeld=> ?_);rotate_left;focus (intro wS hSw;obtain⟨Lx,hLx,hs1,hs2⟩:=hSw;skip;go_simp;first|done|with_reducible rfl)
     try go_simp
     refine aO (i:=5) (v:= ?_) rfl (by kernel_rfl) (by kernel_rfl) (by kernel_rfl) (fun _ _ _ h=>h) (Good.and (Good.till (by decide) ⟨_,⟨1,.data⟩,rfl,by simp,rfl,rfl⟩) (Good.till (by decide) ⟨_,⟨6,.data⟩,rfl,by simp,rfl,rfl⟩)) (Or.inl ⟨by kernel_rfl,?_⟩) hHeld (fun hHeld=> ?_);rotate_left;focus (intro wS hSw;obtain⟨Lx,hLx,hs1,hs2⟩:=hSw;skip;go_simp;first|done|with_reducible rfl)
     try go_simp
     refine aO (i:=6) (v:= ?_) rfl (by kernel_rfl) (by kernel_rfl) (by kernel_rfl) (fun _ _ _ h=>h) (Good.and (Good.till (by decide) ⟨_,⟨1,.data⟩,rfl,by simp,rfl,rfl⟩) (Good.till (by decide) ⟨_,⟨6,.data⟩,rfl,by simp,rfl,rfl⟩)) (Or.inl ⟨by kernel_rfl,?_⟩) hHeld (fun hHeld=> ?_);rotate_left;focus (intro wS hSw;obtain⟨Lx,hLx,hs1,hs2⟩:=hSw;have cS:=hs2.still hLx;go_simp;first|done|with_reducible rfl)
     try go_simp
     refine aO (i:=7) (v:= ?_) rfl (by kernel_rfl) (by kernel_rfl) (by kernel_rfl) (fun _ _ _ h=>h) (Good.and (Good.till (by decide) ⟨_,⟨1,.data⟩,rfl,by simp,rfl,rfl⟩) (Good.till (by decide) ⟨_,⟨6,.data⟩,rfl,by simp,rfl,rfl⟩)) (Or.inl ⟨by kernel_rfl,?_⟩) hHeld (fun hHeld=> ?_);rotate_left;focus (intro wS hSw;obtain⟨Lx,hLx,hs1,hs2⟩:=hSw;skip;go_simp;first|done|with_reducible rfl)
     try go_simp
     have h3d:=h3.drew;refine aX (rs:=[3,8]) (by kernel_rfl) (by simp) ?_;refine OneOf.cons rfl (fun K hK=> ?_) ?_;focus
      have k1:=h3d.build #[N U t] 3;try simp only[Y] at k1
      go_simp;refine hK.out _ _ ⟨⟨fun _=>by kernel_rfl,fun _=>k1.r3.cell 7⟩,⟨fun _=>by kernel_rfl,fun _=>k1.r3.cell 8⟩⟩ (fun hHeld=> ?_);clear hK K;refine aX (rs:=[4,8]) (by kernel_rfl) (by simp) ?_;refine OneOf.cons rfl (fun K hK=> ?_) ?_;focus
       refine cg rfl (.tmp 51) (.tmp 53) 45 rfl underlying45 gr (.slice A acc.length c) acc.length (acc.map (N U)) (by simp[Act.eval]) (ld k1) (ag w4.drew.heap.size 0 q) 1 1 [N U t] (by simp[Act.eval]) rfl (fo (k1.right.right.cell 0)) (iT t) (by unfold maxLen;omega) (by omega) ?_;intro A2 a3 w22 k2 y2;try go_simp
       refine hK.out _ _ ⟨⟨fun _=>by kernel_rfl,fun h=>aS (by kernel_rfl) h⟩,⟨fun _=>by kernel_rfl,fun _=>k2.r3.cell 8⟩⟩ (fun hHeld=> ?_);clear hK K;refine aO (i:=10) (v:= ?_) rfl (by kernel_rfl) (by kernel_rfl) (by kernel_rfl) (fun _ _ _ h=>h) (Good.and (Good.till (by decide) ⟨_,⟨1,.data⟩,rfl,by simp,rfl,rfl⟩) (Good.till (by decide) ⟨_,⟨6,.data⟩,rfl,by simp,rfl,rfl⟩)) (Or.inl ⟨by kernel_rfl,?_⟩) hHeld (fun hHeld=> ?_);rotate_left;focus (intro wS hSw;obtain⟨Lx,hLx,hs1,hs2⟩:=hSw;skip;go_simp;first|done|with_reducible rfl)
       try go_simp
       refine aX (rs:=[8]) (by kernel_rfl) (by simp) ?_;refine OneOf.cons rfl (fun K hK=> ?_) ?_;focus
        have k3:=k2.build #[N U ix] 3;try simp only[Y] at k3
        go_simp;refine hK.out _ _ ⟨⟨fun _=>by kernel_rfl,fun h=>aS (by kernel_rfl) h⟩,⟨fun _=>by kernel_rfl,fun _=>k3.right.r3.cell 8⟩⟩ (fun hHeld=> ?_);clear hK K;refine aX (rs:=[9]) (by kernel_rfl) (by simp) ?_;refine OneOf.cons rfl (fun K hK=> ?_) ?_;focus
         refine cg rfl (.tmp 56) (.tmp 58) 45 rfl underlying45 gr (.slice B acc.length d) acc.length ((aF p acc.length).map (N U)) (by simp[Act.eval]) (lg k3.p2) (ag w22.heap.size 0 q) 1 1 [N U ix] (by simp[Act.eval]) rfl (fo (k3.right.right.cell 0)) (iT ix) (by unfold maxLen;omega) (by omega) ?_;intro B2 b3 w24 k4 y4;try go_simp
         refine hK.out _ _ ⟨⟨fun _=>by kernel_rfl,fun h=>aS (by kernel_rfl) h⟩,⟨fun _=>by kernel_rfl,fun h=>aS (by kernel_rfl) h⟩⟩ (fun hHeld=> ?_);clear hK K;have hz:=k4.p2;have xz:=(((((((x2.drew).alloc _)).trans y2).alloc _)).trans y4);have cl:=hz.right.r3.lt;have f7:=hz.right.r3.free 7;have f8:=hz.right.r3.free 8;have e7:=hz.right.r3.cell 7;have e8:=hz.right.r3.cell 8;have hfin:=lh hz;refine aX (rs:=[11]) (by kernel_rfl) (by simp) ?_;refine OneOf.cons rfl (fun K hK=> ?_) OneOf.nil;go_simp;refine hK.out _ _ ⟨⟨fun _=>by kernel_rfl,fun h=>aS (by kernel_rfl) h⟩,⟨fun _=>by kernel_rfl,fun h=>aS (by kernel_rfl) h⟩⟩ (fun hHeld=> ?_);clear hK K;refine aO (i:=12) (v:= ?_) rfl (by kernel_rfl) (by kernel_rfl) (by kernel_rfl) (fun _ _ _ h=>h) (Good.and (Good.till (by decide) ⟨_,⟨1,.data⟩,rfl,by simp,rfl,rfl⟩) (Good.till (by decide) ⟨_,⟨6,.data⟩,rfl,by simp,rfl,rfl⟩)) (Or.inl ⟨by kernel_rfl,?_⟩) hHeld (fun hHeld=> ?_);rotate_left;focus (intro wS hSw;obtain⟨Lx,hLx,hs1,hs2⟩:=hSw;skip;go_simp;first|done|with_reducible rfl)
         try go_simp
         refine aX (rs:=[13]) (by kernel_rfl) (by simp) ?_;refine OneOf.cons rfl (fun K hK=> ?_) OneOf.nil;go_simp;refine hK.out _ _ ⟨⟨fun _=>by kernel_rfl,fun h=>aS (by kernel_rfl) h⟩,⟨fun _=>by kernel_rfl,fun h=>aS (by kernel_rfl) h⟩⟩ (fun hHeld=> ?_);clear hK K;refine fj (by kernel_rfl) ?_;go_wp2_with fail
         go_meet
         case rel=>exact⟨A2,B2,a3,b3,lj hpl.out (li hfin _ _),(xz.set _ _).set _ _⟩
        exact OneOf.nil
       exact OneOf.nil
      refine OneOf.cons rfl (fun K hK=> ?_) ?_;focus
       have k5:=k1.build #[N U ix] 3;try simp only[Y] at k5
       go_simp;refine hK.out _ _ ⟨⟨fun _=>by kernel_rfl,fun _=>k5.right.r3.cell 7⟩,⟨fun _=>by kernel_rfl,fun _=>k5.right.r3.cell 8⟩⟩ (fun hHeld=> ?_);clear hK K;refine aX (rs:=[4]) (by kernel_rfl) (by simp) ?_;refine OneOf.cons rfl (fun K hK=> ?_) ?_;focus
        refine cg rfl (.tmp 51) (.tmp 53) 45 rfl underlying45 gr (.slice A acc.length c) acc.length (acc.map (N U)) (by simp[Act.eval]) (ld k5) (ag w4.drew.heap.size 0 q) 1 1 [N U t] (by simp[Act.eval]) rfl (fo (k5.r3.cell 0)) (iT t) (by unfold maxLen;omega) (by omega) ?_;intro A2 a3 w26 k6 y6;try go_simp
        refine hK.out _ _ ⟨⟨fun _=>by kernel_rfl,fun h=>aS (by kernel_rfl) h⟩,⟨fun _=>by kernel_rfl,fun _=>k6.right.r3.cell 8⟩⟩ (fun hHeld=> ?_);clear hK K;refine aO (i:=10) (v:= ?_) rfl (by kernel_rfl) (by kernel_rfl) (by kernel_rfl) (fun _ _ _ h=>h) (Good.and (Good.till (by decide) ⟨_,⟨1,.data⟩,rfl,by simp,rfl,rfl⟩) (Good.till (by decide) ⟨_,⟨6,.data⟩,rfl,by simp,rfl,rfl⟩)) (Or.inl ⟨by kernel_rfl,?_⟩) hHeld (fun hHeld=> ?_);rotate_left;focus (intro wS hSw;obtain⟨Lx,hLx,hs1,hs2⟩:=hSw;skip;go_simp;first|done|with_reducible rfl)
        try go_simp
        refine aX (rs:=[9]) (by kernel_rfl) (by simp) ?_;refine OneOf.cons rfl (fun K hK=> ?_) ?_;focus
         refine cg rfl (.tmp 56) (.tmp 58) 45 rfl underlying45 gr (.slice B acc.length d) acc.length ((aF p acc.length).map (N U)) (by simp[Act.eval]) (lg k6.p2) ⟨w4.drew.heap.size+1,0,q⟩ 1 1 [N U ix] (by simp[Act.eval]) rfl (fo (k6.right.right.cell 0)) (iT ix) (by unfold maxLen;omega) (by omega) ?_;intro B2 b3 w27 k7 y7;try go_simp
         refine hK.out _ _ ⟨⟨fun _=>by kernel_rfl,fun h=>aS (by kernel_rfl) h⟩,⟨fun _=>by kernel_rfl,fun h=>aS (by kernel_rfl) h⟩⟩ (fun hHeld=> ?_);clear hK K;have hz:=k7.p2;have xz:=(((((((x2.drew).alloc _).alloc _)).trans y6)).trans y7);have cl:=hz.right.r3.lt;have f7:=hz.right.r3.free 7;have f8:=hz.right.r3.free 8;have e7:=hz.right.r3.cell 7;have e8:=hz.right.r3.cell 8;have hfin:=lh hz;refine aX (rs:=[11]) (by kernel_rfl) (by simp) ?_;refine OneOf.cons rfl (fun K hK=> ?_) OneOf.nil;go_simp;refine hK.out _ _ ⟨⟨fun _=>by kernel_rfl,fun h=>aS (by kernel_rfl) h⟩,⟨fun _=>by kernel_rfl,fun h=>aS (by kernel_rfl) h⟩⟩ (fun hHeld=> ?_);clear hK K;refine aO (i:=12) (v:= ?_) rfl (by kernel_rfl) (by kernel_rfl) (by kernel_rfl) (fun _ _ _ h=>h) (Good.and (Good.till (by decide) ⟨_,⟨1,.data⟩,rfl,by simp,rfl,rfl⟩) (Good.till (by decide) ⟨_,⟨6,.data⟩,rfl,by simp,rfl,rfl⟩)) (Or.inl ⟨by kernel_rfl,?_⟩) hHeld (fun hHeld=> ?_);rotate_left;focus (intro wS hSw;obtain⟨Lx,hLx,hs1,hs2⟩:=hSw;skip;go_simp;first|done|with_reducible rfl)
         try go_simp
         refine aX (rs:=[13]) (by kernel_rfl) (by simp) ?_;refine OneOf.cons rfl (fun K hK=> ?_) OneOf.nil;go_simp;refine hK.out _ _ ⟨⟨fun _=>by kernel_rfl,fun h=>aS (by kernel_rfl) h⟩,⟨fun _=>by kernel_rfl,fun h=>aS (by kernel_rfl) h⟩⟩ (fun hHeld=> ?_);clear hK K;refine fj (by kernel_rfl) ?_;go_wp2_with fail
         go_meet
         case rel=>exact⟨A2,B2,a3,b3,lj hpl.out (li hfin _ _),(xz.set _ _).set _ _⟩
        exact OneOf.nil
       exact OneOf.nil
      exact OneOf.nil
     refine OneOf.cons rfl (fun K hK=> ?_) ?_;focus
      have k8:=h3d.build #[N U ix] 3;try simp only[Y] at k8
      go_simp;refine hK.out _ _ ⟨⟨fun _=>by kernel_rfl,fun _=>k8.r3.cell 7⟩,⟨fun _=>by kernel_rfl,fun _=>k8.r3.cell 8⟩⟩ (fun hHeld=> ?_);clear hK K;refine aX (rs:=[3]) (by kernel_rfl) (by simp) ?_;refine OneOf.cons rfl (fun K hK=> ?_) ?_;focus
       have k9:=k8.build #[N U t] 3;try simp only[Y] at k9
       go_simp;refine hK.out _ _ ⟨⟨fun _=>by kernel_rfl,fun _=>k9.right.r3.cell 7⟩,⟨fun _=>by kernel_rfl,fun _=>k9.right.r3.cell 8⟩⟩ (fun hHeld=> ?_);clear hK K;refine aX (rs:=[4]) (by kernel_rfl) (by simp) ?_;refine OneOf.cons rfl (fun K hK=> ?_) ?_;focus
        refine cg rfl (.tmp 51) (.tmp 53) 45 rfl underlying45 gr (.slice A acc.length c) acc.length (acc.map (N U)) (by simp[Act.eval]) (ld k9) ⟨w4.drew.heap.size+1,0,q⟩ 1 1 [N U t] (by simp[Act.eval]) rfl (fo (k9.right.right.cell 0)) (iT t) (by unfold maxLen;omega) (by omega) ?_;intro A2 a3 w30 k10 y10;try go_simp
        refine hK.out _ _ ⟨⟨fun _=>by kernel_rfl,fun h=>aS (by kernel_rfl) h⟩,⟨fun _=>by kernel_rfl,fun _=>k10.right.r3.cell 8⟩⟩ (fun hHeld=> ?_);clear hK K;refine aO (i:=10) (v:= ?_) rfl (by kernel_rfl) (by kernel_rfl) (by kernel_rfl) (fun _ _ _ h=>h) (Good.and (Good.till (by decide) ⟨_,⟨1,.data⟩,rfl,by simp,rfl,rfl⟩) (Good.till (by decide) ⟨_,⟨6,.data⟩,rfl,by simp,rfl,rfl⟩)) (Or.inl ⟨by kernel_rfl,?_⟩) hHeld (fun hHeld=> ?_);rotate_left;focus (intro wS hSw;obtain⟨Lx,hLx,hs1,hs2⟩:=hSw;skip;go_simp;first|done|with_reducible rfl)
        try go_simp
        refine aX (rs:=[9]) (by kernel_rfl) (by simp) ?_;refine OneOf.cons rfl (fun K hK=> ?_) ?_;focus
         refine cg rfl (.tmp 56) (.tmp 58) 45 rfl underlying45 gr (.slice B acc.length d) acc.length ((aF p acc.length).map (N U)) (by simp[Act.eval]) (lg k10.p2) (ag w4.drew.heap.size 0 q) 1 1 [N U ix] (by simp[Act.eval]) rfl (fo (k10.r3.cell 0)) (iT ix) (by unfold maxLen;omega) (by omega) ?_;intro B2 b3 w31 k11 y11;try go_simp
         refine hK.out _ _ ⟨⟨fun _=>by kernel_rfl,fun h=>aS (by kernel_rfl) h⟩,⟨fun _=>by kernel_rfl,fun h=>aS (by kernel_rfl) h⟩⟩ (fun hHeld=> ?_);clear hK K;have hz:=k11.p2;have xz:=(((((((x2.drew).alloc _).alloc _)).trans y10)).trans y11);have cl:=hz.right.r3.lt;have f7:=hz.right.r3.free 7;have f8:=hz.right.r3.free 8;have e7:=hz.right.r3.cell 7;have e8:=hz.right.r3.cell 8;have hfin:=lh hz;refine aX (rs:=[11]) (by kernel_rfl) (by simp) ?_;refine OneOf.cons rfl (fun K hK=> ?_) OneOf.nil;go_simp;refine hK.out _ _ ⟨⟨fun _=>by kernel_rfl,fun h=>aS (by kernel_rfl) h⟩,⟨fun _=>by kernel_rfl,fun h=>aS (by kernel_rfl) h⟩⟩ (fun hHeld=> ?_);clear hK K;refine aO (i:=12) (v:= ?_) rfl (by kernel_rfl) (by kernel_rfl) (by kernel_rfl) (fun _ _ _ h=>h) (Good.and (Good.till (by decide) ⟨_,⟨1,.data⟩,rfl,by simp,rfl,rfl⟩) (Good.till (by decide) ⟨_,⟨6,.data⟩,rfl,by simp,rfl,rfl⟩)) (Or.inl ⟨by kernel_rfl,?_⟩) hHeld (fun hHeld=> ?_);rotate_left;focus (intro wS hSw;obtain⟨Lx,hLx,hs1,hs2⟩:=hSw;skip;go_simp;first|done|with_reducible rfl)
         try go_simp
         refine aX (rs:=[13]) (by kernel_rfl) (by simp) ?_;refine OneOf.cons rfl (fun K hK=> ?_) OneOf.nil;go_simp;refine hK.out _ _ ⟨⟨fun _=>by kernel_rfl,fun h=>aS (by kernel_rfl) h⟩,⟨fun _=>by kernel_rfl,fun h=>aS (by kernel_rfl) h⟩⟩ (fun hHeld=> ?_);clear hK K;refine fj (by kernel_rfl) ?_;go_wp2_with fail
         go_meet
         case rel=>exact⟨A2,B2,a3,b3,lj hpl.out (li hfin _ _),(xz.set _ _).set _ _⟩
        exact OneOf.nil
       exact OneOf.nil
      exact OneOf.nil
     exact OneOf.nil
    case rest=>
     obtain⟨A',B',c',d',hr,hx⟩:=hcut;clear h3 x2;obtain⟨c0,c1,c2,c3,c4,c5,c6,c7,c8⟩:=hr.right.right.cells9;obtain⟨f0,f1,f2,f3,f4,f5,f6,f7,f8⟩:=hr.right.right.frees9;have cl:=hr.right.right.lt;obtain⟨e0,e1,e2,e3,e4,e5⟩:=hr.r3.cells6;have el:=hr.r3.lt;have hE:=hr.right.r3;obtain⟨r0,r1,r2,r3,r4,r5,r6,r7,r8⟩:=hE.cells9;obtain⟨g0,g1,g2,g3,g4,g5,g6,g7,g8⟩:=hE.frees9;have rl:=hE.lt;have hne:w.heap.size+1≠w.heap.size:=by omega
     by_cases hend1:e.there=g∨e.leaf=D
     ·have hyy:=G (hy.out.trans (hend.out hend1))
      obtain⟨th,lf,rg,us,di,fr⟩:=e;dsimp only at*
      cases th with
      |false=>
       go_wp2_with fail
       refine ak (fun wz=>af wz (aa w.heap.size #[N U L,M g,M lf,N U rg,M us,M di,N U fr,.slice A' (acc.length+1) c',.slice B' (acc.length+1) d'] 206*(ao (.slice A' (acc.length+1) c') (acc++[t])*(ao (.slice B' (acc.length+1) d') (aF p (acc.length+1))*bS w w.heap.size)))∧a0 w wz) ⟨mK hr _ _ _ _ _ _,Ext.set9 ((((((hx.set _ _).set _ _).set _ _).set _ _).set _ _).set _ _) _ _ _ _ _ _ _ _ _ _⟩ ?_;rintro wz ⟨hz,xz⟩;have hlen:(acc++[t]).length =acc.length+1:=by rw[Z,List.length_singleton]
       refine J (av results149 rfl rfl (fk hz)) rfl ?_;rw[hyy.out];refine⟨A',B',c',d',?_,?_,xz⟩
       ·show _=I (rM _ A' B' (acc++[t]).length c' d')
        rw[hlen];rfl
       ·show af wz (ao (.slice A' (acc++[t]).length c') (acc++[t])*(ao (.slice B' (acc++[t]).length d') (aF p (acc++[t]).length)*bS w w.heap.size))
        rw[hlen];exact hz.right
      |true=>
       cases lf with
       |true=>
        go_wp2_with fail
        refine ak (fun wz=>af wz (aa w.heap.size #[N U L,M D,M D,N U rg,M us,M di,N U fr,.slice A' (acc.length+1) c',.slice B' (acc.length+1) d'] 206*(ao (.slice A' (acc.length+1) c') (acc++[t])*(ao (.slice B' (acc.length+1) d') (aF p (acc.length+1))*bS w w.heap.size)))∧a0 w wz) ⟨mK hr _ _ _ _ _ _,Ext.set9 ((((((hx.set _ _).set _ _).set _ _).set _ _).set _ _).set _ _) _ _ _ _ _ _ _ _ _ _⟩ ?_;rintro wz ⟨hz,xz⟩;have hlen:(acc++[t]).length =acc.length+1:=by rw[Z,List.length_singleton]
        refine J (av results149 rfl rfl (fk hz)) rfl ?_;rw[hyy.out];refine⟨A',B',c',d',?_,?_,xz⟩
        ·show _=I (rM _ A' B' (acc++[t]).length c' d')
         rw[hlen];rfl
        ·show af wz (ao (.slice A' (acc++[t]).length c') (acc++[t])*(ao (.slice B' (acc++[t]).length d') (aF p (acc++[t]).length)*bS w w.heap.size))
         rw[hlen];exact hz.right
       |false=>rcases hend1 with h|h<;>cases h
     ·have h12:e.there=D∧e.leaf=g:=by
       cases h1:e.there<;>cases h2:e.leaf<;>simp_all
      obtain⟨h1,h2⟩:=h12;obtain⟨K,rfl,hK⟩:=hon.out hend1;have hwr:IntKind.i64.wrap (((K+1:Nat):Int) - 1)=(K:Int):=by rw[IntKind.wrap_i64];omega
      go_wp2_with fail
      go_roundw
      case rel=>
       refine⟨K,e.frame,acc++[t],A',B',c',d',rfl,by rw[Z,List.length_singleton];omega,G ?_,?_,hx.set _ _⟩
       ·rw[←hK,←hy.out,←hwy.out]
       ·rw[Z,List.length_singleton]
        exact(qz hr _).drop4
      case measure=>
       rw[hlev.out];unfold lev;rw[World.cell?_setCell_same _ _ _ c0];simp
theorem rO(s:Ms)(p:Int):∀(L:Nat) (t:Int) (acc:List Int),(cZ s p L t acc).code =0→(∀u∈acc,s.has u=D)→∀u∈(cZ s p L t acc).tabs,s.has u=D:=by
 intro L;induction L with
 |zero=>
  intro t acc hc ha;cases h:s.has t with
  |false=>rw[gO h] at hc;cases hc
  |true=>
   by_cases hd:bu (ay s t (am p (0:Nat))) (0:Nat)=0
   ·rw[fF h hd (fu hd)]
    intro u hu;rcases List.mem_append.1 hu with hu|hu
    ·exact ha u hu
    ·obtain rfl:=List.mem_singleton.1 hu;exact h
   ·rw[iI h hd] at hc
    exact absurd hc hd
 |succ L ih=>
  intro t acc hc ha;cases h:s.has t with
  |false=>rw[gO h] at hc;cases hc
  |true=>
   by_cases hd:bu (ay s t (am p (L+1:Nat))) (L+1:Nat)=0
   ·by_cases he:(aE (ay s t (am p (L+1:Nat))) (L+1:Nat)).there =g∨(aE (ay s t (am p (L+1:Nat))) (L+1:Nat)).leaf =D
    ·rw[fF h hd he]
     intro u hu;rcases List.mem_append.1 hu with hu|hu
     ·exact ha u hu
     ·obtain rfl:=List.mem_singleton.1 hu;exact h
    ·obtain⟨K,hK,e⟩:=jP (acc:=acc) h hd he
     obtain rfl:L=K:=by omega
     rw[e] at hc⊢;exact ih _ _ hc fun u hu=>by
      rcases List.mem_append.1 hu with hu|hu
      ·exact ha u hu
      ·obtain rfl:=List.mem_singleton.1 hu;exact h
   ·rw[iI h hd] at hc
    exact absurd hc hd
theorem eK{s:Ms}{r p:Int}(h:(bp s r p).code =0):cP p=D∧∃n:Nat,(bp s r p).tabs.length =n+1∧n≤3∧(bp s r p).lev =3 - (n:Int)∧∀u∈(bp s r p).tabs,s.has u=D:=by
 unfold bp at h⊢;split at h
 ·rename_i hp
  rw[if_pos hp];obtain⟨h3,h4,h5⟩:=sM s p 3 r [] h;refine⟨hp,3 - (cZ s p 3 r []).lev.toNat,by rw[h5];simp only[List.length_nil];omega,by omega,by omega,rO s p 3 r [] h (fun u hu=>by cases hu)⟩
 ·cases h
theorem iU(p:Int){n k:Nat}(hk:k<n):(aF p n)[k]? =ad (am p (3 - (k:Int))):=by
 unfold aF;rw[List.getElem?_map,List.getElem?_range hk];rfl
theorem rP{l:List Int}{n:Nat}(h:l.length=n+1):l.getLastD 0=l[n]'(by omega):=by
 have e:l.length - 1=n:=by omega
 rw[List.getLastD_eq_getLast?,List.getLast?_eq_getElem?];simp only[e];rw[List.getElem?_eq_getElem (by omega)];rfl
theorem qA{s:Ms}{r p:Int}(h:(bp s r p).code =0){k:Nat}(hk:k< (bp s r p).tabs.length)(v:Int):
  fg s (bp s r p).tabs[k] (am p (3 - (k:Int))) v=s.setW ((bp s r p).tabs[k]).toNat (am p (3 - (k:Int))).toNat v:=by
 obtain⟨hp,n,hn,hn3,hl,hu⟩:=eK h;unfold fg;rw[if_pos (by rw[ed hp (by omega) (by omega)];exact hu _ (List.getElem_mem hk))]
theorem jE{l:List Int}{n:Nat}{t:Int}(h:l.length=n+1)(ht:l[n]? =ad t):l.getLastD 0=t:=by
 rw[rP h];have:=ax.1 ht;exact this.2
theorem pk{s:Ms}{r p:Int}(h:(bp s r p).code =0){k:Nat}{t:Int}(ht:(bp s r p).tabs[k]? =ad t)(v:Int):
  fg s t (am p (3 - (k:Int))) v=s.setW t.toNat (am p (3 - (k:Int))).toNat v:=by
 obtain⟨hk,e⟩:=ax.1 ht;rw[←e];exact qA h hk v
def mL(s:Ms)(p lw:Int)(sz:Nat):List Int→Ms
 | []=>s
 | [t]=>s.setW t.toNat (am p sz).toNat lw
 |t::k::ks=>(mL s p lw sz (k::ks)).setW t.toNat (am p (sz+ks.length+1:Nat)).toNat (iA k (sz+ks.length+1))
theorem mM(s:Ms){a b:Nat}(i j:Nat)(v u:Int)(h:a≠b):(s.setW a i v).setW b j u=(s.setW b j u).setW a i v:=by
 unfold Ms.setW;dsimp only;congr 1
 funext x y
 by_cases h1:x=b∧y=j
 ·rw[if_pos h1,if_neg (fun h2=>h (h2.1.symm.trans h1.1)),if_pos h1]
 ·rw[if_neg h1]
  by_cases h2:x=a∧y=i
  ·rw[if_pos h2,if_pos h2]
  ·rw[if_neg h2,if_neg h2,if_neg h1]
theorem n8(s:Ms)(p lw:Int)(sz:Nat)(a i:Nat)(v:Int):∀l:List Int,(∀t∈l,t.toNat≠a)→mL (s.setW a i v) p lw sz l=(mL s p lw sz l).setW a i v
 | [],_=>rfl
 | [t],h=>mM s _ _ _ _ (fun e=>h t (by simp) e.symm)
 |t::k::ks,h=>by
  show(mL (s.setW a i v) p lw sz (k::ks)).setW _ _ _=_;rw[n8 s p lw sz a i v (k::ks) (fun x hx=>h x (by simp at hx⊢;right;exact hx))];exact mM _ _ _ _ _ (fun e=>h t (by simp) e.symm)
theorem qB(s:Ms){k a:Nat}(i:Nat)(v:Int)(h:a≠k):(s.setW a i v).take k=(s.take k).setW a i v:=by
 unfold Ms.take Ms.setW;dsimp only;congr 1
 funext x y
 by_cases h1:x=k
 ·rw[if_pos h1,if_neg (fun h2=>h (h2.1.symm.trans h1)),if_pos h1]
 ·rw[if_neg h1]
  by_cases h2:x=a∧y=i
  ·rw[if_pos h2,if_pos h2]
  ·rw[if_neg h2,if_neg h2,if_neg h1]
theorem rQ(s:Ms)(a i:Nat)(v:Int):(s.setW a i v).top =s.top:=rfl
theorem jk(s:Ms):∀m,a8 s (m+1)=a8 s.takeS m
 |0=>rfl
 |m+1=>by
  show(a8 s (m+1)).takeS =_;rw[jk s m];rfl
theorem lp(s:Ms):∀m,eI s (m+1)=s.topV::eI s.takeS m
 |0=>rfl
 |m+1=>by
  show eI s (m+1)++[(a8 s (m+1)).topV]=_;rw[lp s m,jk s m];rfl
theorem jY{s:Ms}(hs:s.Ok){a:Nat}(i:Nat)(v:Int)(ha:s.tk a=D):∀m,m≤s.frees.length→a8 (s.setW a i v) m=(a8 s m).setW a i v∧(a8 s m).tk a=D∧eI (s.setW a i v) m=eI s m
 |0,_=>⟨rfl,ha,rfl⟩
 |m+1,h=>by
  obtain⟨h1,h2,h3⟩:=jY hs i v ha m (by omega);obtain⟨k,hk⟩:=jd (s:=a8 s m) (by rw[fp s m (by omega)];simp;omega);have hl:=Ms.top_lt (fY hs m).inv hk;have hne:a≠k:=fun e=>by rw[e,hl.2] at h2;cases h2
  have e1:(a8 s m).takeS =(a8 s m).take k:=by unfold Ms.takeS;rw[hk]
  have e2:((a8 s m).setW a i v).takeS =((a8 s m).setW a i v).take k:=by unfold Ms.takeS;rw[rQ,hk]
  refine⟨?_,?_,?_⟩
  ·show(a8 (s.setW a i v) m).takeS =(a8 s m).takeS.setW a i v
   rw[h1,e1,e2,qB _ _ _ hne]
  ·show(a8 s m).takeS.tk a=D
   rw[e1];show bU (a8 s m).tk k D a=D;rw[im _ _ hne];exact h2
  ·show eI (s.setW a i v) m++[(a8 (s.setW a i v) m).topV]=eI s m++[(a8 s m).topV]
   rw[h3,h1];rfl
theorem lq{s:Ms}{k:Nat}(h:s.top=ad k):s.takeS.frees.length+1=s.frees.length:=by
 have:=congrArg List.length (fZ h);rw[Z,List.length_singleton] at this;exact this
theorem lr{s:Ms}(hs:s.Ok){a:Nat}(ha:s.tk a=D):∀m,m≤s.frees.length→∀t∈eI s m,t.toNat≠a∧(a8 s m).has t=D
 |0,_,t,ht=>by cases ht
 |m+1,h,t,ht=>by
  obtain⟨k,hk⟩:=jd (s:=a8 s m) (by rw[fp s m (by omega)];simp;omega);have hl:=Ms.top_lt (fY hs m).inv hk;have e1:(a8 s (m+1))=(a8 s m).take k:=by show(a8 s m).takeS =_;unfold Ms.takeS;rw[hk]
  have eV:(a8 s m).topV =(k:Int):=by unfold Ms.topV;rw[hk]
  rcases List.mem_append.1 ht with ht|ht
  ·obtain⟨i1,i2⟩:=lr hs ha m (by omega) t ht
   refine⟨i1,?_⟩;rw[e1];by_cases e:t=(k:Int)
   ·rw[e];exact dI hl.1
   ·rw[mj _ _ e];exact i2
  ·obtain rfl:=List.mem_singleton.1 ht
   rw[eV];refine⟨?_,by rw[e1];exact dI hl.1⟩;have h2:=(jY hs 0 0 ha m (by omega)).2.1;intro e;have e:k=a:=by simpa using e
   rw[e] at hl;rw[h2] at hl;cases hl.2
theorem mN{s:Ms}(hs:s.Ok){t:Int}(h:s.has t=D):∀m,m≤s.frees.length→(a8 s m).has t=D
 |0,_=>h
 |m+1,hm=>by
  obtain⟨k,hk⟩:=jd (s:=a8 s m) (by rw[fp s m (by omega)];simp;omega);have hl:=Ms.top_lt (fY hs m).inv hk;have e1:(a8 s (m+1))=(a8 s m).take k:=by show(a8 s m).takeS =_;unfold Ms.takeS;rw[hk]
  rw[e1];by_cases e:t=(k:Int)
  ·rw[e];exact dI hl.1
  ·rw[mj _ _ e];exact mN hs h m (by omega)
theorem n9{p lw:Int}{sz:Nat}(hp:cP p=D)(hsz:sz≤3):∀(m:Nat) (s:Ms) (t:Int),s.Ok→m≤s.frees.length→s.has t=D→sz+m≤3→dD s p lw sz m t=mL (a8 s m) p lw sz (t::eI s m)
 |0,s,t,_,_,_,_=>rfl
 |m+1,s,t,hs,hm,ht,h3=>by
  obtain⟨k,hk⟩:=jd (s:=s) (by omega);have hl:=Ms.top_lt hs.inv hk;obtain⟨t0,t1,t2⟩:=Ms.has_iff.1 ht;have hne:t.toNat≠k:=fun e=>by rw[e,hl.2] at t2;cases t2
  have e1:s.takeS=s.take k:=by unfold Ms.takeS;rw[hk]
  have eV:s.topV=(k:Int):=by unfold Ms.topV;rw[hk]
  have hok:=hs.takeS;have hk2:(s.take k).has (k:Int)=D:=dI hl.1;have htk:(s.take k).tk t.toNat=D:=by
   show bU s.tk k D t.toNat=D;rw[im _ _ hne];exact t2
  have hfl:=lq hk;rw[e1] at hok hfl;unfold dD;rw[hk];dsimp only;rw[n9 hp hsz m _ (k:Int) ⟨hok.inv.setW _ _ (by
   unfold iA;exact gX _ _),hok.small⟩ (by show m≤(s.take k).frees.length;omega) hk2 (by omega)]
  obtain⟨h1,_,h4⟩:=jY hok (am p (sz+m+1:Nat)).toNat (iA k (sz+m+1)) htk m (by omega);rw[h1,h4,jk,lp,e1,eV];rw[n8 _ _ _ _ _ _ _ _ (fun x hx=>by
   rcases List.mem_cons.1 hx with rfl|hx
   ·simpa using fun e=>hne e.symm
   ·exact(lr hok htk m (by omega) x hx).1)]
  show _=(mL (a8 (s.take k) m) p lw sz ((k:Int)::eI (s.take k) m)).setW t.toNat (am p (sz+(eI (s.take k) m).length +1:Nat)).toNat (iA k (sz+(eI (s.take k) m).length +1));rw[jm]
theorem Arr.stp{w:F}{A:Option a4}{n:Nat}{l:List Stp}(h:Arr w A n 9 (l.map Stp.cells)){i:Nat}(hi:i<l.length):∃b off,A=ad (ag b off q)∧b<w.heap.size∧
  (w.cell? ⟨b,off+i*9,q⟩=ad (N U l[i].kind)∧w.cell? ⟨b,off+i*9+1,q⟩=ad (N U l[i].core)∧w.cell? ⟨b,off+i*9+2,q⟩=ad (N U l[i].m.page)∧w.cell? ⟨b,off+i*9+3,q⟩=ad (N U l[i].m.size)∧
   w.cell? ⟨b,off+i*9+4,q⟩=ad (N U l[i].m.frame)∧w.cell? ⟨b,off+i*9+5,q⟩=ad (N U l[i].m.rights)∧w.cell? ⟨b,off+i*9+6,q⟩=ad (N U l[i].a.page)∧w.cell? ⟨b,off+i*9+7,q⟩=ad (N U l[i].a.kind)∧
   w.cell? ⟨b,off+i*9+8,q⟩=ad (M l[i].a.user)):=by
 obtain⟨b,off,hb,hbl,hc⟩:=h.at_ (i:=i) (xs:=(l[i]).cells) (by simp[hi]);exact⟨b,off,hb,hbl,hc 0 _ rfl,hc 1 _ rfl,hc 2 _ rfl,hc 3 _ rfl,hc 4 _ rfl,hc 5 _ rfl,hc 6 _ rfl,hc 7 _ rfl,hc 8 _ rfl⟩
theorem Arr.stpAt{w:F}{b off n:Nat}{l:List Stp}(h:Arr w (ad (ag b off q)) n 9 (l.map Stp.cells)){i:Nat}(hi:i<l.length){x:Stp}(hx:l[i]=x):b<w.heap.size∧
  (w.cell? ⟨b,off+i*9,q⟩=ad (N U x.kind)∧w.cell? ⟨b,off+i*9+1,q⟩=ad (N U x.core)∧w.cell? ⟨b,off+i*9+2,q⟩=ad (N U x.m.page)∧w.cell? ⟨b,off+i*9+3,q⟩=ad (N U x.m.size)∧
   w.cell? ⟨b,off+i*9+4,q⟩=ad (N U x.m.frame)∧w.cell? ⟨b,off+i*9+5,q⟩=ad (N U x.m.rights)∧w.cell? ⟨b,off+i*9+6,q⟩=ad (N U x.a.page)∧w.cell? ⟨b,off+i*9+7,q⟩=ad (N U x.a.kind)∧
   w.cell? ⟨b,off+i*9+8,q⟩=ad (M x.a.user)):=by
 subst hx;obtain⟨b',off',hb,hbl,hc⟩:=h.stp hi;injection hb with hb
 injection hb with h1 h2
 subst h1;subst h2;exact⟨hbl,hc⟩
end Go.Proofs.YtmfheghbgihdmaaGreat
