/- Contract of table.leaf. -/
import Derived.Test.YtmfheghbgihdmaaGreatRefEnt5
import Derived.Test.YtmfheghbgihdmaaGreatEntry5
import Derived.Shelf.Abstract
namespace Go.Proofs.YtmfheghbgihdmaaGreat
open Go.IntKind renaming u64→vU
open Go.Value renaming int→b,bool→z
open Go.IntKind renaming i64→m,wrap_i64→U
open Option renaming none→o,some→E
open Bool renaming false→q,true→J
open Go.Lib renaming hid→x
open Go.Addr renaming mk→F
open List renaming getElem?_eq_some_iff→H,length_append→M,getElem?_eq_getElem→T
open Go renaming bodyPost_ret→N,World→Y,Calls→Z
open Go.Proofs.YtmfheghbgihdmaaGreat renaming Has→O,lev→V,Ext→ad
open Go.World renaming size_alloc→S
open Tryz
open Go.RowKit
set_option maxRecDepth 100000
def sO:Value:= .agg #[b m 0,z q,z q,b m 0,z q,z q,b m 0,.slice o 0 0,.slice o 0 0]
def sP(y:Wy)(A B:Option Addr)(c d:Nat):Value:= .agg #[b m y.lev,z y.e.there,z y.e.leaf,b m y.e.rights,z y.e.used,z y.e.dirty,b m y.e.frame,.slice A y.tabs.length c,.slice B y.tabs.length d]
def nM(s:Ms)(r p:Int)(w:Y)(e:Ending)(w':Y):Prop:=
 (bw s r p=0∧∃A B c d,e= .returned (.tuple #[sP (bp s r p) A B c d,(bK s r p).val,b m 0])∧O w' (ao (.slice A (bp s r p).tabs.length c) (bp s r p).tabs *(ao (.slice B (bp s r p).tabs.length d) (aF p (bp s r p).tabs.length)*bS w w.heap.size))∧ad w w')∨
 (bw s r p≠0∧e= .returned (.tuple #[sO,.agg #[b m 0,b m 0,b m 0,b m 0],b m (bw s r p)])∧Below w.heap.size w w')
theorem Has.drop3'{w:Y}{A B C D:ab}(h:O w (A*(B*(C*D)))):O w (A*(B*D)):=h.drop3
set_option maxHeartbeats 4000000 in
theorem uQ(f:Nat)(s:Ms)(root p:Int)(R:ab)(w:Y)(hs:s.Ok)(h:O w (ai f s*R)):
  Z prog 135 #[.pointer (E (F f 0 o)),b m root,b m p] w (nM s root p w):=by
 have h0:=((aT w).new #[b m 0,z q,z q,b m 0,z q,z q,b m 0,.slice o 0 0,.slice o 0 0] 206).new #[b m 0,b m 0,b m 0,b m 0] 39;have x0:=((Ext.refl w).alloc (.cells #[b m 0,z q,z q,b m 0,z q,z q,b m 0,.slice o 0 0,.slice o 0 0] 206)).alloc (.cells #[b m 0,b m 0,b m 0,b m 0] 39);simp only[S] at h0;have hq:=(h.alloc (.cells #[b m 0,z q,z q,b m 0,z q,z q,b m 0,.slice o 0 0,.slice o 0 0] 206)).alloc (.cells #[b m 0,b m 0,b m 0,b m 0] 39);have W1:=x (n7 f s root p R _ hs hq);have hfc:bw s root p=if(bp s root p).code ≠0 then(bp s root p).code else if(bp s root p).e.there =q then 5 else 0:=rfl
 have hfm:bK s root p=if bw s root p=0 then aA (bp s root p).e (bp s root p).lev p else Mp.zero:=rfl
 unfold nM;generalize bw s root p=fc at*
 generalize bK s root p=fm at*
 generalize bp s root p=y at*
 have HFC:=x (And.intro hfc hfm);clear h hq hfc hfm;go_enter func135,ntmps135;go_wp2_with fail
 refine W1.out.mono ?_;rintro e w1 hF;generalize (w.alloc (.cells #[b m 0,z q,z q,b m 0,z q,z q,b m 0,.slice o 0 0,.slice o 0 0] 206)).alloc (.cells #[b m 0,b m 0,b m 0,b m 0] 39)=w0 at*
 obtain⟨A,B,c,d,rfl,h1,x1⟩:∃(A B:Option Addr) (c d:Nat),e= .returned (.tuple #[.agg #[b m y.lev,z y.e.there,z y.e.leaf,b m y.e.rights,z y.e.used,z y.e.dirty,b m y.e.frame,.slice A y.tabs.length c,.slice B y.tabs.length d],b m y.code])∧O w1 (ao (.slice A y.tabs.length c) y.tabs*(ao (.slice B y.tabs.length d) (aF p y.tabs.length)*bS w0 w0.heap.size))∧ad w0 w1:=hF;have h2:=(h0.onto' (h1.a2)).a1;have x2:=x0.trans x1;clear h0 x0 h1 x1 W1;obtain⟨hfc,hfm⟩:=HFC.out;clear HFC;have h3:O _ (aa w1.heap.size #[b m y.lev,z y.e.there,z y.e.leaf,b m y.e.rights,z y.e.used,z y.e.dirty,b m y.e.frame,.slice A y.tabs.length c,.slice B y.tabs.length d] 206*(ao (.slice A y.tabs.length c) y.tabs*(ao (.slice B y.tabs.length d) (aF p y.tabs.length)*(aa (w.heap.size+1) #[b m 0,b m 0,b m 0,b m 0] 39*(aa w.heap.size #[b m 0,z q,z q,b m 0,z q,z q,b m 0,.slice o 0 0,.slice o 0 0] 206*bS w w.heap.size))))):=h2.new #[b m y.lev,z y.e.there,z y.e.leaf,b m y.e.rights,z y.e.used,z y.e.dirty,b m y.e.frame,.slice A y.tabs.length c,.slice B y.tabs.length d] 206;have x3:=x2.alloc (.cells #[b m y.lev,z y.e.there,z y.e.leaf,b m y.e.rights,z y.e.used,z y.e.dirty,b m y.e.frame,.slice A y.tabs.length c,.slice B y.tabs.length d] 206);clear h2 x2;by_cases hc:y.code=0
 case neg=>
  rw[if_pos hc] at hfc;have HF:=x (show fc=y.code∧fc≠0 from⟨hfc,by rw[hfc];exact hc⟩);have hn':(y.code !=0)=J:=by simpa using hc
  clear hc hfc hfm;go_upto_region 2 with fail;generalize w1.alloc _=w3 at*
  generalize w1.heap.size=X2 at*
  have h4:O w3 (aa w.heap.size #[b m 0,z q,z q,b m 0,z q,z q,b m 0,.slice o 0 0,.slice o 0 0] 206*(aa (w.heap.size+1) #[b m 0,b m 0,b m 0,b m 0] 39*(aa X2 #[b m y.lev,z y.e.there,z y.e.leaf,b m y.e.rights,z y.e.used,z y.e.dirty,b m y.e.frame,.slice A y.tabs.length c,.slice B y.tabs.length d] 206*bS w w.heap.size))):=by
   have:=h3.eq (show _=ao (.slice A y.tabs.length c) y.tabs*(ao (.slice B y.tabs.length d) (aF p y.tabs.length)*(aa w.heap.size #[b m 0,z q,z q,b m 0,z q,z q,b m 0,.slice o 0 0,.slice o 0 0] 206*(aa (w.heap.size+1) #[b m 0,b m 0,b m 0,b m 0] 39*(aa X2 #[b m y.lev,z y.e.there,z y.e.leaf,b m y.e.rights,z y.e.used,z y.e.dirty,b m y.e.frame,.slice A y.tabs.length c,.slice B y.tabs.length d] 206*bS w w.heap.size)))) by ac_rfl);exact this.right.right
  obtain⟨d0,d1,d2,d3,d4,d5,d6,d7,d8⟩:=h4.cells9;obtain⟨f0,f1,f2,f3,f4,f5,f6,f7,f8⟩:=h4.frees9;have dl:=h4.lt;obtain⟨c0,c1,c2,c3⟩:=h4.right.cells4;obtain⟨g0,g1,g2,g3⟩:=h4.right.frees4;have cl:=h4.right.lt;have n1:=h4.ne;have n2:=n1.symm;obtain⟨v0,v1,v2,v3,v4,v5,v6,v7,v8⟩:=h4.right.right.cells9;have vl:=h4.right.right.lt;go_wp2_with fail
  refine ak (fun wz=>O wz (aa (w.heap.size+1) #[b m 0,b m 0,b m 0,b m 0] 39*(aa w.heap.size #[b m 0,z q,z q,b m 0,z q,z q,b m 0,.slice o 0 0,.slice o 0 0] 206*bS w w.heap.size))∧ad w wz) ⟨(((h4.set9 _ _ _ _ _ _ _ _ _).p2).set4 _ _ _ _).drop3',ah⟩ ?_;rintro wz ⟨hz,xz⟩;exact N (fq results135 rfl rfl rfl (fk hz.right) (aV hz)) rfl (.inr ⟨HF.out.2,by rw[HF.out.1];rfl,aq hz.right.right xz⟩)
 case pos=>
  rw[if_neg (by rw[hc];simp)] at hfc;obtain⟨code,tabs,V,th,lf,rg,us,di,fr⟩:=y;dsimp only at*
  subst hc;cases th with
  |false=>
   rw[if_pos rfl] at hfc;have HF:=x (show fc=5∧fc≠0 from⟨hfc,by rw[hfc];decide⟩);clear hfc hfm;go_upto_region 2 with fail;generalize w1.alloc _=w3 at*
   generalize w1.heap.size=X2 at*
   have h4:O w3 (aa w.heap.size #[b m 0,z q,z q,b m 0,z q,z q,b m 0,.slice o 0 0,.slice o 0 0] 206*(aa (w.heap.size+1) #[b m 0,b m 0,b m 0,b m 0] 39*(aa X2 #[b m V,z q,z lf,b m rg,z us,z di,b m fr,.slice A tabs.length c,.slice B tabs.length d] 206*bS w w.heap.size))):=by
    have:=h3.eq (show _=ao (.slice A tabs.length c) tabs*(ao (.slice B tabs.length d) (aF p tabs.length)*(aa w.heap.size #[b m 0,z q,z q,b m 0,z q,z q,b m 0,.slice o 0 0,.slice o 0 0] 206*(aa (w.heap.size+1) #[b m 0,b m 0,b m 0,b m 0] 39*(aa X2 #[b m V,z q,z lf,b m rg,z us,z di,b m fr,.slice A tabs.length c,.slice B tabs.length d] 206*bS w w.heap.size)))) by ac_rfl);exact this.right.right
   obtain⟨d0,d1,d2,d3,d4,d5,d6,d7,d8⟩:=h4.cells9;obtain⟨f0,f1,f2,f3,f4,f5,f6,f7,f8⟩:=h4.frees9;have dl:=h4.lt;obtain⟨c0,c1,c2,c3⟩:=h4.right.cells4;obtain⟨g0,g1,g2,g3⟩:=h4.right.frees4;have cl:=h4.right.lt;have n1:=h4.ne;have n2:=n1.symm;obtain⟨v0,v1,v2,v3,v4,v5,v6,v7,v8⟩:=h4.right.right.cells9;have vl:=h4.right.right.lt;go_wp2_with fail
   refine ak (fun wz=>O wz (aa (w.heap.size+1) #[b m 0,b m 0,b m 0,b m 0] 39*(aa w.heap.size #[b m 0,z q,z q,b m 0,z q,z q,b m 0,.slice o 0 0,.slice o 0 0] 206*bS w w.heap.size))∧ad w wz) ⟨(((h4.set9 _ _ _ _ _ _ _ _ _).p2).set4 _ _ _ _).drop3',ah⟩ ?_;rintro wz ⟨hz,xz⟩;exact N (fq results135 rfl rfl rfl (fk hz.right) (aV hz)) rfl (.inr ⟨HF.out.2,by rw[HF.out.1];rfl,aq hz.right.right xz⟩)
  |true=>
   rw[if_neg (by simp)] at hfc;rw[if_pos hfc] at hfm;have HF:=x (show fc=0∧fm=aA ⟨J,lf,rg,us,di,fr⟩ V p from⟨hfc,hfm⟩);have HL:Hid (∀X,Z prog 132 #[.agg #[z J,z lf,b m rg,z us,z di,b m fr],.int .i64 V,.int .i64 p] X (Pure (aA ⟨J,lf,rg,us,di,fr⟩ V p).val X)):=x (fun X=>kc ⟨J,lf,rg,us,di,fr⟩ V p X);clear hfc hfm;generalize aA ⟨J,lf,rg,us,di,fr⟩ V p=lm at*
   go_upto_region 6 with fail;generalize w1.alloc _=w3 at*
   generalize w1.heap.size=X2 at*
   have h5:O w3 (aa w.heap.size #[b m 0,z q,z q,b m 0,z q,z q,b m 0,.slice o 0 0,.slice o 0 0] 206*(aa X2 #[b m V,z J,z lf,b m rg,z us,z di,b m fr,.slice A tabs.length c,.slice B tabs.length d] 206*(aa (w.heap.size+1) #[b m 0,b m 0,b m 0,b m 0] 39*(ao (.slice A tabs.length c) tabs*(ao (.slice B tabs.length d) (aF p tabs.length)*bS w w.heap.size))))):=h3.eq (by ac_rfl);clear h3;have h4:=h5.set9 (b m V) (z J) (z lf) (b m rg) (z us) (z di) (b m fr) (.slice A tabs.length c) (.slice B tabs.length d);have HK:=x (fun(w':Y) (P:ab) (h:O w' (aa X2 #[b m V,z J,z lf,b m rg,z us,z di,b m fr,.slice A tabs.length c,.slice B tabs.length d] 206*P))=>h.cells9);obtain⟨k0,k1,k2,k3,k4,k5,k6,k7,k8⟩:=h5.right.cells9;have kl:=h5.right.lt;obtain⟨d0,d1,d2,d3,d4,d5,d6,d7,d8⟩:=h5.cells9;obtain⟨f0,f1,f2,f3,f4,f5,f6,f7,f8⟩:=h5.frees9;have dl:=h5.lt;have n1:=h5.ne;have n2:=n1.symm;go_cut [8] from 31 to 38 (fun s8 wx=>s8=b m 0∧O wx (aa w.heap.size #[b m V,z J,z lf,b m rg,z us,z di,b m fr,.slice A tabs.length c,.slice B tabs.length d] 206*(aa (w.heap.size+1) #[b m lm.page,b m lm.size,b m lm.frame,b m lm.rights] 39*(ao (.slice A tabs.length c) tabs*(ao (.slice B tabs.length d) (aF p tabs.length)*bS w w.heap.size))))∧ad w wx)
   case first=>
    go_region_held3 (fun w'=>w'.cell? (F X2 0 o)=E (b m V)∧w'.cell? (F X2 1 o)=E (z J)∧w'.cell? (F X2 2 o)=E (z lf)∧w'.cell? (F X2 3 o)=E (b m rg)∧w'.cell? (F X2 4 o)=E (z us)∧w'.cell? (F X2 5 o)=E (z di)∧w'.cell? (F X2 6 o)=E (b m fr)∧w'.cell? (F X2 7 o)=E (.slice A tabs.length c)∧w'.cell? (F X2 8 o)=E (.slice B tabs.length d)) (first|(with_reducible exact HK.out _ _ h6.right)|(with_reducible exact HK.out _ _ g6.right)|(with_reducible exact HK.out _ _ h4.drew.right)|(with_reducible exact HK.out _ _ h5.drew.right)|go_keep) (first|(go_at_call 132;((with_reducible refine(HL.out _).mono ?_);rintro e2 w5 ⟨rfl,b5⟩;first|(have h6:=h5.drew.below b5;have x6:=x3.drew.below b5;obtain⟨y0,y1,y2,y3,y4,y5,y6,y7,y8⟩:=h6.cells9;obtain⟨z0,z1,z2,z3,z4,z5,z6,z7,z8⟩:=h6.frees9;have yl:=h6.lt;obtain⟨c0,c1,c2,c3⟩:=h6.right.right.cells4;obtain⟨g0,g1,g2,g3⟩:=h6.right.right.frees4;have cl:=h6.right.right.lt;have nn:=h6.p2.right.ne;have nn':=nn.symm;have mm:=h6.right.ne;have mm':=mm.symm)|(have g6:=h4.drew.below b5;have y6:=((x3.set9 w.heap.size (b m V) (z J) (z lf) (b m rg) (z us) (z di) (b m fr) (.slice A tabs.length c) (.slice B tabs.length d)).drew).below b5;obtain⟨c0,c1,c2,c3⟩:=g6.right.right.cells4;obtain⟨g0,g1,g2,g3⟩:=g6.right.right.frees4;have cl:=g6.right.right.lt;have mm:=g6.right.ne;have mm':=mm.symm))))
    all_goals
     go_wp2_with fail
     go_meet
     case rel=>
      first
      |(have h7:=(h6.set9 (b m V) (z J) (z lf) (b m rg) (z us) (z di) (b m fr) (.slice A tabs.length c) (.slice B tabs.length d)).eq (show _=aa (w.heap.size+1) #[b m 0,b m 0,b m 0,b m 0] 39*(aa w.heap.size #[b m V,z J,z lf,b m rg,z us,z di,b m fr,.slice A tabs.length c,.slice B tabs.length d] 206*(aa X2 #[b m V,z J,z lf,b m rg,z us,z di,b m fr,.slice A tabs.length c,.slice B tabs.length d] 206*(ao (.slice A tabs.length c) tabs*(ao (.slice B tabs.length d) (aF p tabs.length)*bS w w.heap.size)))) by ac_rfl)
        exact⟨rfl,(h7.set4 (b m lm.page) (b m lm.size) (b m lm.frame) (b m lm.rights)).p2.eq (show _=aa X2 #[b m V,z J,z lf,b m rg,z us,z di,b m fr,.slice A tabs.length c,.slice B tabs.length d] 206*(aa w.heap.size #[b m V,z J,z lf,b m rg,z us,z di,b m fr,.slice A tabs.length c,.slice B tabs.length d] 206*(aa (w.heap.size+1) #[b m lm.page,b m lm.size,b m lm.frame,b m lm.rights] 39*(ao (.slice A tabs.length c) tabs*(ao (.slice B tabs.length d) (aF p tabs.length)*bS w w.heap.size)))) by ac_rfl) |>.right,ah⟩)
      |(have h7:=(h6.eq (show _=aa (w.heap.size+1) #[b m 0,b m 0,b m 0,b m 0] 39*(aa w.heap.size #[b m 0,z q,z q,b m 0,z q,z q,b m 0,.slice o 0 0,.slice o 0 0] 206*(aa X2 #[b m V,z J,z lf,b m rg,z us,z di,b m fr,.slice A tabs.length c,.slice B tabs.length d] 206*(ao (.slice A tabs.length c) tabs*(ao (.slice B tabs.length d) (aF p tabs.length)*bS w w.heap.size)))) by ac_rfl)).set4 (b m lm.page) (b m lm.size) (b m lm.frame) (b m lm.rights)
        exact⟨rfl,(h7.p2.set9 (b m V) (z J) (z lf) (b m rg) (z us) (z di) (b m fr) (.slice A tabs.length c) (.slice B tabs.length d)).eq (show _=aa X2 #[b m V,z J,z lf,b m rg,z us,z di,b m fr,.slice A tabs.length c,.slice B tabs.length d] 206*(aa w.heap.size #[b m V,z J,z lf,b m rg,z us,z di,b m fr,.slice A tabs.length c,.slice B tabs.length d] 206*(aa (w.heap.size+1) #[b m lm.page,b m lm.size,b m lm.frame,b m lm.rights] 39*(ao (.slice A tabs.length c) tabs*(ao (.slice B tabs.length d) (aF p tabs.length)*bS w w.heap.size)))) by ac_rfl) |>.right,ah⟩)
      |(have h7:=(g6.eq (show _=aa (w.heap.size+1) #[b m 0,b m 0,b m 0,b m 0] 39*(aa w.heap.size #[b m V,z J,z lf,b m rg,z us,z di,b m fr,.slice A tabs.length c,.slice B tabs.length d] 206*(aa X2 #[b m V,z J,z lf,b m rg,z us,z di,b m fr,.slice A tabs.length c,.slice B tabs.length d] 206*(ao (.slice A tabs.length c) tabs*(ao (.slice B tabs.length d) (aF p tabs.length)*bS w w.heap.size)))) by ac_rfl)).set4 (b m lm.page) (b m lm.size) (b m lm.frame) (b m lm.rights)
        exact⟨rfl,h7.p2.eq (show _=aa X2 #[b m V,z J,z lf,b m rg,z us,z di,b m fr,.slice A tabs.length c,.slice B tabs.length d] 206*(aa w.heap.size #[b m V,z J,z lf,b m rg,z us,z di,b m fr,.slice A tabs.length c,.slice B tabs.length d] 206*(aa (w.heap.size+1) #[b m lm.page,b m lm.size,b m lm.frame,b m lm.rights] 39*(ao (.slice A tabs.length c) tabs*(ao (.slice B tabs.length d) (aF p tabs.length)*bS w w.heap.size)))) by ac_rfl) |>.right,ah⟩)
   case rest=>
    clear h5 h4 x3 HK k0 k1 k2 k3 k4 k5 k6 k7 k8 kl d0 d1 d2 d3 d4 d5 d6 d7 d8 f0 f1 f2 f3 f4 f5 f6 f7 f8 dl n1 n2;obtain⟨rfl,h9,x9⟩:=hcut;go_wp2_with fail
    refine ak (fun wz=>O wz (aa w.heap.size #[b m V,z J,z lf,b m rg,z us,z di,b m fr,.slice A tabs.length c,.slice B tabs.length d] 206*(aa (w.heap.size+1) #[b m lm.page,b m lm.size,b m lm.frame,b m lm.rights] 39*(ao (.slice A tabs.length c) tabs*(ao (.slice B tabs.length d) (aF p tabs.length)*bS w w.heap.size))))∧ad w wz) ⟨h9,x9⟩ ?_;rintro wz ⟨hz,xz⟩;exact N (fq results135 rfl rfl rfl (fk hz) (aV hz.right)) rfl (.inl ⟨HF.out.1,A,B,c,d,by rw[HF.out.2];rfl,hz.right.right,xz⟩)
set_option maxHeartbeats 4000000 in
theorem yv(f:Nat)(s:Ms)(root p ri:Int)(R:ab)(w:Y)(hs:s.Ok)(h:O w (ai f s*R)):
  Z prog 100 #[.pointer (E (F f 0 o)),b m root,b m p,b m ri] w (cI (.tuple #[(ku s root p ri).val,b m (iB s root p ri)]) (ai f (gG s root p ri)*R) w):=by
 have h0:=h.new #[b m 0,b m 0,b m 0,b m 0] 39;have x0:=(Ext.refl w).alloc (.cells #[b m 0,b m 0,b m 0,b m 0] 39);by_cases hri:ri<0∨7<ri
 ·have hc:iB s root p ri=1:=by unfold iB;rw[if_pos hri]
  have hm:ku s root p ri=Mp.zero:=by unfold ku;rw[if_neg (by rw[hc];decide)]
  have hss:gG s root p ri=s:=by unfold gG;rw[if_neg (by rw[hc];decide)]
  rw[hc,hm,hss];clear hc hm hss h;obtain⟨c0,c1,c2,c3⟩:=h0.cells4;obtain⟨g0,g1,g2,g3⟩:=h0.frees4;have cl:=h0.lt;rcases hri with hri|hri
  ·go_enter func100,ntmps100
   go_wp2_with fail
   refine ak (fun wz=>O wz (aa w.heap.size #[b m 0,b m 0,b m 0,b m 0] 39*(ai f s*R))∧ad w wz) ⟨h0,ah⟩ ?_;rintro wz ⟨hz,xz⟩;exact N (av results100 rfl rfl (aV hz)) rfl ⟨rfl,hz.right,xz⟩
  ·by_cases hr0:ri<0
   ·omega
   go_enter func100,ntmps100;go_wp2_with fail
   refine ak (fun wz=>O wz (aa w.heap.size #[b m 0,b m 0,b m 0,b m 0] 39*(ai f s*R))∧ad w wz) ⟨h0,ah⟩ ?_;rintro wz ⟨hz,xz⟩;exact N (av results100 rfl rfl (aV hz)) rfl ⟨rfl,hz.right,xz⟩
 have hpc:iB s root p ri=bw s root p:=by unfold iB;rw[if_neg hri]
 have hr0:¬ri<0:=by omega
 have hr7:¬7<ri:=by omega
 have W1:=x (uQ f s root p _ _ hs h0.p2);unfold nM at W1;by_cases hfc:bw s root p=0
 ·have hcode:(bp s root p).code =0:=by
   unfold bw at hfc;split at hfc
   ·rename_i hn;exact absurd hfc hn
   ·rename_i hn;simpa using hn
  obtain⟨hp,n,hn,hn3,hl,hu⟩:=eK hcode;obtain⟨t,ht⟩:∃t,(bp s root p).tabs[n]? =E t:=⟨_,T (by omega)⟩;have hst:=pk hcode ht (bt {(bp s root p).e with rights:=ri} (bp s root p).lev);have hss:gG s root p ri=fg s t (am p (3 - (n:Int))) (bt {(bp s root p).e with rights:=ri} (bp s root p).lev):=by
   unfold gG;rw[if_pos (by rw[hpc];exact hfc),hst,jE hn ht,hl]
  have hm:ku s root p ri={bK s root p with rights:=ri}:=by unfold ku;rw[if_pos (by rw[hpc];exact hfc)]
  have HST:=x (fun R w h=>pu f s t (am p (3 - (n:Int))) (bt {(bp s root p).e with rights:=ri} (bp s root p).lev) R w h);have HE:=x (j9 {(bp s root p).e with rights:=ri} (bp s root p).lev);dsimp only at HE;rw[←hss] at HST;rw[hpc,hm,hfc];rw[hfc] at W1;generalize gG s root p ri=s' at*
  generalize s.hasW t (am p (3 - (n:Int)))=hw at*
  generalize bt {(bp s root p).e with rights:=ri} (bp s root p).lev =wd at*
  generalize aj {(bp s root p).e with rights:=ri} (bp s root p).lev =ef at*
  generalize bK s root p=fm at*
  clear hst hss hm hpc hri h hcode hu hl hfc;have hpl:=iU p (n:=n+1) (k:=n) (by omega);rw[←hn] at hpl;generalize am p (3 - (n:Int))=ix at*
  generalize bp s root p=y at*
  generalize aF p y.tabs.length=pls at*
  have HN:=x hn;have HT:=x ht;have HPL:=x hpl;clear ht hpl hn;go_enter func100,ntmps100;go_wp2_with fail
  refine W1.out.mono ?_;rintro e w1 hF;rcases hF with ⟨_,A,B,c,d,rfl,h1,x1⟩|⟨hfc,_⟩
  ·have h2:=(h0.onto' (h1.a2)).a1
   have x2:=x0.trans x1;clear h0 x0 h1 x1 W1;have h4:=(h2.new #[b m y.lev,z y.e.there,z y.e.leaf,b m y.e.rights,z y.e.used,z y.e.dirty,b m y.e.frame,.slice A y.tabs.length c,.slice B y.tabs.length d] 206).new #[b m fm.page,b m fm.size,b m fm.frame,b m fm.rights] 39;simp only[S] at h4;have x4:=(x2.alloc (.cells #[b m y.lev,z y.e.there,z y.e.leaf,b m y.e.rights,z y.e.used,z y.e.dirty,b m y.e.frame,.slice A y.tabs.length c,.slice B y.tabs.length d] 206)).alloc (.cells #[b m fm.page,b m fm.size,b m fm.frame,b m fm.rights] 39);clear h2 x2;unfold sP;go_upto_region 4 with fail;generalize (w1.alloc (.cells #[b m y.lev,z y.e.there,z y.e.leaf,b m y.e.rights,z y.e.used,z y.e.dirty,b m y.e.frame,.slice A y.tabs.length c,.slice B y.tabs.length d] 206)).alloc (.cells #[b m fm.page,b m fm.size,b m fm.frame,b m fm.rights] 39)=w3 at*
   generalize w1.heap.size=X2 at*
   generalize w.heap.size=X0 at*
   have f3:=h4.free 3;have g3:=h4.right.free 3;obtain⟨m0,m1,m2,m3⟩:=h4.cells4;have ml:=h4.lt;obtain⟨k0,k1,k2,k3,k4,k5,k6,k7,k8⟩:=h4.right.cells9;have kl:=h4.right.lt;have nn:=h4.ne;have nn':=nn.symm;have h5:=((h4.p2.set 3 (b m ri)).p2.set 3 (b m ri));have x5:=(x4.set (F X2 3 o) (b m ri)).set ⟨X2+1,3,o⟩ (b m ri);have h5:O ((w3.setCell (F X2 3 o) (b m ri)).setCell ⟨X2+1,3,o⟩ (b m ri)) (aa (X2+1) #[b m fm.page,b m fm.size,b m fm.frame,b m ri] 39*(aa X2 #[b m y.lev,z y.e.there,z y.e.leaf,b m ri,z y.e.used,z y.e.dirty,b m y.e.frame,.slice A y.tabs.length c,.slice B y.tabs.length d] 206*(ao (.slice A y.tabs.length c) y.tabs*(ao (.slice B y.tabs.length d) pls*(aa X0 #[b m 0,b m 0,b m 0,b m 0] 39*(ai f s*R)))))):=h5;go_upto_region 7 with fail;generalize (w3.setCell (F X2 3 o) (b m ri)).setCell ⟨X2+1,3,o⟩ (b m ri)=w4 at*
   clear h4 x4 f3 g3 m0 m1 m2 m3 ml k0 k1 k2 k3 k4 k5 k6 k7 k8 kl nn nn';obtain⟨k0,k1,k2,k3,k4,k5,k6,k7,k8⟩:=h5.right.cells9;have kl:=h5.right.lt;go_wp2_with fail
   refine(HE.out _).mono ?_;rintro e w5 ⟨rfl,b5⟩;have h6:=h5.below b5;have x6:=x5.below b5;clear h5 x5 b5 HE k0 k1 k2 k3 k4 k5 k6 k7 k8 kl;have hNo:=HN.out;obtain⟨bA,hA1,hA2,hA3⟩:=db (h6.right.right) (k:=n) (by omega);have hpll:pls.length=y.tabs.length:=by
    have:=ei h6.r3;exact this.symm
   obtain⟨bB,hB1,hB2,hB3⟩:=db (h6.r3) (k:=n) (by omega);have hAt:y.tabs[n]'(by omega)=t:=(H.1 HT.out).2;have hBt:pls[n]'(by omega)=ix:=(H.1 HPL.out).2;rw[hAt] at hA3;rw[hBt] at hB3;subst hA1;subst hB1;have hni:(n:Int)<y.tabs.length:=by omega
   have hlen1:((y.tabs.length:Nat):Int) - 1=(n:Int):=by omega
   obtain⟨k0,k1,k2,k3,k4,k5,k6,k7,k8⟩:=h6.right.cells9;have kl:=h6.right.lt;have HLN:=x hlen1;clear hpll hAt hBt hlen1 hNo;go_upto_region 8 with fail;go_cut [15] from 48 to 52 (fun s15 wx=>s15=b m n∧wx=w5)
   case first=>
    have hlen1:=HLN.out;go_wp2_with fail
    go_meet
    case rel=>exact⟨by first|rfl|(rw[←hlen1];done)|(rw[←hlen1];go_num),rfl⟩
   case rest=>
   obtain⟨rfl,hwr⟩:=hcut;replace hwr:=hwr.symm;subst hwr;have hn0:¬((n:Int)<0):=by omega
   have h7:O w5.drew (ai f s*(aa (X2+1) #[b m fm.page,b m fm.size,b m fm.frame,b m ri] 39*(aa X2 #[b m y.lev,z y.e.there,z y.e.leaf,b m ri,z y.e.used,z y.e.dirty,b m y.e.frame,.slice (E (F bA 0 o)) y.tabs.length c,.slice (E (F bB 0 o)) y.tabs.length d] 206*(ao (.slice (E (F bA 0 o)) y.tabs.length c) y.tabs*(ao (.slice (E (F bB 0 o)) y.tabs.length d) pls*(aa X0 #[b m 0,b m 0,b m 0,b m 0] 39*R)))))):=(h6.eq (show _=ai f s*(aa (X2+1) #[b m fm.page,b m fm.size,b m fm.frame,b m ri] 39*(aa X2 #[b m y.lev,z y.e.there,z y.e.leaf,b m ri,z y.e.used,z y.e.dirty,b m y.e.frame,.slice (E (F bA 0 o)) y.tabs.length c,.slice (E (F bB 0 o)) y.tabs.length d] 206*(ao (.slice (E (F bA 0 o)) y.tabs.length c) y.tabs*(ao (.slice (E (F bB 0 o)) y.tabs.length d) pls*(aa X0 #[b m 0,b m 0,b m 0,b m 0] 39*R))))) by ac_rfl)).drew;have x7:=x6.drew;have HK:=x (fun(w':Y) (P Q:ab) (h:O w' (P*(Q*(aa X2 #[b m y.lev,z y.e.there,z y.e.leaf,b m ri,z y.e.used,z y.e.dirty,b m y.e.frame,.slice (E (F bA 0 o)) y.tabs.length c,.slice (E (F bB 0 o)) y.tabs.length d] 206*(ao (.slice (E (F bA 0 o)) y.tabs.length c) y.tabs*(ao (.slice (E (F bB 0 o)) y.tabs.length d) pls*(aa X0 #[b m 0,b m 0,b m 0,b m 0] 39*R)))))))=>(by
    obtain⟨b1,e1,_,q1⟩:=db (h.r3) (k:=n) (by have:=HN.out;omega);have hpll:pls.length=y.tabs.length:=(ei h.right.r3).symm;obtain⟨b2,e2,_,q2⟩:=db (h.right.r3) (k:=n) (by have:=HN.out;omega);injection e1 with e1;injection e1 with e1
    injection e2 with e2;injection e2 with e2
    subst e1;subst e2;rw[(H.1 HT.out).2] at q1;rw[(H.1 HPL.out).2] at q2;exact⟨h.right.right.cell 7,h.right.right.cell 8,q1,q2⟩:w'.cell? (F X2 7 o)=E (.slice (E (F bA 0 o)) y.tabs.length c)∧w'.cell? (F X2 8 o)=E (.slice (E (F bB 0 o)) y.tabs.length d)∧w'.cell? (F bA n o)=E (b m t)∧w'.cell? (F bB n o)=E (b m ix)))
   clear k0 k1 k2 k3 k4 k5 k6;go_upto_region 9 with fail;go_region_held3 (fun w'=>w'.cell? (F X2 7 o)=E (.slice (E (F bA 0 o)) y.tabs.length c)∧w'.cell? (F X2 8 o)=E (.slice (E (F bB 0 o)) y.tabs.length d)∧w'.cell? (F bA n o)=E (b m t)∧w'.cell? (F bB n o)=E (b m ix)) (first|(with_reducible exact HK.out _ _ _ h7)|(with_reducible exact HK.out _ _ _ h8)|go_keep) (first|(go_at_call 154;(with_reducible refine(HST.out _ _ h7).mono ?_);rintro e w8 ⟨rfl,h8,x8⟩))
   have x9:=x7.trans x8;have h9:O w8 (aa X0 #[b m 0,b m 0,b m 0,b m 0] 39*(aa (X2+1) #[b m fm.page,b m fm.size,b m fm.frame,b m ri] 39*(aa X2 #[b m y.lev,z y.e.there,z y.e.leaf,b m ri,z y.e.used,z y.e.dirty,b m y.e.frame,.slice (E (F bA 0 o)) y.tabs.length c,.slice (E (F bB 0 o)) y.tabs.length d] 206*(ao (.slice (E (F bA 0 o)) y.tabs.length c) y.tabs*(ao (.slice (E (F bB 0 o)) y.tabs.length d) pls*(ai f s'*R)))))):=h8.eq (by ac_rfl);clear h6 x6 h7 x7 h8 x8 HK HST k7 k8 kl;obtain⟨m0,m1,m2,m3⟩:=h9.right.cells4;have ml:=h9.right.lt;obtain⟨r0,r1,r2,r3⟩:=h9.cells4;obtain⟨q0,q1,q2,q3⟩:=h9.frees4;have rl:=h9.lt;go_wp2_with fail
   refine ak (fun wz=>O wz (aa X0 #[b m fm.page,b m fm.size,b m fm.frame,b m ri] 39*(aa (X2+1) #[b m fm.page,b m fm.size,b m fm.frame,b m ri] 39*(aa X2 #[b m y.lev,z y.e.there,z y.e.leaf,b m ri,z y.e.used,z y.e.dirty,b m y.e.frame,.slice (E (F bA 0 o)) y.tabs.length c,.slice (E (F bB 0 o)) y.tabs.length d] 206*(ao (.slice (E (F bA 0 o)) y.tabs.length c) y.tabs*(ao (.slice (E (F bB 0 o)) y.tabs.length d) pls*(ai f s'*R))))))∧ad w wz) ⟨h9.set4 _ _ _ _,ah⟩ ?_;rintro wz ⟨hz,xz⟩;exact N (av results100 rfl rfl (aV hz)) rfl ⟨rfl,hz.right.right.r3,xz⟩
  ·exact absurd rfl hfc
 ·have hss:gG s root p ri=s:=by unfold gG;rw[if_neg (by rw[hpc];exact hfc)]
  have hm:ku s root p ri=Mp.zero:=by unfold ku;rw[if_neg (by rw[hpc];exact hfc)]
  rw[hss,hm,hpc];have hn:(bw s root p !=0)=J:=by simpa using hfc
  generalize bw s root p=fc at*
  clear hss hm hpc h hri;go_enter func100,ntmps100;go_wp2_with fail
  refine W1.out.mono ?_;rintro e w1 hF;rcases hF with ⟨h0',_⟩|⟨_,rfl,b1⟩
  ·exact absurd h0' hfc
  ·have h1:=h0.below b1
   have x1:=x0.below b1;clear h0 x0 b1 W1 hfc;have h4:O _ (aa w.heap.size #[b m 0,b m 0,b m 0,b m 0] 39*(ai f s*(aa (w1.heap.size+1) #[b m 0,b m 0,b m 0,b m 0] 39*(aa w1.heap.size #[b m 0,z q,z q,b m 0,z q,z q,b m 0,.slice o 0 0,.slice o 0 0] 206*R)))):=((h1.new #[b m 0,z q,z q,b m 0,z q,z q,b m 0,.slice o 0 0,.slice o 0 0] 206).new #[b m 0,b m 0,b m 0,b m 0] 39).eq (by simp only[S];ac_rfl);have x4:=(x1.alloc (.cells #[b m 0,z q,z q,b m 0,z q,z q,b m 0,.slice o 0 0,.slice o 0 0] 206)).alloc (.cells #[b m 0,b m 0,b m 0,b m 0] 39);clear h1 x1;unfold sO;go_upto_region 4 with fail;generalize (w1.alloc (.cells #[b m 0,z q,z q,b m 0,z q,z q,b m 0,.slice o 0 0,.slice o 0 0] 206)).alloc (.cells #[b m 0,b m 0,b m 0,b m 0] 39)=w3 at*
   generalize w1.heap.size=X2 at*
   generalize w.heap.size=X0 at*
   obtain⟨r0,r1,r2,r3⟩:=h4.cells4;obtain⟨q0,q1,q2,q3⟩:=h4.frees4;have rl:=h4.lt;go_wp2_with fail
   refine ak (fun wz=>O wz (aa X0 #[b m 0,b m 0,b m 0,b m 0] 39*(ai f s*(aa (X2+1) #[b m 0,b m 0,b m 0,b m 0] 39*(aa X2 #[b m 0,z q,z q,b m 0,z q,z q,b m 0,.slice o 0 0,.slice o 0 0] 206*R))))∧ad w wz) ⟨h4.set4 _ _ _ _,ah⟩ ?_;rintro wz ⟨hz,xz⟩;exact N (av results100 rfl rfl (aV hz)) rfl ⟨rfl,hz.right.eq (show _=aa (X2+1) #[b m 0,b m 0,b m 0,b m 0] 39*(aa X2 #[b m 0,z q,z q,b m 0,z q,z q,b m 0,.slice o 0 0,.slice o 0 0] 206*(ai f s*R)) by ac_rfl) |>.right.right,xz⟩
def qm(f:Nat)(s:Ms)(r p:Int)(R:ab)(w:Y)(e:Ending)(w':Y):Prop:=
 ∃A n c,cI (.tuple #[(bK s r p).val,.slice A n c,b m (bw s r p)]) (ao (.slice A n c) (fi s r p)*(ai f (de s r p)*R)) w e w'
set_option maxHeartbeats 8000000 in
theorem xZ(f:Nat)(s:Ms)(root p:Int)(R:ab)(w:Y)(hs:s.Ok)(h:O w (ai f s*R)):
  Z prog 98 #[.pointer (E (F f 0 o)),b m root,b m p] w (qm f s root p R w):=by
 have h0:=h.new #[b m 0,b m 0,b m 0,b m 0] 39;have x0:=(Ext.refl w).alloc (.cells #[b m 0,b m 0,b m 0,b m 0] 39);have W1:=x (uQ f s root p _ _ hs h0.p2);unfold nM at W1;unfold qm;by_cases hfc:bw s root p=0
 ·have hcode:(bp s root p).code =0:=by
   unfold bw at hfc;split at hfc
   ·rename_i hn;exact absurd hfc hn
   ·rename_i hn;simpa using hn
  obtain⟨hp,n,hn,hn3,hl,hu⟩:=eK hcode;have hRS:de s root p=(j5 p (bp s root p).tabs n (s.setW ((bp s root p).tabs.getD n 0).toNat (am p (3 - n:Nat)).toNat 0)).1:=by
   unfold de;rw[if_pos hfc,hn,Nat.add_sub_cancel,pB]
  have hRG:fi s root p=(j5 p (bp s root p).tabs n (s.setW ((bp s root p).tabs.getD n 0).toNat (am p (3 - n:Nat)).toNat 0)).2:=by
   unfold fi;rw[if_pos hfc,hn,Nat.add_sub_cancel,pB]
  rw[hfc] at W1⊢;have hHas:∀k,(hk:k< (bp s root p).tabs.length)→s.has ((bp s root p).tabs.getD k 0)=J:=fun k hk=>by
   rw[List.getD_eq_getElem?_getD,T hk];exact hu _ (List.getElem_mem hk)
  have hTk:∀k,k< (bp s root p).tabs.length →(bp s root p).tabs[k]? =E ((bp s root p).tabs.getD k 0):=fun k hk=>by
   rw[List.getD_eq_getElem?_getD,T hk];rfl
  have hPk:∀k,k<n+1→(aF p (bp s root p).tabs.length)[k]? =E (am p (3 - k:Nat)):=fun k hk=>by
   rw[iU p (by omega)];congr 2
   omega
  have hSt:∀(σ:Ms),(∀u,σ.has u=s.has u)→∀k,k<n+1→∀R w,O w (ai f σ*R)→Z prog 154 #[.pointer (E (F f 0 o)),b m ((bp s root p).tabs.getD k 0),b m (am p (3 - k:Nat)),b vU 0] w (cI (z J) (ai f (σ.setW ((bp s root p).tabs.getD k 0).toNat (am p (3 - k:Nat)).toNat 0)*R) w):=fun σ hσ k hk R w h=>by
   have hw:σ.hasW ((bp s root p).tabs.getD k 0) (am p (3 - k:Nat))=J:=by
    rw[ed hp (by omega) (by omega),hσ];exact hHas k (by omega)
   have:=pu f σ ((bp s root p).tabs.getD k 0) (am p (3 - k:Nat)) 0 R w h;unfold fg at this;rw[if_pos hw,hw] at this;exact this
  have hEm:∀(σ:Ms),(∀u,σ.has u=s.has u)→∀k,k<n+1→∀R w,O w (ai f σ*R)→Z prog 155 #[.pointer (E (F f 0 o)),b m ((bp s root p).tabs.getD k 0)] w (Same (z (fh σ ((bp s root p).tabs.getD k 0))) w):=fun σ hσ k hk R w h=>by
   have:=vp f ((bp s root p).tabs.getD k 0) σ R w h;rw[qS (by rw[hσ];exact hHas k (by omega))] at this;exact this
  have HST:=x hSt;have HEM:=x hEm;have HTK:=x hTk;have HPK:=x hPk;have HRS:=x hRS;have HRG:=x hRG;clear hSt hEm hTk hPk hRS hRG hHas hu hl hcode h hfc;generalize de s root p=rs at*
  generalize fi s root p=rg at*
  generalize bK s root p=fm at*
  generalize bp s root p=y at*
  generalize aF p y.tabs.length=pls at*
  generalize hix:(fun k:Nat=>am p (3 - k:Nat))=ixs;have HIX:=x hix;clear hix;have HN:=x hn;clear hn;go_enter func98,ntmps98;go_wp2_with fail
  refine W1.out.mono ?_;rintro e w1 hF;rcases hF with ⟨_,A,B,c,d,rfl,h1,x1⟩|⟨hfc,_⟩
  ·have h2:=(h0.onto' (h1.a2)).a1
   have x2:=x0.trans x1;clear h0 x0 h1 x1 W1;have h4:=(h2.new #[b m y.lev,z y.e.there,z y.e.leaf,b m y.e.rights,z y.e.used,z y.e.dirty,b m y.e.frame,.slice A y.tabs.length c,.slice B y.tabs.length d] 206).new #[b m fm.page,b m fm.size,b m fm.frame,b m fm.rights] 39;simp only[S] at h4;have x4:=(x2.alloc (.cells #[b m y.lev,z y.e.there,z y.e.leaf,b m y.e.rights,z y.e.used,z y.e.dirty,b m y.e.frame,.slice A y.tabs.length c,.slice B y.tabs.length d] 206)).alloc (.cells #[b m fm.page,b m fm.size,b m fm.frame,b m fm.rights] 39);clear h2 x2;unfold sP;go_upto_region 4 with fail;generalize (w1.alloc (.cells #[b m y.lev,z y.e.there,z y.e.leaf,b m y.e.rights,z y.e.used,z y.e.dirty,b m y.e.frame,.slice A y.tabs.length c,.slice B y.tabs.length d] 206)).alloc (.cells #[b m fm.page,b m fm.size,b m fm.frame,b m fm.rights] 39)=w3 at*
   generalize w1.heap.size=X2 at*
   generalize w.heap.size=X0 at*
   have hNo:=HN.out;obtain⟨bA,hA1,-,-⟩:=db (h4.right.right) (k:=n) (by omega);have hpll:pls.length=y.tabs.length:=(ei h4.r3).symm;obtain⟨bB,hB1,-,-⟩:=db (h4.r3) (k:=n) (by omega);subst hA1;subst hB1;have hlen1:((y.tabs.length:Nat):Int) - 1=(n:Int):=by omega
   have h6:O w3 (ai f s*(aa (X2+1) #[b m fm.page,b m fm.size,b m fm.frame,b m fm.rights] 39*(aa X2 #[b m y.lev,z y.e.there,z y.e.leaf,b m y.e.rights,z y.e.used,z y.e.dirty,b m y.e.frame,.slice (E (F bA 0 o)) y.tabs.length c,.slice (E (F bB 0 o)) y.tabs.length d] 206*(ao (.slice (E (F bA 0 o)) y.tabs.length c) y.tabs*(ao (.slice (E (F bB 0 o)) y.tabs.length d) pls*(aa X0 #[b m 0,b m 0,b m 0,b m 0] 39*R)))))):=h4.eq (by ac_rfl);have HK:=x (fun(k:Nat) (hk:k<n+1) (w':Y) (P Q:ab) (h:O w' (P*(Q*(aa X2 #[b m y.lev,z y.e.there,z y.e.leaf,b m y.e.rights,z y.e.used,z y.e.dirty,b m y.e.frame,.slice (E (F bA 0 o)) y.tabs.length c,.slice (E (F bB 0 o)) y.tabs.length d] 206*(ao (.slice (E (F bA 0 o)) y.tabs.length c) y.tabs*(ao (.slice (E (F bB 0 o)) y.tabs.length d) pls*(aa X0 #[b m 0,b m 0,b m 0,b m 0] 39*R)))))))=>(by
    have hno:=HN.out;obtain⟨b1,e1,l1,q1⟩:=db (h.r3) (k:=k) (by omega);have hpl2:pls.length=y.tabs.length:=(ei h.right.r3).symm;obtain⟨b2,e2,l2,q2⟩:=db (h.right.r3) (k:=k) (by omega);injection e1 with e1;injection e1 with e1
    injection e2 with e2;injection e2 with e2
    subst e1;subst e2;rw[(H.1 (HTK.out k (by omega))).2] at q1;rw[(H.1 (HPK.out k hk)).2] at q2;exact⟨h.right.right.cell 7,h.right.right.cell 8,q1,q2,h.right.right.lt,l1,l2⟩:w'.cell? (F X2 7 o)=E (.slice (E (F bA 0 o)) y.tabs.length c)∧w'.cell? (F X2 8 o)=E (.slice (E (F bB 0 o)) y.tabs.length d)∧w'.cell? (F bA k o)=E (b m (y.tabs.getD k 0))∧w'.cell? (F bB k o)=E (b m (am p (3 - k:Nat)))∧X2<w'.heap.size∧bA<w'.heap.size∧bB<w'.heap.size))
   obtain⟨k7,k8,_,_,kl,_,_⟩:=HK.out n (by omega) _ _ _ h6;have HLN:=x hlen1;clear hNo hpll hlen1 h4;go_upto_region 5 with fail;go_cut [13] from 26 to 30 (fun s13 wx=>s13=b m n∧wx=w3)
   case first=>
    have hlen1:=HLN.out;go_wp2_with fail
    go_meet
    case rel=>exact⟨by first|rfl|(rw[←hlen1];done)|(rw[←hlen1];go_num),rfl⟩
   case rest=>
   obtain⟨rfl,hwr⟩:=hcut;replace hwr:=hwr.symm;subst hwr;clear k7 k8 kl;obtain⟨k7,k8,kA,kB,kl,lA,lB⟩:=HK.out n (by omega) _ _ _ h6;have hni:(n:Int)<y.tabs.length:=by have:=HN.out;omega
   have hn0:¬((n:Int)<0):=by omega
   have hS1:=x (HST.out s (fun _=>rfl) n (by omega));have HKn:=x (HK.out n (by omega));have HRS':=x HRS.out;have HRG':=x HRG.out;have hhas:∀u,(s.setW (y.tabs.getD n 0).toNat (am p (3 - n:Nat)).toNat 0).has u=s.has u:=fun u=>rfl;have HHA:=x hhas;clear HRS HRG hhas;generalize s.setW (y.tabs.getD n 0).toNat (am p (3 - n:Nat)).toNat 0=s1 at*
   generalize y.tabs.getD n 0=t at kA hS1 HKn;generalize am p (3 - n:Nat)=ix at kB hS1 HKn;have h7:=h6.drew;have x7:=x4.drew;go_upto_region 6 with fail;go_region_held3 (fun w'=>w'.cell? (F X2 7 o)=E (.slice (E (F bA 0 o)) y.tabs.length c)∧w'.cell? (F X2 8 o)=E (.slice (E (F bB 0 o)) y.tabs.length d)∧w'.cell? (F bA n o)=E (b m t)∧w'.cell? (F bB n o)=E (b m ix)) (first|(with_reducible exact⟨(HKn.out _ _ _ h7).1,(HKn.out _ _ _ h7).2.1,(HKn.out _ _ _ h7).2.2.1,(HKn.out _ _ _ h7).2.2.2.1⟩)|(with_reducible exact⟨(HKn.out _ _ _ h8).1,(HKn.out _ _ _ h8).2.1,(HKn.out _ _ _ h8).2.2.1,(HKn.out _ _ _ h8).2.2.2.1⟩)|go_keep) (first|(go_at_call 154;(with_reducible refine(hS1.out _ _ h7).mono ?_);rintro e w8 ⟨rfl,h8,x8⟩))
   have x9:=x7.trans x8;have h9:O w8 (ao (.slice o 0 0) []*(ai f s1*(aa (X2+1) #[b m fm.page,b m fm.size,b m fm.frame,b m fm.rights] 39*(aa X2 #[b m y.lev,z y.e.there,z y.e.leaf,b m y.e.rights,z y.e.used,z y.e.dirty,b m y.e.frame,.slice (E (F bA 0 o)) y.tabs.length c,.slice (E (F bB 0 o)) y.tabs.length d] 206*(ao (.slice (E (F bA 0 o)) y.tabs.length c) y.tabs*(ao (.slice (E (F bB 0 o)) y.tabs.length d) pls*(aa X0 #[b m 0,b m 0,b m 0,b m 0] 39*R))))))):=Has.rowNil h8;clear h6 x4 h7 x7 h8 x8 hS1 HKn k7 k8 kA kB kl lA lB hni hn0;go_wp2_with fail
   go_loopw [12,13] (fun t12 t13 wr=>∃(k:Nat) (σ:Ms) (g:List Int) (G:Option Addr) (gc:Nat),k<n+1∧t13=b m k∧t12= .slice G g.length gc∧Hid (∀u,σ.has u=s.has u)∧Hid (rs=(j5 p y.tabs k σ).1∧rg=g++(j5 p y.tabs k σ).2)∧g.length+k≤n∧O wr (ao (.slice G g.length gc) g*(ai f σ*(aa (X2+1) #[b m fm.page,b m fm.size,b m fm.frame,b m fm.rights] 39*(aa X2 #[b m y.lev,z y.e.there,z y.e.leaf,b m y.e.rights,z y.e.used,z y.e.dirty,b m y.e.frame,.slice (E (F bA 0 o)) y.tabs.length c,.slice (E (F bB 0 o)) y.tabs.length d] 206*(ao (.slice (E (F bA 0 o)) y.tabs.length c) y.tabs*(ao (.slice (E (F bB 0 o)) y.tabs.length d) pls*(aa X0 #[b m 0,b m 0,b m 0,b m 0] 39*R)))))))∧ad w wr) (fun _ t13 _=>(intOf t13).toNat)
   case atStart=>exact⟨n,s1,[],o,0,by omega,rfl,rfl,HHA,x ⟨HRS'.out,by rw[List.nil_append];exact HRG'.out⟩,by simp,h9,x9⟩
   case round=>
    clear h9 x9 HRS' HRG' HHA;obtain⟨k,σ,g,G,gc,hk,rfl,rfl,HHS,HCU,hgl,hr,hx⟩:=hrel;have hEk:=x (HEM.out σ HHS.out k hk);obtain⟨k7,k8,kA,kB,kl,lA,lB⟩:=HK.out k hk _ _ _ hr.right;have hki:(k:Int)<y.tabs.length:=by have:=HN.out;omega
    have hkn:¬((k:Int)<0):=by omega
    have hz:O _ (aa X0 #[b m 0,b m 0,b m 0,b m 0] 39*(ao (.slice G g.length gc) g*(ai f σ*(aa (X2+1) #[b m fm.page,b m fm.size,b m fm.frame,b m fm.rights] 39*(aa X2 #[b m y.lev,z y.e.there,z y.e.leaf,b m y.e.rights,z y.e.used,z y.e.dirty,b m y.e.frame,.slice (E (F bA 0 o)) y.tabs.length c,.slice (E (F bB 0 o)) y.tabs.length d] 206*(ao (.slice (E (F bA 0 o)) y.tabs.length c) y.tabs*(ao (.slice (E (F bB 0 o)) y.tabs.length d) pls*R))))))):=hr.eq (by ac_rfl);obtain⟨r0,r1,r2,r3⟩:=hz.cells4;obtain⟨q0,q1,q2,q3⟩:=hz.frees4;have rl:=hz.lt;obtain⟨m0,m1,m2,m3⟩:=hr.right.right.cells4;have ml:=hr.right.right.lt;by_cases hk0:k=0
    ·have hcut:=qi p y.tabs (k:=k) (s:=σ) (.inl hk0)
     subst hk0;have HF:=x (show rs=σ∧rg=g by have:=HCU.out;rw[hcut] at this;exact⟨this.1,by rw[this.2];simp⟩);clear hcut HCU hEk;go_wp2_with fail
     refine ak (fun wz=>O wz (aa X0 #[b m fm.page,b m fm.size,b m fm.frame,b m fm.rights] 39*(ao (.slice G g.length gc) g*(ai f σ*(aa (X2+1) #[b m fm.page,b m fm.size,b m fm.frame,b m fm.rights] 39*(aa X2 #[b m y.lev,z y.e.there,z y.e.leaf,b m y.e.rights,z y.e.used,z y.e.dirty,b m y.e.frame,.slice (E (F bA 0 o)) y.tabs.length c,.slice (E (F bB 0 o)) y.tabs.length d] 206*(ao (.slice (E (F bA 0 o)) y.tabs.length c) y.tabs*(ao (.slice (E (F bB 0 o)) y.tabs.length d) pls*R)))))))∧ad w wz) ⟨hz.set4 _ _ _ _,ah⟩ ?_;rintro wz ⟨hw,xw⟩;have hw2:O wz (ao (.slice (E (F bB 0 o)) y.tabs.length d) pls*(ao (.slice (E (F bA 0 o)) y.tabs.length c) y.tabs*(aa X2 #[b m y.lev,z y.e.there,z y.e.leaf,b m y.e.rights,z y.e.used,z y.e.dirty,b m y.e.frame,.slice (E (F bA 0 o)) y.tabs.length c,.slice (E (F bB 0 o)) y.tabs.length d] 206*(aa (X2+1) #[b m fm.page,b m fm.size,b m fm.frame,b m fm.rights] 39*(aa X0 #[b m fm.page,b m fm.size,b m fm.frame,b m fm.rights] 39*(ao (.slice G g.length gc) g*(ai f σ*R))))))):=hw.eq (by ac_rfl);exact N (be results98 rfl rfl rfl (aV hw)) rfl ⟨G,g.length,gc,rfl,by rw[HF.out.1,HF.out.2];exact hw2.right.right.r3,xw⟩
    ·obtain⟨j,hj⟩:∃j,k=j+1:=⟨k - 1,by omega⟩
     have hk0':(0:Int)< (k:Int):=by omega
     have hji:(k:Int) - 1=(j:Int):=by omega
     have HJ:=x hj;have hjn:j<n+1:=by omega
     clear hj;cases hez:fh σ (y.tabs.getD k 0) with
     |false=>
      have hcut:=qi p y.tabs (k:=k) (s:=σ) (.inr hez);have HF:=x (show rs=σ∧rg=g by have:=HCU.out;rw[hcut] at this;exact⟨this.1,by rw[this.2];simp⟩);rw[hez] at hEk;clear hcut HCU hez;generalize y.tabs.getD k 0=t at kA hEk;go_wp2_with fail
      refine(hEk.out _ _ hr.right).mono ?_;rintro e w2 ⟨rfl,rfl⟩;go_wp2_with fail
      refine ak (fun wz=>O wz (aa X0 #[b m fm.page,b m fm.size,b m fm.frame,b m fm.rights] 39*(ao (.slice G g.length gc) g*(ai f σ*(aa (X2+1) #[b m fm.page,b m fm.size,b m fm.frame,b m fm.rights] 39*(aa X2 #[b m y.lev,z y.e.there,z y.e.leaf,b m y.e.rights,z y.e.used,z y.e.dirty,b m y.e.frame,.slice (E (F bA 0 o)) y.tabs.length c,.slice (E (F bB 0 o)) y.tabs.length d] 206*(ao (.slice (E (F bA 0 o)) y.tabs.length c) y.tabs*(ao (.slice (E (F bB 0 o)) y.tabs.length d) pls*R)))))))∧ad w wz) ⟨hz.set4 _ _ _ _,ah⟩ ?_;rintro wz ⟨hw,xw⟩;have hw2:O wz (ao (.slice (E (F bB 0 o)) y.tabs.length d) pls*(ao (.slice (E (F bA 0 o)) y.tabs.length c) y.tabs*(aa X2 #[b m y.lev,z y.e.there,z y.e.leaf,b m y.e.rights,z y.e.used,z y.e.dirty,b m y.e.frame,.slice (E (F bA 0 o)) y.tabs.length c,.slice (E (F bB 0 o)) y.tabs.length d] 206*(aa (X2+1) #[b m fm.page,b m fm.size,b m fm.frame,b m fm.rights] 39*(aa X0 #[b m fm.page,b m fm.size,b m fm.frame,b m fm.rights] 39*(ao (.slice G g.length gc) g*(ai f σ*R))))))):=hw.eq (by ac_rfl);exact N (be results98 rfl rfl rfl (aV hw)) rfl ⟨G,g.length,gc,rfl,by rw[HF.out.1,HF.out.2];exact hw2.right.right.r3,xw⟩
     |true=>
      have hcut:=su p y.tabs (k:=k) (j:=j) (s:=σ) HJ.out hez;rw[hez] at hEk;have HCU':=x (show rs=(j5 p y.tabs j (σ.setW (y.tabs.getD j 0).toNat (am p (3 - j:Nat)).toNat 0)).1∧rg=(g++[y.tabs.getD k 0])++(j5 p y.tabs j (σ.setW (y.tabs.getD j 0).toNat (am p (3 - j:Nat)).toNat 0)).2 by
       have:=HCU.out;rw[hcut] at this;exact⟨this.1,by rw[this.2];simp⟩)
      have hSj:=x (HST.out σ HHS.out j hjn);have HKj:=x (HK.out j hjn);have HKk:=x (HK.out k hk);have HHS':=x (show∀u,(σ.setW (y.tabs.getD j 0).toNat (am p (3 - j:Nat)).toNat 0).has u=s.has u from HHS.out);clear hcut HCU hez HHS;generalize σ.setW (y.tabs.getD j 0).toNat (am p (3 - j:Nat)).toNat 0=σ' at*
      obtain⟨j7,j8,jA,jB,_,_,_⟩:=HKj.out _ _ _ hr.right;generalize y.tabs.getD k 0=t at kA hEk HCU' HKk;generalize y.tabs.getD j 0=tj at jA hSj HKj;generalize am p (3 - j:Nat)=ij at jB hSj HKj;generalize am p (3 - k:Nat)=ik at kB HKk;have hjl:(j:Int)<y.tabs.length:=by have:=HN.out;omega
      have hj0:¬((j:Int)<0):=by omega
      have hj00:(0:Int)≤(j:Int):=by omega
      have hj3:j≤3:=by omega
      have hwj:IntKind.i64.wrap (j:Int)=(j:Int):=by rw[U];omega
      have hwk:IntKind.i64.wrap ((k:Int) - 1)=(j:Int):=by rw[hji];exact hwj
      go_wp2_with fail
      refine(hEk.out _ _ hr.right).mono ?_;rintro e w2 ⟨rfl,rfl⟩;have h7:O _ (ai f σ*((ao (.slice G g.length gc) g*aa (X2+1) #[b m fm.page,b m fm.size,b m fm.frame,b m fm.rights] 39)*(aa X2 #[b m y.lev,z y.e.there,z y.e.leaf,b m y.e.rights,z y.e.used,z y.e.dirty,b m y.e.frame,.slice (E (F bA 0 o)) y.tabs.length c,.slice (E (F bB 0 o)) y.tabs.length d] 206*(ao (.slice (E (F bA 0 o)) y.tabs.length c) y.tabs*(ao (.slice (E (F bB 0 o)) y.tabs.length d) pls*(aa X0 #[b m 0,b m 0,b m 0,b m 0] 39*R)))))):=(hr.eq (by ac_rfl)).drew;have x7:=hx.drew;go_upto_region 9 with fail;go_region_held3 (fun w'=>w'.cell? (F X2 7 o)=E (.slice (E (F bA 0 o)) y.tabs.length c)∧w'.cell? (F X2 8 o)=E (.slice (E (F bB 0 o)) y.tabs.length d)∧w'.cell? (F bA j o)=E (b m tj)∧w'.cell? (F bB j o)=E (b m ij)) (first|(with_reducible exact⟨(HKj.out _ _ _ h7).1,(HKj.out _ _ _ h7).2.1,(HKj.out _ _ _ h7).2.2.1,(HKj.out _ _ _ h7).2.2.2.1⟩)|(with_reducible exact⟨(HKj.out _ _ _ h8).1,(HKj.out _ _ _ h8).2.1,(HKj.out _ _ _ h8).2.2.1,(HKj.out _ _ _ h8).2.2.2.1⟩)|go_keep) (first|(go_at_call 154;(with_reducible refine(hSj.out _ _ h7).mono ?_);rintro e w8 ⟨rfl,h8,x8⟩))
      have x9:=x7.trans x8;have h9:O w8 (bZ 3 1 (.slice G g.length gc) g.length (g.map (b m))*(ai f σ'*(aa (X2+1) #[b m fm.page,b m fm.size,b m fm.frame,b m fm.rights] 39*(aa X2 #[b m y.lev,z y.e.there,z y.e.leaf,b m y.e.rights,z y.e.used,z y.e.dirty,b m y.e.frame,.slice (E (F bA 0 o)) y.tabs.length c,.slice (E (F bB 0 o)) y.tabs.length d] 206*(ao (.slice (E (F bA 0 o)) y.tabs.length c) y.tabs*(ao (.slice (E (F bB 0 o)) y.tabs.length d) pls*(aa X0 #[b m 0,b m 0,b m 0,b m 0] 39*R))))))):=h8.eq (by unfold ao;ac_rfl);obtain⟨k7',k8',kA',kB',kl',lA',lB'⟩:=HKk.out _ _ _ h8;clear hr hx hz r0 r1 r2 r3 q0 q1 q2 q3 rl m0 m1 m2 m3 ml k7 k8 kA kB kl lA lB j7 j8 jA jB h7 x7 h8 x8 hEk hSj;have hrow:=h9.alloc (.cells #[b m t] 3);go_wp2_with(first|(at_builtin;refine aW rfl _ _ 45 rfl underlying45 gr _ _ _ rfl hrow (F w8.heap.size 0 o) 1 1 [b m t] rfl rfl (eO w8 (b m t) 3) ?c1 ?c2 ?c3 ?_))
      case c1=>intro u hu;simp at hu;subst hu;rfl
      case c2=>unfold maxLen;omega
      case c3=>omega
      intro v' w10 h10 x10;obtain⟨G',gc',rfl⟩:=h10.rowForm;go_wp2_with fail
      go_roundw
      case rel=>exact⟨j,σ',g++[t],G',gc',hjn,by go_num,by simp,HHS',HCU',by simp;have:=HJ.out;omega,by unfold ao;simp only[M,List.length_singleton,List.map_append,List.map_cons,List.map_nil];exact h10,(x9.alloc _).trans x10⟩
      case measure=>have:=HJ.out;simp[intOf];omega
  ·exact absurd rfl hfc
 ·have hrs:de s root p=s:=by unfold de;rw[if_neg hfc]
  have hrg:fi s root p=[]:=by unfold fi;rw[if_neg hfc]
  have hm:bK s root p=Mp.zero:=by unfold bK;rw[if_neg hfc]
  have hn:(bw s root p !=0)=J:=by simpa using hfc
  have HF:=x (And.intro hrs (And.intro hrg hm));generalize bw s root p=fc at*
  generalize de s root p=rs at*
  generalize fi s root p=rg at*
  generalize bK s root p=fm at*
  clear hrs hrg hm h;go_enter func98,ntmps98;go_wp2_with fail
  refine W1.out.mono ?_;rintro e w1 hF;rcases hF with ⟨h0',_⟩|⟨_,rfl,b1⟩
  ·exact absurd h0' hfc
  ·have h1:=h0.below b1
   have x1:=x0.below b1;clear h0 x0 b1 W1 hfc;have h4:O _ (aa w.heap.size #[b m 0,b m 0,b m 0,b m 0] 39*(ai f s*(aa (w1.heap.size+1) #[b m 0,b m 0,b m 0,b m 0] 39*(aa w1.heap.size #[b m 0,z q,z q,b m 0,z q,z q,b m 0,.slice o 0 0,.slice o 0 0] 206*R)))):=((h1.new #[b m 0,z q,z q,b m 0,z q,z q,b m 0,.slice o 0 0,.slice o 0 0] 206).new #[b m 0,b m 0,b m 0,b m 0] 39).eq (by simp only[S];ac_rfl);have x4:=(x1.alloc (.cells #[b m 0,z q,z q,b m 0,z q,z q,b m 0,.slice o 0 0,.slice o 0 0] 206)).alloc (.cells #[b m 0,b m 0,b m 0,b m 0] 39);clear h1 x1;unfold sO;go_upto_region 2 with fail;generalize (w1.alloc (.cells #[b m 0,z q,z q,b m 0,z q,z q,b m 0,.slice o 0 0,.slice o 0 0] 206)).alloc (.cells #[b m 0,b m 0,b m 0,b m 0] 39)=w3 at*
   generalize w1.heap.size=X2 at*
   generalize w.heap.size=X0 at*
   obtain⟨r0,r1,r2,r3⟩:=h4.cells4;obtain⟨q0,q1,q2,q3⟩:=h4.frees4;have rl:=h4.lt;go_wp2_with fail
   refine ak (fun wz=>O wz (aa X0 #[b m 0,b m 0,b m 0,b m 0] 39*(ai f s*(aa (X2+1) #[b m 0,b m 0,b m 0,b m 0] 39*(aa X2 #[b m 0,z q,z q,b m 0,z q,z q,b m 0,.slice o 0 0,.slice o 0 0] 206*R))))∧ad w wz) ⟨h4.set4 _ _ _ _,ah⟩ ?_;rintro wz ⟨hw,xw⟩;have hw2:O wz (aa (X2+1) #[b m 0,b m 0,b m 0,b m 0] 39*(aa X2 #[b m 0,z q,z q,b m 0,z q,z q,b m 0,.slice o 0 0,.slice o 0 0] 206*(ai f s*R))):=hw.right.eq (by ac_rfl);exact N (be results98 rfl rfl rfl (aV hw)) rfl ⟨o,0,0,by rw[HF.out.2.2];rfl,by rw[HF.out.1,HF.out.2.1];exact Has.rowNil hw2.right.right,xw⟩
structure yb (v:mF):Prop where
 l0:0≤v.lev
 l3:v.lev≤3
 a0:0≤v.at_
 a4:v.at_*aC v.lev.toNat<4096
def kS:Nat→Nat|0=>0|L+1=>jy L
theorem uo(L:Nat):jy L=8*(1+kS L):=by
 cases L with
 |zero=>rfl
 |succ L=>show 8+8*jy L=8*(1+jy L);omega
theorem oS{i:Nat}(h:i<8):List.range' i (8 - i)=i::List.range' (i+1) (8 - (i+1)):=by
 rw[show 8 - i=(8 - (i+1))+1 by omega,List.range'_succ]
theorem sQ{s:Ms}{L:Nat}{t a:Int}{sub:Int→Int→Vs}{i:Nat}{is:List Nat}(h:bu (ay s t i) L≠0):dg s L t a sub (i::is)=⟨bu (ay s t i) L,[]⟩:=by
 rw[dg,if_pos h]
theorem pU{s:Ms}{L:Nat}{t a:Int}{sub:Int→Int→Vs}{i:Nat}{is:List Nat}(h:bu (ay s t i) L=0)(hn:¬((aE (ay s t i) L).there =J∧(aE (ay s t i) L).leaf =q)):
  dg s L t a sub (i::is)=⟨(dg s L t a sub is).code,⟨t,L,a*8+i,aE (ay s t i) L⟩::(dg s L t a sub is).vs⟩:=by
 rw[dg,if_neg (by rw[h];simp)];dsimp only;rw[if_neg hn];simp
theorem sR{s:Ms}{L:Nat}{t a:Int}{sub:Int→Int→Vs}{i:Nat}{is:List Nat}(h:bu (ay s t i) L=0)(hn:(aE (ay s t i) L).there =J∧(aE (ay s t i) L).leaf =q)
  (hc:(sub (aE (ay s t i) L).frame (a*8+i)).code =0):
  dg s L t a sub (i::is)=⟨(dg s L t a sub is).code,⟨t,L,a*8+i,aE (ay s t i) L⟩::((sub (aE (ay s t i) L).frame (a*8+i)).vs ++(dg s L t a sub is).vs)⟩:=by
 rw[dg,if_neg (by rw[h];simp)];dsimp only;rw[if_pos hn,if_neg (by rw[hc];simp)]
theorem oT{s:Ms}{L:Nat}{t a:Int}{sub:Int→Int→Vs}{i:Nat}{is:List Nat}(h:bu (ay s t i) L=0)(hn:(aE (ay s t i) L).there =J∧(aE (ay s t i) L).leaf =q)
  (hc:(sub (aE (ay s t i) L).frame (a*8+i)).code ≠0):
  dg s L t a sub (i::is)=⟨(sub (aE (ay s t i) L).frame (a*8+i)).code,⟨t,L,a*8+i,aE (ay s t i) L⟩::(sub (aE (ay s t i) L).frame (a*8+i)).vs⟩:=by
 rw[dg,if_neg (by rw[h];simp)];dsimp only;rw[if_pos hn,if_pos hc]
theorem vH{L:Nat}{a:Int}{i:Nat}(hL:L≤3)(h0:0≤a)(h:a*aC (L+1)<4096)(hi:i<8):0≤a*8+i∧(a*8+i)*aC L<4096∧a<4096:=by
 refine⟨by omega,ye hL h0 h hi,?_⟩;have hp:=fw (L+1);have:a*1≤a*aC (L+1):=Int.mul_le_mul_of_nonneg_left (by omega) h0;omega
section
variable (f:Nat) (s:Ms) (hs:s.Ok) (g:Nat) (cap:Array Value) (eg:∀args w,(callFunc g args).run prog w= .ok (.enter g args) w) (I:List mF→ab) (B:Nat)
 (hsee:∀(P:ab) (vs:List mF) (v:mF) (W:Y),yb v→vs.length<B→O W (I vs*P)→
  Z prog g (#[b m v.t,b m v.lev,b m v.at_,.agg #[z v.e.there,z v.e.leaf,b m v.e.rights,z v.e.used,z v.e.dirty,b m v.e.frame]]++cap) W (cI (.tuple #[]) (I (vs++[v])*P) W))
include hs eg hsee
def pV(L:Nat):Prop:=∀(R:ab) (t a:Int) (vs0:List mF) (w:Y),0≤a→a*aC (L+1)<4096→vs0.length+jy L≤B→O w (I vs0*(ai f s*R))→
  Z prog 130 #[.pointer (E (F f 0 o)),b m t,b m L,b m a,.func (.func g) #[] cap] w (cI (b m (cC s L t a).code) (I (vs0++(cC s L t a).vs)*(ai f s*R)) w)
set_option maxHeartbeats 4000000 in
theorem nh(L:Nat)(hL:L≤3)(ih:∀K,L=K+1→pV f s g cap I B K):pV f s g cap I B L:=by
  intro R t a vs0 w ha ha4 hB h;have IH:=x ih;clear ih;have HSEE:=x hsee;have hmo:=uo L;go_enter func130,ntmps130;go_wp2_with fail
  go_loopw [18] (fun s18 wr=>∃(i:Nat) (vs:List mF),i≤8∧s18=b m i∧vs.length≤i*(1+kS L)∧(0<i→s.has t=J)∧
    Hid (s.has t=J→cC s L t a=⟨(dg s L t a (gE s L) (List.range' i (8 - i))).code,vs++(dg s L t a (gE s L) (List.range' i (8 - i))).vs⟩)∧
    O wr (I (vs0++vs)*(ai f s*R))∧ad w wr) (fun s18 _=>8 - (intOf s18).toNat)
  case atStart=>
   refine⟨0,[],by omega,rfl,by simp,fun h=>by omega,x fun ht=> ?_,by simpa using h,Ext.refl _⟩;rw[iJ,if_neg (by rw[ht];simp),List.range_eq_range'];rfl
  case round=>
   clear h;obtain⟨i,vs,hi,rfl,hvl,hti,HE,hr,hx⟩:=hrel;by_cases hlt:i<8
   ·have hLD:=qc f s t i _ wr hr.p2
    cases ht:s.has t with
    |false=>
     have hi0:i=0:=by
      rcases Nat.eq_zero_or_pos i with h|h
      ·exact h
      ·rw[hti h] at ht;cases ht
     subst hi0;have hv0:vs=[]:=List.eq_nil_of_length_eq_zero (by omega);subst hv0;have hy:=x (show cC s L t a=⟨12,[]⟩ by rw[iJ,if_pos ht]);have hw:s.hasW t ((0:Nat):Int)=q:=by unfold Ms.hasW;rw[ht];rfl
     rw[hw] at hLD;clear hw ht hti HE;generalize dQ s t ((0:Nat):Int)=v at*
     go_wp2_with fail
     refine hLD.mono ?_;rintro e w2 ⟨rfl,rfl⟩;go_wp2_with fail
     go_ret;rw[hy.out];exact⟨rfl,hr,hx⟩
    |true=>
     have hw:s.hasW t (i:Int)=J:=iL.2 ⟨ht,by omega,by omega⟩;have hlv:dQ s t (i:Int)=ay s t i:=by unfold dQ ay;rw[if_pos hw]
     rw[hw,hlv] at hLD;clear hw hlv;have hb:=hs.inv.wok t.toNat ((i:Int)).toNat;have HD:=x (fun W=>jX (ay s t i) L W hb.1 hb.2);clear hb;have hEq:=HE.out ht;rw[oS hlt] at hEq;have HEQ:=x hEq;clear hEq HE hti;have HT:=x ht;clear ht;obtain⟨hat0,hat4,ha6⟩:=vH hL ha ha4 hlt;have hm1:IntKind.i64.wrap (a*8)=a*8:=by rw[U];omega
     have hm2:IntKind.i64.wrap (a*8+i)=a*8+i:=by rw[U];omega
     by_cases hc:bu (ay s t i) L=0
     case neg=>
      have hy:=x (show cC s L t a=⟨bu (ay s t i) L,vs⟩ by rw[HEQ.out,sQ hc];simp);have hv:=x (dd (w:=ay s t i) (l:=L) rfl (.inl hc));rw[hv.out] at HD;have hn:(bu (ay s t i) L !=0)=J:=by simpa using hc
      clear hv hc HEQ;generalize bu (ay s t i) L=code at*
      generalize ay s t i=v at*
      go_wp2_with fail
      refine hLD.mono ?_;rintro e w2 ⟨rfl,rfl⟩;go_wp2_with fail
      refine(HD.out _).mono ?_;rintro e w2 ⟨rfl,b2⟩;go_wp2_with fail
      go_ret;rw[hy.out];exact⟨rfl,(hr.below b2).alloc _,(hx.below b2).alloc _⟩
     have hp1:=x (fun hn=>pU (a:=a) (sub:=gE s L) (is:=List.range' (i+1) (8 - (i+1))) hc hn);have hp2:=x (fun hn hk=>sR (a:=a) (sub:=gE s L) (is:=List.range' (i+1) (8 - (i+1))) hc hn hk);have hp3:=x (fun hn hk=>oT (a:=a) (sub:=gE s L) (is:=List.range' (i+1) (8 - (i+1))) hc hn hk);have hv:=x (show eZ (ay s t i) L= .tuple #[.agg #[z (aE (ay s t i) L).there,z (aE (ay s t i) L).leaf,b m (aE (ay s t i) L).rights,z (aE (ay s t i) L).used,z (aE (ay s t i) L).dirty,b m (aE (ay s t i) L).frame],b m 0] by unfold eZ;rw[hc]);rw[hv.out] at HD;have hK:=x (show(aE (ay s t i) L).there =J∧(aE (ay s t i) L).leaf =q→∃K,L=K+1 by
      intro hn;cases L with
      |zero=>
       rcases fu hc with h|h
       ·have:=hn.1.symm.trans h
        cases this
       ·have:=hn.2.symm.trans h
        cases this
      |succ K=>exact⟨K,rfl⟩)
     clear hv hc;have hvis:yb ⟨t,L,a*8+i,aE (ay s t i) L⟩:=⟨by show(0:Int)≤(L:Int);omega,by show(L:Int)≤3;omega,hat0,hat4⟩;have HS:=fun P=>HSEE.out P (vs0++vs) ⟨t,L,a*8+i,aE (ay s t i) L⟩;generalize aE (ay s t i) L=e at*
     have hbnd:(vs0++vs).length <B:=by
      have h1:=Nat.mul_le_mul_right (1+kS L) (show i≤7 by omega);have h2:8*(1+kS L)=7*(1+kS L)+(1+kS L):=by omega
      rw[M];omega
     generalize ay s t i=v at*
     have HSA:=x (fun P W hW=>HS P W hvis hbnd hW);clear HS hvis hbnd;go_wp2_with fail
     refine hLD.mono ?_;rintro e2 w2 ⟨rfl,rfl⟩;go_wp2_with fail
     refine(HD.out _).mono ?_;rintro e2 w2 ⟨rfl,b2⟩;have h2:=hr.below b2;have x2:=hx.below b2;have h3:=(h2.new #[z e.there,z e.leaf,b m e.rights,z e.used,z e.dirty,b m e.frame] 70);have x3:=x2.alloc (.cells #[z e.there,z e.leaf,b m e.rights,z e.used,z e.dirty,b m e.frame] 70);have h3:=h3.p2;clear hLD HD hr hx h2 x2 b2;go_wp2_with fail
     refine(HSA.out _ _ h3).mono ?_;rintro e2 w5 ⟨rfl,h5,x5⟩;have x5:=x3.trans x5;obtain⟨e0,e1,e2',e3,e4,e5⟩:=h5.right.cells6;have el:=h5.right.lt;have hlen1:i*(1+kS L)+(1+kS L)=(i+1)*(1+kS L):=by rw[Nat.add_mul,Nat.one_mul]
     have hv1:vs0++vs++[⟨t,L,a*8+i,e⟩]=vs0++(vs++[⟨t,L,a*8+i,e⟩]):=List.append_assoc _ _ _;have HV1:=x hv1;clear hv1 h3 x3;by_cases hn:e.there=J∧e.leaf=q
     ·obtain⟨K,hLK⟩:=hK.out hn
      have hLKH:=x hLK;have hwr:IntKind.i64.wrap ((L:Int) - 1)=(K:Int):=by rw[U];omega
      have hlv:vs.length≤7*(1+kS L):=Nat.le_trans hvl (Nat.mul_le_mul_right _ (by omega));have hIH:=IH.out K hLK _ e.frame (a*8+i) (vs0++(vs++[⟨t,(L:Int),a*8+i,e⟩])) w5 hat0 (by rw[←hLKH.out];exact hat4) (by
       have hsm:kS L=jy K:=by rw[hLKH.out];rfl
       rw[M,M,List.length_singleton];omega) (by
       rw[←HV1.out];exact h5.eq (by rw[ar (aa _ _ _)]))
      have hsub:gE s L=cC s K:=by rw[hLKH.out];rfl
      have HP2:=x (fun hk=>hp2.out hn hk);have HP3:=x (fun hk=>hp3.out hn hk);rw[←hsub] at hIH;have hrl:=x (show(gE s L e.frame (a*8+i)).vs.length ≤jy K by rw[hsub];exact ng s K e.frame (a*8+i));clear hLK hsub;obtain⟨n1,n2⟩:=hn;generalize gE s L e.frame (a*8+i)=r at*
      go_wp2_with fail
      refine hIH.mono ?_;rintro e2 w6 ⟨rfl,h6,x6⟩;have x6:=x5.trans x6;by_cases hk:r.code=0
      ·have hfin:=x (HP2.out hk)
       go_wp2_with fail
       go_roundw
       case rel=>
        refine⟨i+1,vs++(⟨t,(L:Int),a*8+i,e⟩::r.vs),by omega,by go_num,?_,by intros;first|trivial|exact HT.out,x fun _=> ?_,?_,x6⟩
        ·have:=hrl.out
         have hsm:kS L=jy K:=by rw[hLKH.out];rfl
         rw[M,List.length_cons];omega
        ·rw[HEQ.out,hfin.out]
         simp
        ·have h7:=h6.p2.p2
         have e7:vs0++(vs++[⟨t,(L:Int),a*8+i,e⟩])++r.vs=vs0++(vs++(⟨t,(L:Int),a*8+i,e⟩::r.vs)):=by simp
         rw[e7] at h6;exact h6.drop3
       case measure=>simp[intOf];omega
      ·have hfin:=x (HP3.out hk)
       have hkn:(r.code !=0)=J:=by simpa using hk
       go_wp2_with fail
       go_ret;rw[HEQ.out,hfin.out];have e7:vs0++(vs++[⟨t,(L:Int),a*8+i,e⟩])++r.vs=vs0++(vs++(⟨t,(L:Int),a*8+i,e⟩::r.vs)):=by simp
       rw[e7] at h6;exact⟨rfl,h6.drop3,x6⟩
     ·have hfin:=x (hp1.out hn)
      rw[HV1.out] at h5;have hcase:e.there=q∨(e.there=J∧e.leaf=J):=by
       cases h1:e.there<;>cases h2:e.leaf<;>simp_all
      have hround:∀wz,O wz (I (vs0++(vs++[⟨t,(L:Int),a*8+i,e⟩]))*(aa w2.heap.size #[z e.there,z e.leaf,b m e.rights,z e.used,z e.dirty,b m e.frame] 70*(ai f s*R)))→O wz (I (vs0++(vs++[⟨t,(L:Int),a*8+i,e⟩]))*(ai f s*R)):=fun _ h=>h.p2.right;have HR:=x hround;clear hround hn;rcases hcase with h1|⟨h1,h2⟩
      ·go_wp2_with fail
       go_roundw
       case rel=>
        refine⟨i+1,vs++[⟨t,(L:Int),a*8+i,e⟩],by omega,by go_num,by rw[M,List.length_singleton];omega,by intros;first|trivial|exact HT.out,x fun _=> ?_,HR.out _ h5,x5⟩;rw[HEQ.out,hfin.out];simp
       case measure=>simp[intOf];omega
      ·go_wp2_with fail
       go_roundw
       case rel=>
        refine⟨i+1,vs++[⟨t,(L:Int),a*8+i,e⟩],by omega,by go_num,by rw[M,List.length_singleton];omega,by intros;first|trivial|exact HT.out,x fun _=> ?_,HR.out _ h5,x5⟩;rw[HEQ.out,hfin.out];simp
       case measure=>simp[intOf];omega
   ·obtain rfl:i=8:=by omega
    have hy:=x (HE.out (hti (by omega)));go_wp2_with fail
    go_ret;rw[hy.out];exact⟨rfl,by simpa [dg] using hr,hx⟩
theorem oU:∀(L:Nat),L≤3→pV f s g cap I B L
 |0,h=>nh f s hs g cap eg I B hsee 0 h fun _ e=>by cases e
 |L+1,h=>nh f s hs g cap eg I B hsee (L+1) h fun K e=>by
  obtain rfl:L=K:=by omega
  exact oU L (by omega)
end
end Go.Proofs.YtmfheghbgihdmaaGreat
