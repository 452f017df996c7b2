/- Contract of wayleaveref.LeafMap. -/
import Derived.Test.YtmfheghbgihdmaaGreatInsM2
import Derived.Test.YtmfheghbgihdmaaGreatRefPage
import Derived.Deep.RegionHeld3
import Derived.Test.YtmfheghbgihdmaaGreatEntry5
import Derived.Test.YtmfheghbgihdmaaGreatWalkM2
import Derived.Deep.DeepCutAuto
import Derived.Test.YtmfheghbgihdmaaGreatWkr
import Derived.Test.YtmfheghbgihdmaaGreatFrames3
import Derived.Test.YtmfheghbgihdmaaGreatSep
import Derived.Test.YtmfheghbgihdmaaGreatTblM3
import Derived.Lib.Hide
import Derived.WalkSpells
import Derived.Outline
import Derived.RangeFuncNested
import Derived.RangeFuncBound
import Derived.RangeFuncCalls
import Derived.RangeFuncLeaves
import Derived.Shelf.Abstract
import Derived.Shelf.RegionOpen
import Derived.WalkKit
import Derived.OwnWalkIn
import Derived.TacticsInMore
import Derived.LoopNIn
import Derived.LoopIn
import Derived.BigQuiet
namespace Go.Proofs.YtmfheghbgihdmaaGreat
open Option renaming none→z,some→E
open Bool renaming false→G,true→O
open Go.Value renaming int→H,bool→V
open Go.IntKind renaming i64→I,wrap_i64→ad
open Go.Lib renaming hid→M
open Go.Addr renaming mk→N
open Go renaming World→U,bodyPost_ret→Y,Calls→al,Value→a3,Addr→a7
open Go.Proofs.YtmfheghbgihdmaaGreat renaming Has→Z,Agree→a2,Ext→a6,lev→bb
open Go.Proofs.YtmfheghbgihdmaaGreat.Good renaming const→af,till→ax,and→a4
open List renaming getElem?_eq_getElem→ag
open Go.World renaming size_alloc→a5
open Tryz
open Go.RowKit
set_option maxRecDepth 100000
set_option maxHeartbeats 4000000 in
theorem gU(e:En)(l a:Int)(w:U):al prog 80 #[.agg #[V e.there,V e.leaf,H I e.rights,V e.used,V e.dirty,H I e.frame],.int .i64 l,.int .i64 a] w (Pure (aA e l a).val w):=by
 obtain⟨th,leaf,r,u,d,f⟩:=e;have h1:=(Has.new (aT w) #[V th,V leaf,H I r,V u,V d,H I f] 70).new #[H I 0,H I 0,H I 0,H I 0] 39;have x1:=((Ext.refl w).alloc (.cells #[V th,V leaf,H I r,V u,V d,H I f] 70)).alloc (.cells #[H I 0,H I 0,H I 0,H I 0] 39);simp only[a5] at h1;have HC:=M (fun W=>fB ⟨th,leaf,r,u,d,f⟩ l W);by_cases hc:aj ⟨th,leaf,r,u,d,f⟩ l=0
 ·have hl:=gW hc
  cases leaf with
  |false=>
   have hy:=M (fb (e:=⟨th,G,r,u,d,f⟩) (l:=l) (a:=a) (.inr (.inl rfl)));rw[hc] at HC;clear hc;go_enter func80,ntmps80;go_wp2_with fail
   refine(HC.out _).mono ?_;rintro e w2 ⟨rfl,bl⟩;have h2:=h1.below bl;have x2:=x1.below bl;obtain⟨c0,c1,c2,c3⟩:=h2.cells4;obtain⟨d0,d1,d2,d3,d4,d5⟩:=h2.right.cells6;obtain⟨f0,f1,f2,f3⟩:=h2.frees4;have l2:=h2.lt;go_wp2_with fail
   refine ak (fun wz=>Z wz (aa (w.heap.size+1) #[H I 0,H I 0,H I 0,H I 0] 39*(aa w.heap.size _ 70*bS w w.heap.size))∧a6 w wz) ⟨h2.set4 _ _ _ _,ah⟩ ?_;rintro wz ⟨hz,xz⟩;exact Y (aD results80 rfl (aV hz)) rfl ⟨by rw[hy.out];rfl,aq hz.right.right xz⟩
  |true=>
   by_cases a0:0≤a
   ·by_cases a1:a<4096
    ·have hth:th=O:=by
      cases th with
      |true=>rfl
      |false=>
       have:=dA hc rfl;simp[En.zero] at this
     subst hth;have hl3:=((dB hc rfl).leaf rfl).1;have hl0:=hl.1;have hy:=M (show aA ⟨O,O,r,u,d,f⟩ l a=⟨a / bn l*bn l,l,f,r⟩ by unfold aA;rw[if_pos ⟨hc,rfl,a0,a1⟩]);rw[hc] at HC;clear hc hl;have hl:l=0∨l=1∨l=2:=by omega
     clear hl0 hl3;rcases hl with rfl|rfl|rfl
     ·skip
      have hq:=M (show IntKind.i64.wrap a=a / bn 0*bn 0 by rw[show bn 0=1 from rfl];first|(simp only[ad];omega)|(simp only[ad,Int.tmod_eq_emod_of_nonneg a0];omega));have hs':=M (bM 0);rw[show bn 0=1 from rfl] at hs';go_enter func80,ntmps80;go_wp2_with fail
      refine(HC.out _).mono ?_;rintro e w2 ⟨rfl,bl⟩;have h2:=h1.below bl;have x2:=x1.below bl;obtain⟨c0,c1,c2,c3⟩:=h2.cells4;obtain⟨d0,d1,d2,d3,d4,d5⟩:=h2.right.cells6;obtain⟨f0,f1,f2,f3⟩:=h2.frees4;have l2:=h2.lt;clear HC h1 x1 bl;go_wp2_with fail
      go_region_held3 (fun w'=>w'.cell? (N w.heap.size 5 z)=E (H I f)∧w'.cell? (N w.heap.size 2 z)=E (H I r)) (go_keep) (first|(go_at_call 137;(with_reducible refine(hs'.out _).mono ?_);rintro e w' ⟨rfl,rfl⟩))
      go_wp2;refine ak (fun wz=>Z wz (aa (w.heap.size+1) #[H I (IntKind.i64.wrap a),H I 0,H I f,H I r] 39*(aa w.heap.size #[V O,V O,H I r,V u,V d,H I f] 70*bS w w.heap.size))∧a6 w wz) ⟨(h2.set4 _ _ _ _).drew,ah⟩ ?_;rintro wz ⟨hz,xz⟩;exact Y (aD results80 rfl (aV hz)) rfl ⟨by rw[hy.out,←hq.out];rfl,aq hz.right.right xz⟩
     ·skip
      have hq:=M (show IntKind.i64.wrap (a - a.tmod 8)=a / bn 1*bn 1 by rw[show bn 1=8 from rfl];first|(simp only[ad];omega)|(simp only[ad,Int.tmod_eq_emod_of_nonneg a0];omega));have hs':=M (bM 1);rw[show bn 1=8 from rfl] at hs';go_enter func80,ntmps80;go_wp2_with fail
      refine(HC.out _).mono ?_;rintro e w2 ⟨rfl,bl⟩;have h2:=h1.below bl;have x2:=x1.below bl;obtain⟨c0,c1,c2,c3⟩:=h2.cells4;obtain⟨d0,d1,d2,d3,d4,d5⟩:=h2.right.cells6;obtain⟨f0,f1,f2,f3⟩:=h2.frees4;have l2:=h2.lt;clear HC h1 x1 bl;go_wp2_with fail
      go_region_held3 (fun w'=>w'.cell? (N w.heap.size 5 z)=E (H I f)∧w'.cell? (N w.heap.size 2 z)=E (H I r)) (go_keep) (first|(go_at_call 137;(with_reducible refine(hs'.out _).mono ?_);rintro e w' ⟨rfl,rfl⟩))
      go_wp2;refine ak (fun wz=>Z wz (aa (w.heap.size+1) #[H I (IntKind.i64.wrap (a - a.tmod 8)),H I 1,H I f,H I r] 39*(aa w.heap.size #[V O,V O,H I r,V u,V d,H I f] 70*bS w w.heap.size))∧a6 w wz) ⟨(h2.set4 _ _ _ _).drew,ah⟩ ?_;rintro wz ⟨hz,xz⟩;exact Y (aD results80 rfl (aV hz)) rfl ⟨by rw[hy.out,←hq.out];rfl,aq hz.right.right xz⟩
     ·skip
      have hq:=M (show IntKind.i64.wrap (a - a.tmod 64)=a / bn 2*bn 2 by rw[show bn 2=64 from rfl];first|(simp only[ad];omega)|(simp only[ad,Int.tmod_eq_emod_of_nonneg a0];omega));have hs':=M (bM 2);rw[show bn 2=64 from rfl] at hs';go_enter func80,ntmps80;go_wp2_with fail
      refine(HC.out _).mono ?_;rintro e w2 ⟨rfl,bl⟩;have h2:=h1.below bl;have x2:=x1.below bl;obtain⟨c0,c1,c2,c3⟩:=h2.cells4;obtain⟨d0,d1,d2,d3,d4,d5⟩:=h2.right.cells6;obtain⟨f0,f1,f2,f3⟩:=h2.frees4;have l2:=h2.lt;clear HC h1 x1 bl;go_wp2_with fail
      go_region_held3 (fun w'=>w'.cell? (N w.heap.size 5 z)=E (H I f)∧w'.cell? (N w.heap.size 2 z)=E (H I r)) (go_keep) (first|(go_at_call 137;(with_reducible refine(hs'.out _).mono ?_);rintro e w' ⟨rfl,rfl⟩))
      go_wp2;refine ak (fun wz=>Z wz (aa (w.heap.size+1) #[H I (IntKind.i64.wrap (a - a.tmod 64)),H I 2,H I f,H I r] 39*(aa w.heap.size #[V O,V O,H I r,V u,V d,H I f] 70*bS w w.heap.size))∧a6 w wz) ⟨(h2.set4 _ _ _ _).drew,ah⟩ ?_;rintro wz ⟨hz,xz⟩;exact Y (aD results80 rfl (aV hz)) rfl ⟨by rw[hy.out,←hq.out];rfl,aq hz.right.right xz⟩
    ·have hy:=M (fb (e:=⟨th,O,r,u,d,f⟩) (l:=l) (a:=a) (.inr (.inr (by unfold cP;simp;omega))))
     rw[hc] at HC;clear hc;go_enter func80,ntmps80;go_wp2_with fail
     refine(HC.out _).mono ?_;rintro e w2 ⟨rfl,bl⟩;have h2:=h1.below bl;have x2:=x1.below bl;obtain⟨c0,c1,c2,c3⟩:=h2.cells4;obtain⟨d0,d1,d2,d3,d4,d5⟩:=h2.right.cells6;obtain⟨f0,f1,f2,f3⟩:=h2.frees4;have l2:=h2.lt;go_wp2_with fail
     refine ak (fun wz=>Z wz (aa (w.heap.size+1) #[H I 0,H I 0,H I 0,H I 0] 39*(aa w.heap.size _ 70*bS w w.heap.size))∧a6 w wz) ⟨h2.set4 _ _ _ _,ah⟩ ?_;rintro wz ⟨hz,xz⟩;exact Y (aD results80 rfl (aV hz)) rfl ⟨by rw[hy.out];rfl,aq hz.right.right xz⟩
   ·have hy:=M (fb (e:=⟨th,O,r,u,d,f⟩) (l:=l) (a:=a) (.inr (.inr (by unfold cP;simp;omega))))
    rw[hc] at HC;clear hc;go_enter func80,ntmps80;go_wp2_with fail
    refine(HC.out _).mono ?_;rintro e w2 ⟨rfl,bl⟩;have h2:=h1.below bl;have x2:=x1.below bl;obtain⟨c0,c1,c2,c3⟩:=h2.cells4;obtain⟨d0,d1,d2,d3,d4,d5⟩:=h2.right.cells6;obtain⟨f0,f1,f2,f3⟩:=h2.frees4;have l2:=h2.lt;go_wp2_with fail
    refine ak (fun wz=>Z wz (aa (w.heap.size+1) #[H I 0,H I 0,H I 0,H I 0] 39*(aa w.heap.size _ 70*bS w w.heap.size))∧a6 w wz) ⟨h2.set4 _ _ _ _,ah⟩ ?_;rintro wz ⟨hz,xz⟩;exact Y (aD results80 rfl (aV hz)) rfl ⟨by rw[hy.out];rfl,aq hz.right.right xz⟩
 ·have hy:=M (fb (e:=⟨th,leaf,r,u,d,f⟩) (l:=l) (a:=a) (.inl hc))
  have hn:(aj ⟨th,leaf,r,u,d,f⟩ l !=0)=O:=by simpa using hc
  clear hc;generalize aj ⟨th,leaf,r,u,d,f⟩ l=c at*
  go_enter func80,ntmps80;go_wp2_with fail
  refine(HC.out _).mono ?_;rintro e w2 ⟨rfl,bl⟩;have h2:=h1.below bl;have x2:=x1.below bl;obtain⟨c0,c1,c2,c3⟩:=h2.cells4;obtain⟨d0,d1,d2,d3,d4,d5⟩:=h2.right.cells6;obtain⟨f0,f1,f2,f3⟩:=h2.frees4;have l2:=h2.lt;go_wp2_with fail
  refine ak (fun wz=>Z wz (aa (w.heap.size+1) #[H I 0,H I 0,H I 0,H I 0] 39*(aa w.heap.size _ 70*bS w w.heap.size))∧a6 w wz) ⟨h2.set4 _ _ _ _,ah⟩ ?_;rintro wz ⟨hz,xz⟩;exact Y (aD results80 rfl (aV hz)) rfl ⟨by rw[hy.out];rfl,aq hz.right.right xz⟩
theorem db{w:U}{R:ab}{A:Option a7}{n c:Nat}{l:List Int}(h:Z w (ao (.slice A n c) l*R)){k:Nat}(hk:k<l.length):
  ∃b,A=E (N b 0 z)∧b<w.heap.size∧w.cell? (N b k z)=E (H I l[k]):=by
 have hf:=(Has.rowCases (e:=3) (size:=1) h);have hn:n=l.length:=by
  rcases hf with ⟨hv,h0,_⟩|⟨g,cap,cur,hv,_⟩
  ·injection hv with a b
   omega
  ·injection hv
 subst hn;obtain⟨b,e,hb,hc,_⟩:=Has.rowGet (e:=3) (size:=1) h (i:=k) (u:=H I l[k]) (by simp[hk]);exact⟨b,e,hb,hc⟩
theorem ei{w:U}{R:ab}{A:Option a7}{n c:Nat}{l:List Int}(h:Z w (ao (.slice A n c) l*R)):n=l.length:=by
 rcases(Has.rowCases (e:=3) (size:=1) h) with ⟨hv,h0,_⟩|⟨g,cap,cur,hv,_⟩
 ·injection hv with a b
  omega
 ·injection hv
theorem lM{w:U}{R:ab}{A:Option a7}{n c:Nat}{l:List Int}(h:Z w (ao (.slice A n c) l*R)):n≤9223372036854775807:=by
 obtain rfl:=ei h;exact(Has.rowLens (e:=3) (size:=1) h).2
section
variable {P:Program} {fn:Func} {tmps:Array a3} {w:U}
theorem fq{a b c:Nat}{t t':TypeId}{p p':a7}{v u x:a3}(hr:fn.results= #[.cell a t,.cell b t',.tmp c])(ha:tmps.getD a undef= .pointer (E p))(hb:tmps.getD b undef= .pointer (E p'))(hc:tmps.getD c undef=x)(hl:(loadVar t p).run P w= .ok v w)(hl':(loadVar t' p').run P w= .ok u w):
  (results fn tmps).run P w= .ok (.tuple #[v,u,x]) w:=by
 unfold results;rw[hr];simp only[Array.getD_eq_getD_getElem?] at ha hb hc;simp[asAddr,ha,hb,hc,hl,hl']
end
def wI(e:En):a3:= .agg #[V e.there,V e.leaf,H I e.rights,V e.used,V e.dirty,H I e.frame]
set_option maxHeartbeats 4000000 in
theorem lN(q:Nat)(s:Ms)(root p:Int)(R:ab)(w:U)(hs:s.Ok)(h:Z w (az q s*R)):
  al prog 33 #[.pointer (E (N q 0 z)),H I root,H I p] w (Pure (.tuple #[(bK s root p).val,wI (iP s root p),H I (bw s root p)]) w):=by
 have h0:=((aT w).new #[H I 0,H I 0,H I 0,H I 0] 39).new #[V G,V G,H I 0,V G,V G,H I 0] 70;have x0:=((Ext.refl w).alloc (.cells #[H I 0,H I 0,H I 0,H I 0] 39)).alloc (.cells #[V G,V G,H I 0,V G,V G,H I 0] 70);simp only[a5] at h0;have hq:=(h.alloc (.cells #[H I 0,H I 0,H I 0,H I 0] 39)).alloc (.cells #[V G,V G,H I 0,V G,V G,H I 0] 70);have W1:=M (jI q s root p R _ hs hq);have hfc:bw s root p=if(bp s root p).code ≠0 then(bp s root p).code else if(bp s root p).e.there =G then 5 else 0:=rfl
 have hfm:bK s root p=if bw s root p=0 then aA (bp s root p).e (bp s root p).lev p else Mp.zero:=rfl
 have hfe:iP s root p=if bw s root p=0 then(bp s root p).e else En.zero:=rfl
 generalize bw s root p=fc at*
 generalize bK s root p=fm at*
 generalize iP s root p=fe at*
 generalize bp s root p=y at*
 have HFC:=M (And.intro hfc (And.intro hfm hfe));clear h hq hfc hfm hfe;go_enter func33,ntmps33;go_wp2_with fail
 refine W1.out.mono ?_;rintro e w1 hF;generalize ((w.alloc (.cells #[H I 0,H I 0,H I 0,H I 0] 39)).alloc (.cells #[V G,V G,H I 0,V G,V G,H I 0] 70))=w0 at*
 obtain⟨A,c,rfl,h1,x1⟩:∃(A:Option a7) (c:Nat),e= .returned (.tuple #[.agg #[.slice A y.tabs.length c,V y.e.there,V y.e.leaf,H I y.e.rights,V y.e.used,V y.e.dirty,H I y.e.frame,H I y.lev],H I y.code])∧Z w1 (ao (.slice A y.tabs.length c) y.tabs*bS w0 w0.heap.size)∧a6 w0 w1:=hF;have h2:=(h0.onto' h1).right.new #[.slice A y.tabs.length c,V y.e.there,V y.e.leaf,H I y.e.rights,V y.e.used,V y.e.dirty,H I y.e.frame,H I y.lev] 146;have x2:=(x0.trans x1).alloc (.cells #[.slice A y.tabs.length c,V y.e.there,V y.e.leaf,H I y.e.rights,V y.e.used,V y.e.dirty,H I y.e.frame,H I y.lev] 146);clear h0 x0 h1 x1 W1;obtain⟨hfc,hfm,hfe⟩:=HFC.out;clear HFC;by_cases hc:y.code=0
 case neg=>
  rw[if_pos hc] at hfc;rw[if_neg (by rw[hfc];exact hc)] at hfm hfe;have HF:=M (show fc=y.code∧fm=Mp.zero∧fe=En.zero from⟨hfc,hfm,hfe⟩);have hn:(y.code==0)=G:=by simpa using hc
  have hn':(y.code !=0)=O:=by simpa using hc
  clear hc hfc hfm hfe;go_upto_region 2 with fail;generalize w1.alloc _=w3 at*
  generalize w1.heap.size=X2 at*
  obtain⟨d0,d1,d2,d3,d4,d5⟩:=h2.right.cells6;obtain⟨f0,f1,f2,f3,f4,f5⟩:=h2.right.frees6;have dl:=h2.right.lt;obtain⟨c0,c1,c2,c3⟩:=h2.right.right.cells4;obtain⟨g0,g1,g2,g3⟩:=h2.right.right.frees4;have cl:=h2.right.right.lt;have h4:=h2.right.p2;have n1:=h4.ne;have n2:=n1.symm;go_wp2_with fail
  refine ak (fun wz=>Z wz (aa (w.heap.size+1) #[V G,V G,H I 0,V G,V G,H I 0] 70*(aa w.heap.size #[H I 0,H I 0,H I 0,H I 0] 39*bS w w.heap.size))∧a6 w wz) ⟨((h4.set4 _ _ _ _).p2).set6 _ _ _ _ _ _,ah⟩ ?_;rintro wz ⟨hz,xz⟩;exact Y (fq results33 rfl rfl rfl (aV hz.right) (bC hz)) rfl ⟨by rw[HF.out.1,HF.out.2.1,HF.out.2.2];rfl,aq hz.right.right xz⟩
 case pos=>
  rw[if_neg (by rw[hc];simp)] at hfc;obtain⟨code,tabs,bb,th,lf,rg,us,di,fr⟩:=y;dsimp only at*
  subst hc;cases th with
  |false=>
   rw[if_pos rfl] at hfc;rw[if_neg (by rw[hfc];decide)] at hfm hfe;have HF:=M (show fc=5∧fm=Mp.zero∧fe=En.zero from⟨hfc,hfm,hfe⟩);clear hfc hfm hfe;go_upto_region 2 with fail;generalize w1.alloc _=w3 at*
   generalize w1.heap.size=X2 at*
   obtain⟨k0,k1,_⟩:=h2.cells8;have kl:=h2.lt;obtain⟨d0,d1,d2,d3,d4,d5⟩:=h2.right.cells6;obtain⟨f0,f1,f2,f3,f4,f5⟩:=h2.right.frees6;have dl:=h2.right.lt;obtain⟨c0,c1,c2,c3⟩:=h2.right.right.cells4;obtain⟨g0,g1,g2,g3⟩:=h2.right.right.frees4;have cl:=h2.right.right.lt;have h4:=h2.right.p2;have n1:=h4.ne;have n2:=n1.symm;go_wp2_with fail
   refine ak (fun wz=>Z wz (aa (w.heap.size+1) #[V G,V G,H I 0,V G,V G,H I 0] 70*(aa w.heap.size #[H I 0,H I 0,H I 0,H I 0] 39*bS w w.heap.size))∧a6 w wz) ⟨((h4.set4 _ _ _ _).p2).set6 _ _ _ _ _ _,ah⟩ ?_;rintro wz ⟨hz,xz⟩;exact Y (fq results33 rfl rfl rfl (aV hz.right) (bC hz)) rfl ⟨by rw[HF.out.1,HF.out.2.1,HF.out.2.2];rfl,aq hz.right.right xz⟩
  |true=>
   rw[if_neg (by simp)] at hfc;rw[if_pos hfc] at hfm hfe;have HF:=M (show fc=0∧fm=aA ⟨O,lf,rg,us,di,fr⟩ bb p∧fe=⟨O,lf,rg,us,di,fr⟩ from⟨hfc,hfm,hfe⟩);have HL:Hid (∀X,al prog 80 #[.agg #[V O,V lf,H I rg,V us,V di,H I fr],.int .i64 bb,.int .i64 p] X (Pure (aA ⟨O,lf,rg,us,di,fr⟩ bb p).val X)):=M (fun X=>gU ⟨O,lf,rg,us,di,fr⟩ bb p X);clear hfc hfm hfe;generalize aA ⟨O,lf,rg,us,di,fr⟩ bb p=lm at*
   go_upto_region 6 with fail;generalize w1.alloc _=w3 at*
   generalize w1.heap.size=X2 at*
   have h3:Z w3 (aa (w.heap.size+1) #[V G,V G,H I 0,V G,V G,H I 0] 70*(aa X2 #[.slice A tabs.length c,V O,V lf,H I rg,V us,V di,H I fr,H I bb] 146*(aa w.heap.size #[H I 0,H I 0,H I 0,H I 0] 39*bS w w.heap.size))):=h2.p2;have h4:=h3.set6 (V O) (V lf) (H I rg) (V us) (V di) (H I fr);clear h2;have HK:=M (fun(w':U) (P:ab) (h:Z w' (aa X2 #[.slice A tabs.length c,V O,V lf,H I rg,V us,V di,H I fr,H I bb] 146*P))=>h.cells8);obtain⟨k0,k1,k2,k3,k4,k5,k6,k7⟩:=h3.right.cells8;have kl:=h3.right.lt;obtain⟨d0,d1,d2,d3,d4,d5⟩:=h3.cells6;obtain⟨f0,f1,f2,f3,f4,f5⟩:=h3.frees6;have dl:=h3.lt;have n1:=h3.ne;have n2:=n1.symm;go_cut [8] (fun s8 wx=>s8=H I 0∧Z wx (aa (w.heap.size+1) #[V O,V lf,H I rg,V us,V di,H I fr] 70*(aa w.heap.size #[H I lm.page,H I lm.size,H I lm.frame,H I lm.rights] 39*bS w w.heap.size))∧a6 w wx)
   case first=>
    go_region_held3 (fun w'=>w'.cell? (N X2 0 z)=E (.slice A tabs.length c)∧w'.cell? (N X2 1 z)=E (V O)∧w'.cell? (N X2 2 z)=E (V lf)∧w'.cell? (N X2 3 z)=E (H I rg)∧w'.cell? (N X2 4 z)=E (V us)∧w'.cell? (N X2 5 z)=E (V di)∧w'.cell? (N X2 6 z)=E (H I fr)∧w'.cell? (N X2 7 z)=E (H I bb)) (first|(with_reducible exact HK.out _ _ h5.right)|(with_reducible exact HK.out _ _ g5.right)|(with_reducible exact HK.out _ _ h4.drew.right)|(with_reducible exact HK.out _ _ h3.drew.right)|go_keep) (first|(go_at_call 80;((with_reducible refine(HL.out _).mono ?_);rintro e2 w5 ⟨rfl,b5⟩;first|(have h5:=h3.drew.below b5;have x5:=x2.drew.below b5;obtain⟨y0,y1,y2,y3,y4,y5⟩:=h5.cells6;obtain⟨z0,z1,z2,z3,z4,z5⟩:=h5.frees6;have yl:=h5.lt;obtain⟨c0,c1,c2,c3⟩:=h5.right.right.cells4;obtain⟨g0,g1,g2,g3⟩:=h5.right.right.frees4;have cl:=h5.right.right.lt;have nn:=h5.p2.right.ne;have nn':=nn.symm;have mm:=h5.right.ne;have mm':=mm.symm)|(have g5:=h4.drew.below b5;have y5:=(((((((x2.set _ _).set _ _).set _ _).set _ _).set _ _).set _ _).drew).below b5;obtain⟨c0,c1,c2,c3⟩:=g5.right.right.cells4;obtain⟨g0,g1,g2,g3⟩:=g5.right.right.frees4;have cl:=g5.right.right.lt;have mm:=g5.right.ne;have mm':=mm.symm))))
    all_goals
     go_wp2_with fail
     go_meet
     case rel=>
      have h6:Z w5 (aa w.heap.size #[H I 0,H I 0,H I 0,H I 0] 39*(aa (w.heap.size+1) #[V G,V G,H I 0,V G,V G,H I 0] 70*(aa X2 #[.slice A tabs.length c,V O,V lf,H I rg,V us,V di,H I fr,H I bb] 146*bS w w.heap.size))):=h5.eq (by ac_rfl);have h7:=h6.set4 (H I lm.page) (H I lm.size) (H I lm.frame) (H I lm.rights);have h8:=h7.p2.set6 (V O) (V lf) (H I rg) (V us) (V di) (H I fr);exact⟨rfl,h8.drop3,ah⟩
   case rest=>
    obtain⟨rfl,h9,x9⟩:=hcut;go_wp2_with fail
    refine ak (fun wz=>Z wz (aa (w.heap.size+1) #[V O,V lf,H I rg,V us,V di,H I fr] 70*(aa w.heap.size #[H I lm.page,H I lm.size,H I lm.frame,H I lm.rights] 39*bS w w.heap.size))∧a6 w wz) ⟨h9,x9⟩ ?_;rintro wz ⟨hz,xz⟩;exact Y (fq results33 rfl rfl rfl (aV hz.right) (bC hz)) rfl ⟨by rw[HF.out.1,HF.out.2.1,HF.out.2.2];rfl,aq hz.right.right xz⟩
theorem wJ(b f:Nat)(t i l:Int)(v:a3)(e:En)(s:Ms)(R:ab)(w:U)(h:Z w (aa b #[.pointer (E (N f 0 z)),v] 224*(ai f s*R))):
  al prog 153 #[.pointer (E (N b 0 z)),H I t,H I i,H I l,.agg #[V e.there,V e.leaf,H I e.rights,V e.used,V e.dirty,H I e.frame]] w (cI (.tuple #[]) (aa b #[.pointer (E (N f 0 z)),v] 224*(ai f (fg s t i (bt e l))*R)) w):=by
 have h1:=h.new #[V e.there,V e.leaf,H I e.rights,V e.used,V e.dirty,H I e.frame] 70;have x1:=(Ext.refl w).alloc (.cells #[V e.there,V e.leaf,H I e.rights,V e.used,V e.dirty,H I e.frame] 70);have HE:=M (j9 e l);have HS:=M (fun R w h=>pu f s t i (bt e l) R w h);generalize fg s t i (bt e l)=s' at*
 generalize s.hasW t i=ok at*
 generalize bt e l=wd at*
 generalize aj e l=ff at*
 clear h;obtain⟨c0,c1,c2,c3,c4,c5⟩:=h1.cells6;go_enter func153,ntmps153;go_wp2_with fail
 refine(HE.out _).mono ?_;rintro e2 w2 ⟨rfl,b2⟩;have h2:=h1.below b2;have x2:=x1.below b2;clear h1 x1 c0 c1 c2 c3 c4 c5;obtain⟨b0,b1⟩:=h2.right.cells2;have bl:=h2.right.lt;go_wp2_with fail
 refine(HS.out _ _ (h2.eq (show _=ai f s*(aa b #[.pointer (E (N f 0 z)),v] 224*(aa w.heap.size #[V e.there,V e.leaf,H I e.rights,V e.used,V e.dirty,H I e.frame] 70*R)) by ac_rfl))).mono ?_;rintro e3 w3 ⟨rfl,h3,x3⟩;have h4:=h3.eq (show _=aa w.heap.size #[V e.there,V e.leaf,H I e.rights,V e.used,V e.dirty,H I e.frame] 70*(aa b #[.pointer (E (N f 0 z)),v] 224*(ai f s'*R)) by ac_rfl);go_wp2_with fail
 exact Y (v:= .tuple #[]) (by simp[results,results153]) rfl ⟨rfl,h4.right,x2.trans x3⟩
def iv(s:Ms)(t:Int):Bool:=(List.range 8).all fun(i:Nat)=>dQ s t i==0
theorem qS{s:Ms}{t:Int}(h:s.has t=O):iv s t=fh s t:=by
 unfold iv fh;have e:∀i∈List.range 8,(dQ s t ((i:Nat):Int)==0)=(ay s t ((i:Nat):Int)==0):=fun i hi=>by
  have hi:=List.mem_range.1 hi;have hw:s.hasW t ((i:Nat):Int)=O:=iL.2 ⟨h,by omega,by omega⟩;unfold dQ ay;rw[if_pos hw]
 rw[Bool.eq_iff_iff,List.all_eq_true,List.all_eq_true];constructor
 ·intro hh x hx
  rw[←e x hx];exact hh x hx
 ·intro hh x hx
  rw[e x hx];exact hh x hx
theorem vp(f:Nat)(t:Int)(s:Ms)(R:ab)(w:U)(h:Z w (ai f s*R)):al prog 155 #[.pointer (E (N f 0 z)),H I t] w (Same (V (iv s t)) w):=by
 have HL:=M (fun(i:Int)=>qc f s t i R w h);have hyy:∀i:Nat,i<8→iv s t=O→dQ s t i=0:=fun i hi he=>by
  unfold iv at he;rw[List.all_eq_true] at he;simpa using he i (List.mem_range.2 hi)
 have hnn:∀i:Nat,i<8→dQ s t i≠0→iv s t=G:=fun i hi hn=>by
  cases he:iv s t with
  |false=>rfl
  |true=>exact absurd (hyy i hi he) hn
 have hall:(∀i:Nat,i<8→dQ s t i=0)→iv s t=O:=fun hh=>by
  unfold iv;rw[List.all_eq_true];intro x hx;simpa using hh x (List.mem_range.1 hx)
 have HNN:=M hnn;have HALL:=M hall;have HW:=M h;clear hyy hnn hall h;generalize iv s t=ev at*
 go_enter func155,ntmps155;go_wp2_with fail
 go_loopw [8] (fun t8 wr=>∃i:Nat,i≤8∧t8=H I i∧Hid (∀j:Nat,j<i→dQ s t j=0)∧w=wr) (fun t8 _=>8 - (intOf t8).toNat)
 case atStart=>exact⟨0,by omega,rfl,M (fun j hj=>by omega),rfl⟩
 case round=>
  obtain⟨i,hi,rfl,HZ,rfl⟩:=hrel;by_cases hlt:i<8
  ·have hL:=M (HL.out (i:Int))
   have hlt':(i:Int)<8:=by omega
   by_cases hz:dQ s t (i:Int)=0
   ·rw[hz] at hL
    have HZ':=M (show∀j:Nat,j<i+1→dQ s t j=0 from fun j hj=>by
     by_cases e:j=i
     ·subst e;exact hz
     ·exact HZ.out j (by omega))
    clear hz;generalize s.hasW t (i:Int)=hw at*
    go_wp2_with fail
    refine hL.out.mono ?_;rintro e2 w2 ⟨rfl,rfl⟩;go_wp2_with fail
    go_roundw
    case rel=>exact⟨i+1,by omega,by go_num,HZ',trivial⟩
    case measure=>simp[intOf];omega
   ·have hev:=HNN.out i hlt hz
    have hne:(dQ s t (i:Int) !=0)=O:=by simpa using hz
    subst hev;clear hz;generalize s.hasW t (i:Int)=hw at*
    generalize dQ s t (i:Int)=lv at*
    go_wp2_with fail
    refine hL.out.mono ?_;rintro e2 w2 ⟨rfl,rfl⟩;go_wp2_with fail
    go_ret;exact⟨rfl,rfl⟩
  ·obtain rfl:i=8:=by omega
   have hev:=HALL.out HZ.out;subst hev;go_wp2_with fail
   go_ret;exact⟨rfl,rfl⟩
def j5(p:Int)(tabs:List Int):Nat→Ms→Ms×List Int
 |0,s=>(s,[])
 |k+1,s=>
  if fh s (tabs.getD (k+1) 0)=O then
   ((j5 p tabs k (s.setW (tabs.getD k 0).toNat (am p (3 - k:Nat)).toNat 0)).1,tabs.getD (k+1) 0::(j5 p tabs k (s.setW (tabs.getD k 0).toNat (am p (3 - k:Nat)).toNat 0)).2)
  else(s,[])
theorem pB(p:Int)(tabs:List Int):∀(k:Nat) (s:Ms),dO p tabs k s=j5 p tabs k (s.setW (tabs.getD k 0).toNat (am p (3 - k:Nat)).toNat 0)
 |0,s=>rfl
 |k+1,s=>by
  show(if fh (s.setW (tabs.getD (k+1) 0).toNat (am p (3 - (k+1):Nat)).toNat 0) (tabs.getD (k+1) 0)=O then _ else _)=(if _ then _ else _);rw[pB p tabs k]
theorem qi(p:Int)(tabs:List Int){k:Nat}{s:Ms}(h:k=0∨fh s (tabs.getD k 0)=G):j5 p tabs k s=(s,[]):=by
 cases k with
 |zero=>rfl
 |succ k=>
  rcases h with h|h
  ·cases h
  ·unfold j5
   rw[if_neg (by rw[h];simp)]
theorem su(p:Int)(tabs:List Int){k j:Nat}{s:Ms}(hk:k=j+1)(h:fh s (tabs.getD k 0)=O):
  j5 p tabs k s=((j5 p tabs j (s.setW (tabs.getD j 0).toNat (am p (3 - j:Nat)).toNat 0)).1,tabs.getD k 0::(j5 p tabs j (s.setW (tabs.getD j 0).toNat (am p (3 - j:Nat)).toNat 0)).2):=by
 subst hk;conv=>lhs;unfold j5
 rw[if_pos h]
theorem Agree.takeS{s s':Ms}(h:a2 s s'):a2 s.takeS s'.takeS:=by
 have ht:=h.top;cases hk:s.top with
 |none=>
  have e1:s.takeS=s:=by unfold Ms.takeS;rw[hk]
  have e2:s'.takeS=s':=by unfold Ms.takeS;rw[←ht,hk]
  rw[e1,e2];exact h
 |some k=>
  have hk':s'.top=E k:=by rw[←ht];exact hk
  have e1:s.takeS=s.take k:=by unfold Ms.takeS;rw[hk]
  have e2:s'.takeS=s'.take k:=by unfold Ms.takeS;rw[hk']
  have f1:=fZ hk;have f2:=fZ hk';rw[h.fr] at f1;rw[e1] at f1⊢;rw[e2] at f2⊢;refine⟨h.n,fun j=> ?_,List.append_cancel_right (f1.trans f2.symm),fun j i hj=> ?_⟩
  ·show bU s.tk k O j=bU s'.tk k O j
   unfold bU;rw[h.tk]
  ·show(if j=k then(0:Int) else s.wd j i)=(if j=k then(0:Int) else s'.wd j i)
   by_cases e:j=k
   ·rw[if_pos e,if_pos e]
   ·rw[if_neg e,if_neg e]
    have hj:bU s.tk k O j=O:=hj;rw[im _ _ e] at hj;exact h.wd j i hj
theorem Agree.chain{p lw:Int}{sz:Nat}:∀(m:Nat) (s s':Ms) (t:Int),a2 s s'→a2 (dD s p lw sz m t) (dD s' p lw sz m t)
 |0,_,_,_,h=>h.setW _ _ _
 |m+1,s,s',t,h=>by
  have ht:=h.top;unfold Go.Proofs.YtmfheghbgihdmaaGreat.dD;rw[←ht];cases hk:s.top with
  |none=>exact h
  |some k=>
   have hk':s'.top=E k:=by rw[←ht];exact hk
   have e1:s.takeS=s.take k:=by unfold Ms.takeS;rw[hk]
   have e2:s'.takeS=s'.take k:=by unfold Ms.takeS;rw[hk']
   have h2:=h.takeS;rw[e1,e2] at h2;exact Agree.chain m _ _ _ (h2.setW _ _ _)
section
variable {s s':Ms}
theorem Agree.insS(h:a2 s s')(r:Int)(x:Mp):a2 (dJ s r x) (dJ s' r x):=by
 unfold Go.Proofs.YtmfheghbgihdmaaGreat.dJ;rw[←h.insC r x,←h.way r x.page];split
 ·exact Agree.chain _ _ _ _ h
 ·exact h
theorem Agree.allZ(h:a2 s s'){t:Int}(ht:s.has t=O):fh s t=fh s' t:=by
 have e:∀i:Nat,ay s t i=ay s' t i:=fun i=>h.word ht i;unfold Go.Proofs.YtmfheghbgihdmaaGreat.fh;simp only[e]
theorem Agree.cutR{p:Int}{tabs:List Int}:∀(k:Nat) (s s':Ms),a2 s s'→(∀j,j≤k→s.has (tabs.getD j 0)=O)→a2 (dO p tabs k s).1 (dO p tabs k s').1∧(dO p tabs k s).2=(dO p tabs k s').2
 |0,_,_,h,_=>⟨h.setW _ _ _,rfl⟩
 |k+1,s,s',h,hu=>by
  have h1:a2 (s.setW (tabs.getD (k+1) 0).toNat (am p (3 - (k+1):Nat)).toNat 0) (s'.setW (tabs.getD (k+1) 0).toNat (am p (3 - (k+1):Nat)).toNat 0):=h.setW _ _ _;have hz:=h1.allZ (t:=tabs.getD (k+1) 0) (hu _ (Nat.le_refl _));obtain⟨i1,i2⟩:=Agree.cutR (p:=p) (tabs:=tabs) k _ _ h1 (fun j hj=>hu j (by omega));unfold Go.Proofs.YtmfheghbgihdmaaGreat.dO;rw[←hz];split
  ·exact⟨i1,by rw[i2]⟩
  ·exact⟨h1,rfl⟩
theorem Agree.rem(h:a2 s s')(r p:Int):a2 (de s r p) (de s' r p)∧fi s r p=fi s' r p:=by
 unfold de fi;rw[←h.findC r p,←h.way r p];by_cases hf:Go.Proofs.YtmfheghbgihdmaaGreat.bw s r p=0
 ·rw[if_pos hf,if_pos hf,if_pos hf,if_pos hf]
  have hcode:(Go.Proofs.YtmfheghbgihdmaaGreat.bp s r p).code =0:=by
   unfold Go.Proofs.YtmfheghbgihdmaaGreat.bw at hf;split at hf
   ·rename_i hn;exact absurd hf hn
   ·rename_i hn;simpa using hn
  obtain⟨_,n,hn,_,_,hu⟩:=eK hcode;rw[hn,Nat.add_sub_cancel];refine Agree.cutR n s s' h fun j hj=> ?_;rw[List.getD_eq_getElem?_getD,ag (by omega)];exact hu _ (List.getElem_mem _)
 ·rw[if_neg hf,if_neg hf,if_neg hf,if_neg hf]
  exact⟨h,rfl⟩
theorem Agree.pr(h:a2 s s')(r p ri:Int):a2 (gG s r p ri) (gG s' r p ri)∧iB s r p ri=iB s' r p ri∧ku s r p ri=ku s' r p ri:=by
 have hc:iB s r p ri=iB s' r p ri:=by unfold iB;rw[h.findC]
 refine⟨?_,hc,?_⟩
 ·unfold gG
  rw[←hc,←h.way r p];split
  ·exact h.setW _ _ _
  ·exact h
 ·unfold ku
  rw[←hc,←h.findM r p]
end
theorem oz{p:Int}{tabs:List Int}:∀(k:Nat) {s:Ms},s.Ok→(dO p tabs k s).1.Ok
 |0,_,h=>h.setW _ _ ⟨by omega,by omega⟩
 |k+1,_,h=>by
  unfold Go.Proofs.YtmfheghbgihdmaaGreat.dO;split
  ·exact oz k (h.setW _ _ ⟨by omega,by omega⟩)
  ·exact h.setW _ _ ⟨by omega,by omega⟩
theorem tX{s:Ms}(h:s.Ok)(r p:Int):(de s r p).Ok :=by
 unfold de;split
 ·exact oz _ h
 ·exact h
theorem vq{s:Ms}(h:s.Ok)(r p ri:Int):(gG s r p ri).Ok :=by
 unfold gG;split
 ·exact h.setW _ _ (gX _ _)
 ·exact h
def aI(p:Nat)(m:Mp)(ws:Nat→Bool):ab:=
 aa p #[H I m.page,H I m.size,H I m.frame,H I m.rights,V (ws 0),V (ws 1),V (ws 2),V (ws 3)] 169
def dY(ws:Nat→Bool):Bool:= !ws 0&&(!ws 1&&(!ws 2&& !ws 3))
theorem oA(p:Nat)(m:Mp)(ws:Nat→Bool)(R:ab)(w:U)(h:Z w (aI p m ws*R)):
  al prog 110 #[.pointer (E (N p 0 z))] w fun e w'=>e= .returned (V (dY ws))∧w=w':=by
 have c4:w.cell? (N p 4 z)=E (V (ws 0)):=h.cell 4;have c5:w.cell? (N p 5 z)=E (V (ws 1)):=h.cell 5;have c6:w.cell? (N p 6 z)=E (V (ws 2)):=h.cell 6;have c7:w.cell? (N p 7 z)=E (V (ws 3)):=h.cell 7;go_enter func110,ntmps110;go_wp2;go_ret;exact⟨rfl,rfl⟩
def jr(ws:Nat→Bool)(k:Int):Bool:=decide (0≤k)&&(decide (k<4)&&ws k.toNat)
theorem j6{p:Nat}{m:Mp}{ws:Nat→Bool}{R:ab}{w:U}(h:Z w (aI p m ws*R))(k:Nat)(hk:k<4):w.cell? ⟨p,4+k,z⟩=E (V (ws k)):=by
 rw[h.cell (4+k)];match k,hk with
 |0,_|1,_|2,_|3,_=>rfl
theorem lO{ws:Nat→Bool}{k:Int}(h:¬(0≤k∧k<4)):jr ws k=G:=by
 unfold jr;by_cases h0:0≤k<;>by_cases h4:k<4<;>simp[h0,h4]
 omega
theorem mZ{ws:Nat→Bool}{k:Nat}(h:k<4):jr ws k=ws k:=by
 unfold jr;have h4:(k:Int)<4:=by omega
 simp[h4]
theorem m9(p:Nat)(m:Mp)(ws:Nat→Bool)(k:Int)(R:ab)(w:U)(h:Z w (aI p m ws*R)):
  al prog 76 #[.pointer (E (N p 0 z)),.int .i64 k] w fun e w'=>e= .returned (V (jr ws k))∧w=w':=by
 by_cases h0:0≤k
 ·by_cases h4:k<4
  ·obtain⟨k,rfl⟩:=Int.eq_ofNat_of_zero_le h0
   have hc:=j6 h k (by omega);have hy:=M (mZ (ws:=ws) (k:=k) (by omega));go_enter func76,ntmps76;go_wp2;go_ret;exact⟨by rw[hy.out];rfl,rfl⟩
  ·have hy:=M (lO (ws:=ws) (k:=k) (by omega))
   go_enter func76,ntmps76;go_wp2;go_ret;exact⟨by rw[hy.out];rfl,rfl⟩
 ·have hy:=M (lO (ws:=ws) (k:=k) (by omega))
  go_enter func76,ntmps76;go_wp2;go_ret;exact⟨by rw[hy.out];rfl,rfl⟩
theorem qT(R:ab)(w:U)(h:Z w R):
  al prog 53 #[] w fun e w'=>∃p,e= .returned (.pointer (E (N p 0 z)))∧Z w' (aI p Mp.zero (fun _=>G)*R)∧a6 w w':=by
 have h1:=h.new #[H I 0,H I 0,H I 0,H I 0,V G,V G,V G,V G] 169;go_enter func53,ntmps53;go_wp2;go_ret;exact⟨_,rfl,h1,(Ext.refl w).alloc _⟩
def cB(ws:Nat→Bool)(k:Nat):Nat→Bool:=fun i=>if i=k then G else ws i
theorem na{p:Nat}{m:Mp}{ws:Nat→Bool}{R:ab}{w:U}(h:Z w (aI p m ws*R))(k:Nat)(hk:k<4)(b:Bool):
  Z (w.setCell ⟨p,4+k,z⟩ (V b)) (aI p m (fun i=>if i=k then b else ws i)*R):=by
 have h1:=h.set (4+k) (V b);match k,hk,h1 with
 |0,_,h1|1,_,h1|2,_,h1|3,_,h1=>exact h1
theorem tY(p:Nat)(m:Mp)(ws:Nat→Bool)(k:Int)(R:ab)(w:U)(h:Z w (aI p m ws*R))(hw:jr ws k=O):
  al prog 108 #[.pointer (E (N p 0 z)),.int .i64 k] w (cI (.tuple #[m.val,V O]) (aI p m (cB ws k.toNat)*R) w):=by
 have c0:w.cell? (N p 0 z)=E (H I m.page):=h.cell 0;have c1:w.cell? (N p 1 z)=E (H I m.size):=h.cell 1;have c2:w.cell? (N p 2 z)=E (H I m.frame):=h.cell 2;have c3:w.cell? (N p 3 z)=E (H I m.rights):=h.cell 3;have hlt:p<w.heap.size:=h.lt;have ha:=h.alloc (.cells #[H I 0,H I 0,H I 0,H I 0] 39);have hk:0≤k∧k<4:=by
  by_cases hk:0≤k∧k<4
  ·exact hk
  ·rw[lO hk] at hw;cases hw
 obtain⟨hk0,hk4⟩:=hk;obtain⟨k,rfl⟩:=Int.eq_ofNat_of_zero_le hk0;have hf:=h.free (4+k);have hc:=j6 h k (by omega);have hs:=na h k (by omega) G;go_enter func108,ntmps108;go_wp2_with(go_at_call 76;refine(m9 p m ws _ _ _ ha).mono ?_;rintro e w' ⟨rfl,rfl⟩)
 exact Y (v:= .tuple #[m.val,V O]) (by simp[results,results108,go_sem]) rfl ⟨rfl,hs.alloc _,((Ext.refl w).set _ _).alloc _⟩
theorem vr(p:Nat)(m:Mp)(ws:Nat→Bool)(k:Int)(R:ab)(w:U)(h:Z w (aI p m ws*R))(hw:jr ws k=G):
  al prog 108 #[.pointer (E (N p 0 z)),.int .i64 k] w (cI (.tuple #[.agg #[H I 0,H I 0,H I 0,H I 0],V G]) (aI p m ws*R) w):=by
 have ha:=h.alloc (.cells #[H I 0,H I 0,H I 0,H I 0] 39);go_enter func108,ntmps108;go_wp2_with(go_at_call 76;refine(m9 p m ws _ _ _ ha).mono ?_;rintro e w' ⟨rfl,rfl⟩)
 exact Y (v:= .tuple #[.agg #[H I 0,H I 0,H I 0,H I 0],V G]) (by simp[results,results108,go_sem]) rfl ⟨rfl,ha,(Ext.refl w).alloc _⟩
def eM(n:Nat):Nat→Bool:=fun i=>decide (i<n)
theorem nb{ws:Nat→Bool}(h:dY ws=O):ws 0=G∧ws 1=G∧ws 2=G∧ws 3=G:=by
 unfold dY at h;simpa using h
theorem qU{p:Nat}{x:Mp}{j:Nat}{R:ab}{w:U}(h:Z w (aI p x (eM j)*R))(hj:j<4):Z (w.setCell ⟨p,4+j,z⟩ (V O)) (aI p x (eM (j+1))*R):=by
 have h1:=na h j hj O;have e:(fun i=>if i=j then O else eM j i)=eM (j+1):=by
  funext i
  unfold eM;by_cases hi:i=j
  ·simp[hi]
  ·simp only[hi,if_false]
   by_cases h2:i<j<;>simp[h2]<;>omega
 rwa [e] at h1
theorem pC{p:Nat}{m x:Mp}{ws:Nat→Bool}{R:ab}{w:U}(h:Z w (aI p m ws*R))(ho:dY ws=O):
  Z ((((w.setCell (N p 0 z) (H I x.page)).setCell (N p 1 z) (H I x.size)).setCell (N p 2 z) (H I x.frame)).setCell (N p 3 z) (H I x.rights)) (aI p x (eM 0)*R):=by
 obtain⟨h0,h1,h2,h3⟩:=nb ho;have:=(((h.set 0 (H I x.page)).set 1 (H I x.size)).set 2 (H I x.frame)).set 3 (H I x.rights);rw[h0,h1,h2,h3] at this;exact this
theorem sv(p:Nat)(m x:Mp)(ws:Nat→Bool)(k:Nat)(R:ab)(w:U)(h:Z w (aI p m ws*R))(ho:dY ws=O)(hk1:1≤k)(hk4:k≤4):
  al prog 156 #[.pointer (E (N p 0 z)),.agg #[H I x.page,H I x.size,H I x.frame,H I x.rights],.int .i64 k] w
   (cI (V O) (aI p x (eM k)*R) w):=by
 have hlt:p<w.heap.size:=h.lt;have ha:=h.alloc (.cells #[H I x.page,H I x.size,H I x.frame,H I x.rights] 39);have hb:=pC (x:=x) h ho;have f0:=h.free 0;have f1:=h.free 1;have f2:=h.free 2;have f3:=h.free 3;have c0:w.cell? (N p 0 z)=E (H I m.page):=h.cell 0;have c1:w.cell? (N p 1 z)=E (H I m.size):=h.cell 1;have c2:w.cell? (N p 2 z)=E (H I m.frame):=h.cell 2;have c3:w.cell? (N p 3 z)=E (H I m.rights):=h.cell 3;go_enter func156,ntmps156;go_wp2_with(go_at_call 110;refine(oA p m ws _ _ ha).mono ?_;rintro e w' ⟨rfl,rfl⟩)
 go_loopw [7,24,25,26,27,28,29,30,31,32] (fun _ t _ _ _ _ _ _ _ _ wr=>∃j:Nat,j≤k∧t=H I j∧Z wr (aI p x (eM j)*R)∧a6 w wr) (fun _ t _ _ _ _ _ _ _ _ _=>k - (intOf t).toNat)
 case atStart=>exact⟨0,Nat.zero_le _,rfl,hb.alloc _,((((Ext.refl w).set _ _).set _ _).set _ _).set _ _ |>.alloc _⟩
 case round=>
  obtain⟨j,hj,rfl,hr,hx⟩:=hrel;clear hb ha c0 c1 c2 c3 f0 f1 f2 f3 hlt;by_cases hlt:j<k
  ·have hf:=hr.free (4+j)
   have hc:=j6 hr j (by omega);have hs:=qU hr (by omega);go_wp2;go_roundw
   case rel=>exact⟨j+1,by omega,by go_num,hs,hx.set _ _⟩
   case measure=>simp[intOf];omega
  ·obtain rfl:j=k:=by omega
   go_wp2;go_ret;exact⟨rfl,hr,hx⟩
structure Ev where
 code:Int
 fin:Bool
 an:An
 back:Bool
 deriving DecidableEq
def Ev.no(c:Int):Ev:=⟨c,G,An.zero,G⟩
structure Cr where
 l:List Ln
 k:Ck
def Cr.zero:Cr:=⟨[],Ck.zero⟩
structure Sc where
 s:Ms
 cs:List Cr
 told:Mp
 wait:Nat→Bool
 busy:Bool
 gone:List Int
namespace Sc
def new(cores n:Nat):Sc:=⟨(Ms.new n).takeS,List.replicate cores Cr.zero,Mp.zero,fun _=>G,G,[]⟩
def core(σ:Sc)(k:Nat):Cr:=σ.cs.getD k Cr.zero
def post(σ:Sc)(s:Ms)(m:Mp)(g:List Int):Sc:={σ with s:=s,told:=m,wait:=eM σ.cs.length,busy:=O,gone:=g}
def change(σ:Sc)(x:Stp):Sc×Ev:=
 if σ.busy=O then(σ,.no 8)
 else if x.kind=1 then({σ with s:=dJ σ.s 0 x.m},⟨cT σ.s 0 x.m,G,An.zero,decide (cT σ.s 0 x.m=0)⟩)
 else if x.kind=2 then
  if bw σ.s 0 x.m.page=0 then(σ.post (de σ.s 0 x.m.page) (bK σ.s 0 x.m.page) (fi σ.s 0 x.m.page),.no 0) else(σ,.no (bw σ.s 0 x.m.page))
 else if iB σ.s 0 x.m.page x.m.rights=0 then(σ.post (gG σ.s 0 x.m.page x.m.rights) (ku σ.s 0 x.m.page x.m.rights) [],.no 0)
 else(σ,.no (iB σ.s 0 x.m.page x.m.rights))
def put(σ:Sc)(k:Nat)(c:Cr):Sc:={σ with cs:=σ.cs.set k c}
def heed(σ:Sc)(k:Nat):Sc:={σ with cs:=σ.cs.set k ⟨Tl.drop (σ.core k).l σ.told,(σ.core k).k.again 0⟩,wait:=cB σ.wait k}
def over(σ:Sc):Sc:={σ with s:=bx σ.s σ.gone,busy:=G,gone:=[]}
def ack(σ:Sc)(k:Nat):Sc×Ev:=
 if σ.wait k=G then(σ,.no 9)
 else if dY (σ.heed k).wait =O then((σ.heed k).over,⟨0,G,An.zero,O⟩)
 else(σ.heed k,.no 0)
def access(σ:Sc)(k:Nat)(a:Ac):Sc×Ev:=
 (σ.put k ⟨(σ.core k).l,(cW (σ.core k).l 0 (σ.core k).k a).c⟩,⟨(cW (σ.core k).l 0 (σ.core k).k a).code,(cW (σ.core k).l 0 (σ.core k).k a).fin,(cW (σ.core k).l 0 (σ.core k).k a).an,G⟩)
def walk(σ:Sc)(k:Nat):Sc×Ev:=
 ({σ.put k ⟨gY (σ.core k).l (aR σ.s 0 (σ.core k).k).r,(aR σ.s 0 (σ.core k).k).c⟩ with s:=(aR σ.s 0 (σ.core k).k).s},
  ⟨(aR σ.s 0 (σ.core k).k).code,(aR σ.s 0 (σ.core k).k).r.fin,(aR σ.s 0 (σ.core k).k).r.an,G⟩)
def evict(σ:Sc)(k:Nat):Sc×Ev:=
 if(σ.core k).l =[] then(σ,.no 9) else(σ.put k ⟨Tl.evict (σ.core k).l,(σ.core k).k⟩,.no 0)
def act(σ:Sc)(x:Stp):Sc×Ev:=
 if 1≤x.kind∧x.kind≤3 then σ.change x
 else if x.kind<1∨7<x.kind then(σ,.no 2)
 else if x.core<0∨(σ.cs.length:Int)≤x.core then(σ,.no 1)
 else if x.kind=4 then σ.access x.core.toNat x.a
 else if x.kind=5 then σ.walk x.core.toNat
 else if x.kind=6 then σ.ack x.core.toNat
 else σ.evict x.core.toNat
def on(σ:Sc)(k:Int):Bool:=decide (0≤k)&&(decide (k<σ.cs.length)&&(σ.core k.toNat).k.on)
def acc(σ:Sc)(k:Int):Ac:=if σ.on k=O then(σ.core k.toNat).k.a else Ac.zero
def kept(σ:Sc)(k:Int):List Ln:=if 0≤k∧k<σ.cs.length then(σ.core k.toNat).l else []
structure Ok (σ:Sc):Prop where
 s:σ.s.Ok
 c:∀c∈σ.cs,Tl.Ok c.l∧c.k.Ok
 few:σ.cs.length≤4
 one:1≤σ.cs.length
 w:∀i,σ.cs.length≤i→σ.wait i=G
 told:σ.told.ok
theorem core_ok{σ:Sc}(h:σ.Ok)(k:Nat):Tl.Ok (σ.core k).l ∧(σ.core k).k.Ok :=by
 unfold core;rw[List.getD_eq_getElem?_getD];cases hk:σ.cs[k]? with
 |none=>exact⟨Tl.Ok.nil,Ck.Ok.zero⟩
 |some c=>exact h.c c (List.mem_of_getElem? hk)
theorem put_len(σ:Sc)(k:Nat)(c:Cr):(σ.put k c).cs.length =σ.cs.length:=List.length_set ..
theorem mem_set{cs:List Cr}{k:Nat}{c x:Cr}(h:x∈cs.set k c):x=c∨x∈cs:=(List.mem_or_eq_of_mem_set h).symm
theorem Ok.put{σ:Sc}(h:σ.Ok)(k:Nat){c:Cr}(h1:Tl.Ok c.l)(h2:c.k.Ok):(σ.put k c).Ok :=
 ⟨h.s,fun x hx=>by rcases mem_set hx with rfl|hx;exact⟨h1,h2⟩;exact h.c x hx,by rw[put_len];exact h.few,by rw[put_len];exact h.one,fun i hi=>h.w i (by rw[put_len] at hi;exact hi),h.told⟩
theorem mp_ok_zero:Mp.zero.ok:=by
 refine⟨?_,?_,?_,?_⟩<;>(show cL 0;unfold cL;omega)
end Sc
open Go.RowKit Go.Shelf
attribute [local go_sem] Oper.semAt_some
def il(m:List Int)(k:Nat):List (Int×Int):=(List.range k).map fun(j:Nat)=>(((m.length:Int) - 1 - (j:Int)),m[m.length - 1 - j]?.getD 0)
theorem pD(m:List Int)(k:Nat):il m (k+1)=il m k++[(((m.length:Int) - 1 - k),m[m.length - 1 - k]?.getD 0)]:=by simp[il,List.range_succ]
theorem qV(m:List Int)(k:Nat):(il m k).length =k:=by simp[il]
theorem qW(m:List Int):(il m m.length).map Prod.snd=m.reverse:=by
 unfold il;rw[List.map_map];apply List.ext_getElem
 ·simp
 ·intro i h1 h2
  simp at h1 h2⊢;rw[ag (by omega)];rfl
structure KpT (T:Nat→Prop) (A B:U):Prop where
 same:∀b,T b→B.heap[b]? =A.heap[b]?
theorem KpT.refl(T:Nat→Prop)(A:U):KpT T A A:=⟨fun _ _=>rfl⟩
theorem KpT.trans{T:Nat→Prop}{A B C:U}(h:KpT T A B)(k:KpT T B C):KpT T A C:=⟨fun b hb=>(k.same b hb).trans (h.same b hb)⟩
theorem KpT.cell{T:Nat→Prop}{A B:U}(h:KpT T A B){b o:Nat}(hb:T b):B.cell? (N b o z)=A.cell? (N b o z):=by
 have:=h.same b hb;unfold World.cell?;simp only[this]
set_option maxHeartbeats 2000000 in
theorem wK(n:Nat)(hn:1≤n)(l Bs c:Nat)(A:Option a7)(m:List Int)(hm:m.length≤9223372036854775807)(T:Nat→Prop)(hT:T Bs)(J Jx:List (Int×Int)→U→Prop)
  (hY:∀pre x W,J pre W→pre.length<m.length→YieldAt Fence.wide (n - 1) prog l #[H I x.1,H I x.2] W fun e W'=>
   (e= .returned (.bool O)∧J (pre++[x]) W'∧KpT T W W')∨(e= .returned (.bool G)∧Jx (pre++[x]) W'))
  (W:U) (hBs:W.cell? (N Bs 0 z)=E (.slice A m.length c)) (hc:∀j,(hj:j<m.length)→∃b,A=E (N b 0 z)∧T b∧W.cell? (N b j z)=E (H I m[j])) (h0:J [] W):
  CallsIn Fence.wide n prog 194 #[.func (.yield l) #[] #[],.pointer (E (N Bs 0 z))] W fun e W'=>(∃v,e= .returned v)∧
   ((∃ys,ys=il m m.length∧J ys W')∨(∃pre,(∃k,k≤m.length∧pre=il m k)∧Jx pre W')):=by
 refine callsIn_of_wp func194 rfl trivial ?_ rfl;simp only[ntmps194,List.size_toArray,List.length_cons,List.length_nil,Nat.reduceAdd,Nat.reduceSub,Array.replicate_succ,Array.replicate_zero,List.push_toArray,List.append_toArray,List.nil_append,List.cons_append];gi_wp2
 gi_loopw [3] (fun i wr=>∃q:Nat,q≤m.length∧i=H I ((q:Int) - 1)∧J (il m (m.length - q)) wr∧KpT T W wr)
  (fun i _=>(intOf i+1).toNat)
 case atStart=>exact⟨m.length,Nat.le_refl _,by go_num,by rw[Nat.sub_self];exact h0,KpT.refl _ _⟩
 case round=>
  obtain⟨q,hq,hi,hJs,hnx⟩:=hrel;have hBs':=(hnx.cell hT).trans hBs;cases q with
  |zero=>
   obtain rfl:=hi;gi_wp2
   go_end0
   exact⟨⟨_,rfl⟩,.inl ⟨_,rfl,hJs⟩⟩
  |succ j=>
   have hij:((j+1:Nat):Int) - 1=(j:Int):=by omega
   rw[hij] at hi;subst hi;obtain⟨b,hA,hTb,hcb⟩:=hc j (by omega);have hcx:=(hnx.cell hTb).trans hcb;have hji:(j:Int)<m.length:=by omega
   have hk1:m.length - j=m.length - (j+1)+1:=by omega
   have hsx:il m (m.length - j)=il m (m.length - (j+1))++[((j:Int),m[j])]:=by
    rw[hk1,pD];have e1:m.length - 1 - (m.length - (j+1))=j:=by omega
    rw[e1,ag (by omega)];congr 2
    simp;omega
   obtain⟨fn,tmps,assign,body,hy,hR⟩:=hY _ ((j:Int),m[j]) _ hJs (by rw[qV];omega);dsimp only at hy;subst hA;gi_wp2
   refine hR.mono ?_;rintro e W3 (⟨rfl,hJ3,hk3⟩|⟨rfl,hJx3⟩)
   ·gi_wp2
    go_roundw
    case rel=>exact⟨j,by omega,by go_num,by rw[hsx];exact hJ3,hnx.trans hk3⟩
    case measure=>first|(simp[intOf];done)|(simp[intOf];omega)
   ·gi_wp2
    refine Y (results_none rfl _ _ _) rfl ?_;exact⟨⟨_,rfl⟩,.inr ⟨_,⟨m.length - j,by omega,hsx.symm⟩,hJx3⟩⟩
theorem pE(n:Nat)(hn:1≤n)(Bs c:Nat)(A:Option a7)(m:List Int)(hm:m.length≤9223372036854775807)(T:Nat→Prop)(hT:T Bs)(w:U)(hB:Bs<w.heap.size)(hBs:w.cell? (N Bs 0 z)=E (.slice A m.length c))(hc:∀j,(hj:j<m.length)→∃b,A=E (N b 0 z)∧b<w.heap.size∧T b∧w.cell? (N b j z)=E (H I m[j])):
  SeqStopsK Fence.wide n prog 194 #[.pointer (E (N Bs 0 z))] (fun x:Int×Int=> #[H I x.1,H I x.2]) (KpT T) (fun xs=>xs=il m m.length) (fun pre=>∃k,k≤m.length∧pre=il m k) m.length w:=by
 intro l J Jx W hW hJ hJx hY h0;refine wK n hn l Bs c A m hm T hT J Jx hY W ((hW.cell (p:=(N Bs 0 z)) hB).trans hBs) (fun j hj=> ?_) h0;obtain⟨b,h1,h2,h3,h4⟩:=hc j hj;exact⟨b,h1,h3,(hW.cell (p:=(N b j z)) h2).trans h4⟩
theorem nB(A:Option a7)(n c:Nat)(w:U):al prog 181 #[.slice A n c] w fun e w'=>e= .returned (.func (.func 194) #[] #[.pointer (E (N w.heap.size 0 z))])∧w'=w.alloc (.cells #[.slice A n c] 45):=by
 have hmf:∀(fn:Fn) (first cap:Array a3) (w:U),(Instr.makeFunc fn first cap).run prog w= .ok (.func fn first cap) w:=fun _ _ _ _=>rfl;go_enter func181,ntmps181;go_wp2_with fail
 go_ret;exact⟨rfl,rfl⟩
open Go.RowKit Hpm
def fD(x:Hp):ab:=fun h=>h=x
def AllCells(P:ab):Prop:=∀h,P h→∀b o,h b=E o→o.isCells=O
theorem AllCells.star{P Q:ab}(hp:AllCells P)(hq:AllCells Q):AllCells (P*Q):=by
 rintro h ⟨h1,h2,d,rfl,p,q⟩ b o e;simp only[union] at e;cases e1:h1 b with
 |none=>rw[e1] at e;exact hq h2 q b o (by simpa using e)
 |some x=>rw[e1] at e;simp at e;subst e;exact hp h1 p b x e1
theorem AllCells.ex{α:Type}{P:α→ab}(h:∀x,AllCells (P x)):AllCells (ex P):=fun k ⟨x,p⟩=>h x k p
theorem AllCells.blk(b:Nat)(cs:Array a3)(t:TypeId):AllCells (aa b cs t):=by
 rintro h rfl k o e;simp only[single] at e;split at e
 ·injection e with e;subst e;rfl
 ·cases e
theorem AllCells.row(e size:Nat)(v:a3)(n:Nat)(xs:List a3):AllCells (bZ e size v n xs):=by
 rintro h ⟨_,⟨_,_,rfl⟩|⟨g,cap,cur,_,_,_,_,_,hb⟩⟩ b o ho
 ·cases ho
 ·exact AllCells.blk _ _ _ h hb b o ho
theorem AllCells.lift(p:Prop):AllCells (dN p):=by
 rintro h ⟨_,rfl⟩ b o e;cases e
theorem js(f:Nat)(s:Ms):AllCells (ai f s):=by
 unfold ai;refine AllCells.ex fun g=>AllCells.ex fun vf=> ?_;unfold bR;exact(AllCells.blk _ _ _).star ((AllCells.blk _ _ _).star ((AllCells.row _ _ _ _ _).star (AllCells.lift _)))
theorem qX{w:U}{P R:ab}(h:Z w (P*R)):∃x,R x∧Z w (P*fD x)∧sub x (fun b=>w.heap[b]?):=by
 obtain⟨_,s,h1,h2,d,rfl,p,r⟩:=h;exact⟨h2,r,⟨_,s,h1,h2,d,rfl,p,rfl⟩,sub_union_right d s⟩
theorem kD{w:U}{P:ab}{x:Hp}(h:Z w (P*fD x)):sub x (fun b=>w.heap[b]?):=by
 obtain⟨_,s,h1,h2,d,rfl,p,r⟩:=h;have r:h2=x:=r;subst r;exact sub_union_right d s
theorem pF{w:U}{P R:ab}{x:Hp}(h:Z w (P*fD x))(r:R x):Z w (P*R):=by
 obtain⟨_,s,h1,h2,d,rfl,p,e⟩:=h;have e:h2=x:=e;subst e;exact⟨_,s,h1,h2,d,rfl,p,r⟩
theorem sw{w:U}{P:ab}{x:Hp}(h:Z w (P*fD x))(hc:AllCells P):∃y,sub x y∧Z w (P*fD y)∧∀b o,w.heap[b]? =E o→o.isCells=G→y b=E o:=by
 obtain⟨_,s,h1,h2,d,rfl,p,e⟩:=h;have e:h2=x:=e;subst e;refine⟨fun b=>if(h1 b).isSome then z else w.heap[b]?,?_,⟨_,?_,h1,_,?_,rfl,p,rfl⟩,?_⟩
 ·intro b o e
  have hb:h1 b=z:=by
   rcases d b with h|h
   ·exact h
   ·rw[h] at e;cases e
  show(if(h1 b).isSome then z else w.heap[b]?)=E o;rw[hb];exact sub_union_right d s b o e
 ·refine sub_union (sub_union_left s) fun b o e=> ?_
  replace e:(if(h1 b).isSome then z else w.heap[b]?)=E o:=e;split at e
  ·cases e
  ·exact e
 ·intro b
  cases hb:h1 b with
  |none=>exact .inl rfl
  |some o=>right;simp[hb]
 ·intro b o e ho
  show(if(h1 b).isSome then z else w.heap[b]?)=E o;cases hb:h1 b with
  |none=>exact e
  |some o'=>
   have h3:=sub_union_left s b o' hb;have h4:w.heap[b]? =E o':=h3;rw[e] at h4;injection h4 with h4
   subst h4;rw[hc h1 p b o hb] at ho;cases ho
theorem pG{w:U}{P:ab}{x y:Hp}(h:Z w (P*fD y))(hs:sub x y):Z w (P*fD x):=by
 obtain⟨_,s,h1,h2,d,rfl,p,e⟩:=h;have e:h2=y:=e;subst e;refine⟨_,sub_union (sub_union_left s) (fun b o hb=>sub_union_right d s b o (hs b o hb)),h1,x,fun b=> ?_,rfl,p,rfl⟩;rcases d b with h|h
 ·exact .inl h
 ·right
  cases hx:x b with
  |none=>rfl
  |some o=>rw[hs b o hx] at h;cases h
theorem kN{w w':U}{P:ab}{x:Hp}{bZ:Option Nat}(h:Z w (P*fD x))(hc:AllCells P)(hg:w.grownBy w' bZ)(hr:∀r,bZ=E r→x r=z∧∃o:Obj,w.heap[r]? =E o∧o.isCells=G):Z w' (P*fD x):=by
 obtain⟨_,s,h1,h2,d,rfl,p,e⟩:=h;have e:h2=x:=e;subst e;refine⟨_,fun b o hb=> ?_,h1,h2,d,rfl,p,rfl⟩;have h3:w.heap[b]? =E o:=s b o hb;have hlt:b<w.heap.size:=(Array.getElem?_eq_some_iff.1 h3).1;show w'.heap[b]? =E o;rw[hg.block b hlt ?_]
 ·exact h3
 ·intro e
  obtain⟨hx,o',ho',hcl⟩:=hr b e.symm;simp only[union] at hb;cases hb1:h1 b with
  |none=>rw[hb1,hx] at hb;cases hb
  |some o1=>
   have h4:=sub_union_left s b o1 hb1;have h4:w.heap[b]? =E o1:=h4;rw[ho'] at h4;injection h4 with h4
   subst h4;rw[hc h1 p b o' hb1] at hcl;cases hcl
theorem pH{P:Program}{fn:Nat}{args:Array a3}{v:a3}{A B:ab}{x:Hp}{w:U}(hc:AllCells A)(h:Z w (A*fD x))
  (hcall:∀R,Z w (A*R)→al P fn args w (cI v (B*R) w)) (Bd:Nat):
  al P fn args w fun e w'=>e= .returned v∧Z w' (B*fD x)∧a6 w w'∧KeepsFrom Bd w w'∧KpT (fun b=>(x b).isSome =O) w w':=by
 obtain⟨y,hs,hy,hall⟩:=sw h hc;refine(hcall _ hy).mono fun e w' ⟨he,hB,hx⟩=>⟨he,pG hB hs,hx,⟨hx.size,fun k o _ hk ho=>kD hB k o (hall k o hk ho)⟩,⟨fun b hb=> ?_⟩⟩;obtain⟨o,ho⟩:=Option.isSome_iff_exists.1 hb;have h1:w'.heap[b]? =E o:=kD hB b o (hs b o ho);have h2:w.heap[b]? =E o:=kD h b o ho;rw[h1,h2]
open Go.RowKit Go.Shelf Hpm
attribute [local go_sem] Oper.semAt_some
theorem lQ{P:Program}{f:FuncId}{fn:Func}{c:Code}{args:Array a3}{w:U}{R:Ending→U→Prop}(hf:P.funcs[f]? =E fn)(hb:fn.body=E c)
  (h:c.wp P (bodyPostM Fence.wide 9 P fn R) {tmps:=args++Array.replicate (fn.ntmps - args.size) undef,defers:=[]} w):al P f args w R:=
 (callsIn_wide (n:=9)).1 (callsIn_of_wp_marks (F:=Fence.wide) (n:=9) hf hb trivial (wpIn_wide.2 h) rfl)
theorem qY{P:Program}{fn:Func}{R:Ending→U→Prop}{a:Act}{w:U}{v:a3}(hr:(results fn a.tmps).run P w= .ok v w)(hd:a.defers=[])(hR:R (.returned v) w):bodyPostM Fence.wide 9 P fn R .ret a w:=by
 show LeavesInM Fence.wide 9 P fn a.tmps R a.defers .returning w;rw[hd];unfold LeavesInM LeavesIn;exact⟨v,hr,hR⟩
def wM(Q:Exit→Act→U→Prop):Exit→Act→U→Prop
 | .panic _,_,_=>False
 |e,a,w=>Q e a w
theorem tZ{P:Program}{c:Code}{Q:Exit→Act→U→Prop}{a:Act}{w:U}(h:c.wp P (wM Q) a w):c.wp P Q a w:=
 Code.wp_mono (fun e _ _ h=>by cases e<;>first|exact h|exact h.elim) h
theorem sy{b:Nat}{cs:Array a3}{t:TypeId}{R:ab}{x:Hp}(h:(aa b cs t*R) x):(x b).isSome =O:=by
 obtain⟨h1,h2,d,rfl,p,r⟩:=h;have p:h1=single b (.cells cs t (0,0)):=p;subst p;simp[union,single]
theorem sB{g:Nat}{e size n m c:Nat}{xs:List a3}{R:ab}{x:Hp}(h:(bZ e size (.slice (E (N g 0 z)) m c) n xs*R) x):(x g).isSome =O:=by
 obtain⟨h1,h2,d,rfl,⟨_,⟨hv,_⟩|⟨g',cap,cur,hv,_,_,_,_,hb⟩⟩,r⟩:=h
 ·injection hv with e;cases e
 ·injection hv with e
  injection e with e
  injection e with e
  subst e;have hb:h1=single _ _:=hb;subst hb;simp[union,single]
def wN(b f n:Nat)(s:Ms)(R:ab)(w:U)(e:Ending)(w':U):Prop:=
 (n≤s.frees.length∧∃A c,cI (V O) (aa b #[.pointer (E (N f 0 z)),.slice A n c] 224*(bZ 3 1 (.slice A n c) n ((eI s n).map (H I))*(ai f (a8 s n)*R))) w e w')∨
 (s.frees.length<n∧∃s',s'.Ok∧a2 s' s∧cI (V G) (ai f s'*R) w e w')
set_option maxHeartbeats 4000000 in
theorem wO(b f:Nat)(s:Ms)(hs:s.Ok)(n:Nat)(hn:n≤3)(R:ab)(w:U)(h:Z w (aa b #[.pointer (E (N f 0 z)),.slice z 0 0] 224*(ai f s*R))):
  al prog 150 #[.pointer (E (N b 0 z)),H I n] w (wN b f n s R w):=by
 have h1:Z _ (aa w.heap.size #[.pointer (E (N b 0 z))] 222*(aa b #[.pointer (E (N f 0 z)),.slice z 0 0] 224*(bZ 3 1 (.slice z 0 0) 0 ((eI s 0).map (H I))*(ai f (a8 s 0)*R)))):=(Has.rowNil (e:=3) (size:=1) (h.new #[.pointer (E (N b 0 z))] 222)).p2.eq (congrArg _ (ar _ _ _));have x1:=(Ext.refl w).alloc (.cells #[.pointer (E (N b 0 z))] 222);clear h;refine lQ func150 rfl ?_;simp only[ntmps150,List.size_toArray,List.length_cons,List.length_nil,Nat.reduceAdd,Nat.reduceSub,Array.replicate_succ,Array.replicate_zero,List.push_toArray,List.append_toArray,List.nil_append,List.cons_append];go_upto_region 1 with fail;generalize w.alloc _=w1 at*
 generalize w.heap.size=X at*
 go_wp2_with fail
 go_loopw [9] (fun t9 wr=>∃(i:Nat) (A:Option a7) (c:Nat),i≤n∧i≤s.frees.length∧t9=H I i∧Z wr (aa X #[.pointer (E (N b 0 z))] 222*(aa b #[.pointer (E (N f 0 z)),.slice A i c] 224*(bZ 3 1 (.slice A i c) i ((eI s i).map (H I))*(ai f (a8 s i)*R))))∧a6 w wr) (fun t9 _=>n - (intOf t9).toNat)
 case atStart=>exact⟨0,z,0,by omega,by omega,rfl,h1,x1⟩
 case round=>
  clear h1 x1;obtain⟨i,A,c,hi,hif,rfl,hr,hx⟩:=hrel;by_cases hlt:i<n
  ·have HT:=M (fun R w h=>uG f (a8 s i) R w h (fY hs i))
   have htop:=qG hif;have c0:=hr.cell 0;have cl:=hr.lt;obtain⟨b0,b1⟩:=hr.right.cells2;have bl:=hr.right.lt;have h2:Z wr (ai f (a8 s i)*(aa X #[.pointer (E (N b 0 z))] 222*(aa b #[.pointer (E (N f 0 z)),.slice A i c] 224*(bZ 3 1 (.slice A i c) i ((eI s i).map (H I))*R)))):=hr.eq (by ac_rfl);have hts:eI s (i+1)=eI s i++[(a8 s i).topV]:=rfl;have hns:a8 s (i+1)=(a8 s i).takeS :=rfl;by_cases hneg:(a8 s i).topV <0
   ·have hie:=htop.1 hneg
    have hno:(a8 s i).top =z:=by
     cases ht:(a8 s i).top with
     |none=>rfl
     |some k=>unfold Ms.topV at hneg;rw[ht] at hneg;exact absurd hneg (by simp)
    have hstk:(a8 s i).takeS =a8 s i:=by unfold Ms.takeS;rw[hno]
    rw[hstk] at HT;have HAG:=M (lC hs i hif);have HOK:=M (fun l=>ly (fY hs i) l);have hml:=jm s i;have hlt2:s.frees.length<n:=by omega
    have HLT:=M hlt2;clear hr hts hns htop hno hstk hie hlt2;generalize (a8 s i).topV =k at*
    generalize a8 s i=s1 at*
    generalize eI s i=m at*
    subst hml;go_wp2_with fail
    refine(HT.out _ _ h2).mono ?_;rintro e w3 ⟨rfl,h3,x3⟩;have x4:=hx.trans x3;clear c0 cl b0 b1 bl h2 hx x3 HT;have c0:=h3.right.cell 0;have cl:=h3.right.lt;obtain⟨b0,b1⟩:=h3.right.right.cells2;have bl:=h3.right.right.lt;go_wp2_with fail
    refine(nB A m.length c w3).mono ?_;rintro e w4 ⟨rfl,rfl⟩;have h4:Z (w3.alloc (.cells #[.slice A m.length c] 45)) (ai f s1*(aa w3.heap.size #[.slice A m.length c] 45*(aa X #[.pointer (E (N b 0 z))] 222*(aa b #[.pointer (E (N f 0 z)),.slice A m.length c] 224*(bZ 3 1 (.slice A m.length c) m.length (m.map (H I))*R))))):=(h3.new #[.slice A m.length c] 45).eq (by ac_rfl);have x5:=x4.alloc (.cells #[.slice A m.length c] 45);clear h3 x4 c0 cl b0 b1 bl;go_wp2_with fail
    generalize w3.alloc _=w5 at*
    generalize w3.heap.size=Bs at*
    obtain⟨x,hx,h5,hsub⟩:=qX h4;have hbk:=M (fun(w':U) (s':Ms) (h:Z w' (ai f s'*fD x))=>pF h hx);have hT1:(x Bs).isSome =O:=sy hx;have hxlt:∀b,(x b).isSome =O→b<w5.heap.size:=fun b hb=>by
     obtain⟨o,ho⟩:=Option.isSome_iff_exists.1 hb;exact(Array.getElem?_eq_some_iff.1 (hsub b o ho)).1
    have hcell:∀j,(hj:j<m.length)→∃b,A=E (N b 0 z)∧b<w5.heap.size∧(x b).isSome =O∧w5.cell? (N b j z)=E (H I m[j]):=fun j hj=>by
     have h6:Z w5 (bZ 3 1 (.slice A m.length c) m.length (m.map (H I))*(ai f s1*(aa Bs #[.slice A m.length c] 45*(aa X #[.pointer (E (N b 0 z))] 222*(aa b #[.pointer (E (N f 0 z)),.slice A m.length c] 224*R))))):=h4.eq (by ac_rfl);obtain⟨b',e,hb,hc,_⟩:=Has.rowGet (e:=3) (size:=1) h6 (i:=j) (u:=H I m[j]) (by simp[hj]);subst e;refine⟨b',rfl,hb,?_,hc⟩;have h7:(bZ 3 1 (.slice (E (N b' 0 z)) m.length c) m.length (m.map (H I))*(aa Bs #[.slice (E (N b' 0 z)) m.length c] 45*(aa X #[.pointer (E (N b 0 z))] 222*(aa b #[.pointer (E (N f 0 z)),.slice (E (N b' 0 z)) m.length c] 224*R)))) x:=by
      have e:(aa Bs #[.slice (E (N b' 0 z)) m.length c] 45*(aa X #[.pointer (E (N b 0 z))] 222*(aa b #[.pointer (E (N f 0 z)),.slice (E (N b' 0 z)) m.length c] 224*(bZ 3 1 (.slice (E (N b' 0 z)) m.length c) m.length (m.map (H I))*R))))=(bZ 3 1 (.slice (E (N b' 0 z)) m.length c) m.length (m.map (H I))*(aa Bs #[.slice (E (N b' 0 z)) m.length c] 45*(aa X #[.pointer (E (N b 0 z))] 222*(aa b #[.pointer (E (N f 0 z)),.slice (E (N b' 0 z)) m.length c] 224*R)))):=by ac_rfl
      exact e▸hx
     exact sB h7
    have hG:=M (fun(s':Ms) (hs':s'.Ok) (k:Int) (w':U) (h:Z w' (ai f s'*fD x))=>pH (P:=prog) (fn:=111) (args:= #[.pointer (E (N f 0 z)),H I k]) (v:=V (s'.has k)) (B:=ai f (s'.giveS k)) (js f s') h (fun R h=>uH f s' k R w' h hs') w5.heap.size);clear h4;refine(wpIn_wide (n:=6)).1 ?_;apply wpIn_rangeFunc_ownG (F:=Fence.wide) (n:=6) rfl (by omega) (gf:=194) (lb:= #[.pointer (E (N Bs 0 z))]) rfl trivial (enters_of func194 (by kernel_rfl) rfl) (pE 5 (by omega) Bs c A m (by omega) (fun b=>(x b).isSome =O) hT1 w5 (hxlt _ hT1) ((hbk.out _ _ h5).right.cell 0) hcell) (fun h k=>h.trans k) (fun W l o o' hl hW ho hw=>⟨fun b hb=>World.putObj_heap_other (by have:=hxlt b hb;omega)⟩) (Below.refl _ _) (fun _=>rfl)
     (fun pre W=>Z W (ai f (bx s1 (pre.map Prod.snd))*fD x)∧a6 w W) (fun _ _ _=>False)
     (fun pre W W' bZ hs hg hr=>⟨kN hs.1 (js _ _) hg (fun r e=>⟨by
      cases hxr:x r with
      |none=>rfl
      |some o=>have:=hxlt r (by rw[hxr];rfl);have:=(hr r e).1;omega,(hr r e).2⟩),hs.2.grown hg⟩)
     (fun _ _ _ _ _ hs _ _=>hs)
     ⟨h5,x5⟩
    case hassign=>
     intro l x W K hK;gi_wp2
     exact hK
    case hbody=>
     rintro l pre y W ⟨hW,hE⟩ _;have h6:=hbk.out W _ hW;have c0:=h6.right.right.cell 0;have cl:=h6.right.right.lt;obtain⟨b0,b1⟩:=h6.r3.cells2;have bl:=h6.r3.lt;have HGk:=M (hG.out _ (HOK.out _) y.2 W hW);gi_wp2_with (refine⟨trivial,?_⟩;gi_at_call 111;refine(CallsIn.inRound l (callsIn_wide.2 HGk.out)).mono ?_;rintro e W2 ⟨rfl,hW2,hE2,hKF,hKT⟩)
     exact⟨hKF,hKT,by rw[List.map_append,List.map_singleton,j0];exact hW2,hE.trans hE2⟩
    case hdone=>
     rintro D ys W hD rfl ⟨hW,hE⟩ hK;rw[qW] at hW;go_wp2_with fail
     refine⟨by simp,.inl ⟨_,_,rfl,run_takeDeferred hK,?_⟩⟩;have hxD:x D=z:=by
      cases hxr:x D with
      |none=>rfl
      |some o=>have:=hxlt D (by rw[hxr];rfl);omega
     have hW2:=kN hW (js _ _) (grownBy_putObj' W D (.deferred z)) (fun r e=>by cases e;exact⟨hxD,_,hK,rfl⟩);have hE2:=hE.grown (grownBy_putObj' W D (.deferred z));refine⟨_,results_tmp rfl _ _ _,.inr ⟨HLT.out,_,HOK.out _,HAG.out,rfl,?_,hE2⟩⟩;have h6:=hbk.out _ _ hW2;exact(h6.eq (show _=(aa Bs #[.slice A m.length c] 45*(aa X #[.pointer (E (N b 0 z))] 222*(aa b #[.pointer (E (N f 0 z)),.slice A m.length c] 224*bZ 3 1 (.slice A m.length c) m.length (m.map (H I)))))*(ai f (bx s1 m.reverse)*R) by ac_rfl)).right
    case hstop=>
     intro D c pre W _ _ h;exact h.elim
   ·have hif':i<s.frees.length:=by
     have:i≠s.frees.length:=fun e=>hneg (htop.2 e);omega
    have HTS:=M hts;have HNS:=M hns;clear hr hts hns htop;generalize (a8 s i).topV =k at*
    generalize hS:(a8 s i).takeS =s2 at*
    generalize a8 s i=s1 at*
    clear hS;go_wp2_with fail
    refine(HT.out _ _ h2).mono ?_;rintro e w3 ⟨rfl,h3,x3⟩;have x4:=hx.trans x3;have h4:Z w3 (bZ 3 1 (.slice A i c) i ((eI s i).map (H I))*(aa X #[.pointer (E (N b 0 z))] 222*(aa b #[.pointer (E (N f 0 z)),.slice A i c] 224*(ai f s2*R)))):=h3.eq (by ac_rfl);clear c0 cl b0 b1 bl h2 h3 hx x3 HT;have c0:=h4.right.cell 0;have cl:=h4.right.lt;obtain⟨b0,b1⟩:=h4.right.right.cells2;have bl:=h4.right.right.lt;have bf:=h4.right.right.free 1;have h4d:Z w3.drew (bZ 3 1 (.slice A i c) i ((eI s i).map (H I))*(aa X #[.pointer (E (N b 0 z))] 222*(aa b #[.pointer (E (N f 0 z)),.slice A i c] 224*(ai f s2*R)))):=h4.drew;go_upto_region 9 with fail;have hS0:(fun(L:Array Bool) (w':U)=>w'.cell? (N X 0 z)=E (.pointer (E (N b 0 z)))∧Till 7 4 (fun w'=>w'.cell? (N b 1 z)=E (.slice A i c)) L w') (Array.replicate 11 G) w3.drew:=⟨h4d.right.cell 0,Till.start (h4d.right.right.cell 1)⟩;refine tZ ?_;refine iE (S:=fun L w'=>w'.cell? (N X 0 z)=E (.pointer (E (N b 0 z)))∧Till 7 4 (fun w'=>w'.cell? (N b 1 z)=E (.slice A i c)) L w') (by kernel_rfl) hS0 (fun hHeld=> ?_);clear c0 b0 b1 bf hS0;refine aO (i:=0) (v:= ?_) rfl (by kernel_rfl) (by kernel_rfl) (by kernel_rfl) (fun _ _ _ h=>h) (a4 af (ax (by decide) ⟨_,⟨4,.data⟩,rfl,by simp,rfl,rfl⟩)) (Or.inl ⟨by kernel_rfl,?_⟩) hHeld (fun hHeld=> ?_);rotate_left;focus (intro wS hSw;obtain⟨Lx,hLx,hs1,hs2⟩:=hSw;have cS:=hs1;go_simp;first|done|with_reducible rfl)
    refine aO (i:=1) (v:= ?_) rfl (by kernel_rfl) (by kernel_rfl) (by kernel_rfl) (fun _ _ _ h=>h) (a4 af (ax (by decide) ⟨_,⟨4,.data⟩,rfl,by simp,rfl,rfl⟩)) (Or.inl ⟨by kernel_rfl,?_⟩) hHeld (fun hHeld=> ?_);rotate_left;focus (intro wS hSw;obtain⟨Lx,hLx,hs1,hs2⟩:=hSw;have cS:=hs1;go_simp;first|done|with_reducible rfl)
    refine aO (i:=2) (v:= ?_) rfl (by kernel_rfl) (by kernel_rfl) (by kernel_rfl) (fun _ _ _ h=>h) (a4 af (ax (by decide) ⟨_,⟨4,.data⟩,rfl,by simp,rfl,rfl⟩)) (Or.inl ⟨by kernel_rfl,?_⟩) hHeld (fun hHeld=> ?_);rotate_left;focus (intro wS hSw;obtain⟨Lx,hLx,hs1,hs2⟩:=hSw;skip;go_simp;first|done|with_reducible rfl)
    refine aO (i:=3) (v:= ?_) rfl (by kernel_rfl) (by kernel_rfl) (by kernel_rfl) (fun _ _ _ h=>h) (a4 af (ax (by decide) ⟨_,⟨4,.data⟩,rfl,by simp,rfl,rfl⟩)) (Or.inl ⟨by kernel_rfl,?_⟩) hHeld (fun hHeld=> ?_);rotate_left;focus (intro wS hSw;obtain⟨Lx,hLx,hs1,hs2⟩:=hSw;skip;go_simp;first|done|with_reducible rfl)
    refine aO (i:=4) (v:= ?_) rfl (by kernel_rfl) (by kernel_rfl) (by kernel_rfl) (fun _ _ _ h=>h) (a4 af (ax (by decide) ⟨_,⟨4,.data⟩,rfl,by simp,rfl,rfl⟩)) (Or.inl ⟨by kernel_rfl,?_⟩) hHeld (fun hHeld=> ?_);rotate_left;focus (intro wS hSw;obtain⟨Lx,hLx,hs1,hs2⟩:=hSw;have cS:=hs2.still hLx;go_simp;first|done|with_reducible rfl)
    refine aO (i:=5) (v:= ?_) rfl (by kernel_rfl) (by kernel_rfl) (by kernel_rfl) (fun _ _ _ h=>h) (a4 af (ax (by decide) ⟨_,⟨4,.data⟩,rfl,by simp,rfl,rfl⟩)) (Or.inl ⟨by kernel_rfl,?_⟩) hHeld (fun hHeld=> ?_);rotate_left;focus (intro wS hSw;obtain⟨Lx,hLx,hs1,hs2⟩:=hSw;skip;go_simp;first|done|with_reducible rfl)
    refine aX (rs:=[6]) (by kernel_rfl) (by simp) ?_;refine OneOf.cons rfl (fun K hK=> ?_) OneOf.nil;have k1:=h4d.build #[H I k] 3;try simp only[a5] at k1
    go_simp;refine hK.out _ _ ⟨k1.right.cell 0,⟨fun _=>by kernel_rfl,fun _=>k1.r3.cell 1⟩⟩ (fun hHeld=> ?_);clear hK K;refine aX (rs:=[7]) (by kernel_rfl) (by simp) ?_;refine OneOf.cons rfl (fun K hK=> ?_) OneOf.nil;refine cg rfl (.tmp 35) (.tmp 37) 45 rfl underlying45 gr (.slice A i c) i ((eI s i).map (H I)) (by simp[Act.eval]) k1 (N w3.drew.heap.size 0 z) 1 1 [H I k] (by simp[Act.eval]) rfl (fo (k1.right.right.cell 0)) (iT k) (by unfold maxLen;omega) (by omega) ?_;intro A' c' w5 k2 y2;try go_simp
    refine hK.out _ _ ⟨k2.right.cell 0,⟨fun _=>by kernel_rfl,fun h=>aS (by kernel_rfl) h⟩⟩ (fun hHeld=> ?_);clear hK K;refine aO (i:=8) (v:= ?_) rfl (by kernel_rfl) (by kernel_rfl) (by kernel_rfl) (fun _ _ _ h=>h) (a4 af (ax (by decide) ⟨_,⟨4,.data⟩,rfl,by simp,rfl,rfl⟩)) (Or.inl ⟨by kernel_rfl,?_⟩) hHeld (fun hHeld=> ?_);rotate_left;focus (intro wS hSw;obtain⟨Lx,hLx,hs1,hs2⟩:=hSw;skip;go_simp;first|done|with_reducible rfl)
    refine aO (i:=9) (v:= ?_) rfl (by kernel_rfl) (by kernel_rfl) (by kernel_rfl) (fun _ _ _ h=>h) (a4 af (ax (by decide) ⟨_,⟨4,.data⟩,rfl,by simp,rfl,rfl⟩)) (Or.inl ⟨by kernel_rfl,?_⟩) hHeld (fun hHeld=> ?_);rotate_left;focus (intro wS hSw;obtain⟨Lx,hLx,hs1,hs2⟩:=hSw;skip;go_simp;first|done|with_reducible rfl)
    have h6:Z w5 (aa b #[.pointer (E (N f 0 z)),.slice A i c] 224*(aa X #[.pointer (E (N b 0 z))] 222*(bZ 3 1 (.slice A' (i+1) c') (i+1) ((eI s i).map (H I)++[H I k])*(ai f s2*R)))):=by
     have:=k2.eq (show _=aa w3.drew.heap.size #[H I k] 3*(aa b #[.pointer (E (N f 0 z)),.slice A i c] 224*(aa X #[.pointer (E (N b 0 z))] 222*(bZ 3 1 (.slice A' (i+1) c') (i+1) ((eI s i).map (H I)++[H I k])*(ai f s2*R)))) by ac_rfl);exact this.right
    have g0:=h6.lt;have g1:=h6.free 1;have g2:=h6.cell 1;have h7:=(h6.set 1 (.slice A' (i+1) c')).p2;refine aX (rs:=[10]) (by kernel_rfl) (by simp) ?_;refine OneOf.cons rfl (fun K hK=> ?_) OneOf.nil;go_simp;refine hK.out _ _ ⟨h7.cell 0,⟨fun _=>by kernel_rfl,fun h=>aS (by kernel_rfl) h⟩⟩ (fun hHeld=> ?_);clear hK K;refine fj (by kernel_rfl) ?_;clear hHeld;unfold wM;dsimp only;go_wp2_with fail
    go_roundw
    case rel=>exact⟨i+1,A',c',by omega,by omega,by go_num,by rw[HTS.out,HNS.out,List.map_append];exact h7,((x4.drew.alloc _).trans y2).set _ _⟩
    case measure=>simp[intOf];omega
  ·obtain rfl:i=n:=by omega
   go_wp2_with fail
   refine qY (v:=V O) (by simp[results,results150,go_sem]) rfl ?_;exact .inl ⟨hif,A,c,rfl,hr.right,hx⟩
end Go.Proofs.YtmfheghbgihdmaaGreat
