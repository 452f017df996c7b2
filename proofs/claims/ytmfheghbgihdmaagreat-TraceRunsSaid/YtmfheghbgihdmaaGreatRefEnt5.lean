/- Contract of wayleaveref.LeafMap. -/
import Derived.Test.YtmfheghbgihdmaaGreatInsM2
import Derived.Test.YtmfheghbgihdmaaGreatRefPage
import Derived.Deep.RegionHeld3
import Derived.Test.YtmfheghbgihdmaaGreatEntry5
import Derived.Test.YtmfheghbgihdmaaGreatWalkM2
import Derived.Deep.DeepCutAuto
import Derived.Test.YtmfheghbgihdmaaGreatWkr
import Derived.Test.YtmfheghbgihdmaaGreatFrames3
import Derived.Test.YtmfheghbgihdmaaGreatSep
import Derived.Test.YtmfheghbgihdmaaGreatTblM3
import Derived.Lib.Hide
import Derived.WalkSpells
import Derived.Outline
import Derived.RangeFuncNested
import Derived.RangeFuncBound
import Derived.RangeFuncCalls
import Derived.RangeFuncLeaves
import Derived.Shelf.Abstract
import Derived.Shelf.RegionOpen
import Derived.WalkKit
import Derived.OwnWalkIn
import Derived.TacticsInMore
import Derived.LoopNIn
import Derived.LoopIn
import Derived.BigQuiet
namespace Go.Proofs.YtmfheghbgihdmaaGreat
open Option renaming none→z,some→E
open Bool renaming false→G,true→O
open Go.Value renaming int→H,bool→V
open Go.IntKind renaming i64→I,wrap_i64→ad
open Go.Lib renaming hid→M
open Go.Addr renaming mk→N
open Go renaming World→U,bodyPost_ret→Y,Calls→al,Value→a3,Addr→a7
open Go.Proofs.YtmfheghbgihdmaaGreat renaming Has→Z,Agree→a2,Ext→a6,lev→bb
open Go.Proofs.YtmfheghbgihdmaaGreat.Good renaming const→af,till→ax,and→a4
open List renaming getElem?_eq_getElem→ag
open Go.World renaming size_alloc→a5
open Tryz
open Go.RowKit
set_option maxRecDepth 100000
set_option maxHeartbeats 4000000 in
theorem io(e:En)(l a:Int)(w:U):al prog 80 #[.agg #[V e.there,V e.leaf,H I e.rights,V e.used,V e.dirty,H I e.frame],.int .i64 l,.int .i64 a] w (Pure (aC e l a).val w):=by
 obtain⟨th,leaf,r,u,d,f⟩:=e;have h1:=(Has.new (aM w) #[V th,V leaf,H I r,V u,V d,H I f] 70).new #[H I 0,H I 0,H I 0,H I 0] 39;have x1:=((Ext.refl w).alloc (.cells #[V th,V leaf,H I r,V u,V d,H I f] 70)).alloc (.cells #[H I 0,H I 0,H I 0,H I 0] 39);simp only[a5] at h1;have HC:=M (fun W=>fQ ⟨th,leaf,r,u,d,f⟩ l W);by_cases hc:ak ⟨th,leaf,r,u,d,f⟩ l=0
 ·have hl:=iq hc
  cases leaf with
  |false=>
   have hy:=M (fx (e:=⟨th,G,r,u,d,f⟩) (l:=l) (a:=a) (.inr (.inl rfl)));rw[hc] at HC;clear hc;go_enter func80,ntmps80;go_wp2_with fail
   refine(HC.out _).mono ?_;rintro e w2 ⟨rfl,bl⟩;have h2:=h1.below bl;have x2:=x1.below bl;obtain⟨c0,c1,c2,c3⟩:=h2.cells4;obtain⟨d0,d1,d2,d3,d4,d5⟩:=h2.right.cells6;obtain⟨f0,f1,f2,f3⟩:=h2.frees4;have l2:=h2.lt;go_wp2_with fail
   refine ao (fun wz=>Z wz (aa (w.heap.size+1) #[H I 0,H I 0,H I 0,H I 0] 39*(aa w.heap.size _ 70*a9 w w.heap.size))∧a6 w wz) ⟨h2.set4 _ _ _ _,ai⟩ ?_;rintro wz ⟨hz,xz⟩;exact Y (aD results80 rfl (aY hz)) rfl ⟨by rw[hy.out];rfl,ap hz.right.right xz⟩
  |true=>
   by_cases a0:0≤a
   ·by_cases a1:a<4096
    ·have hth:th=O:=by
      cases th with
      |true=>rfl
      |false=>
       have:=dL hc rfl;simp[En.zero] at this
     subst hth;have hl3:=((dM hc rfl).leaf rfl).1;have hl0:=hl.1;have hy:=M (show aC ⟨O,O,r,u,d,f⟩ l a=⟨a / br l*br l,l,f,r⟩ by unfold aC;rw[if_pos ⟨hc,rfl,a0,a1⟩]);rw[hc] at HC;clear hc hl;have hl:l=0∨l=1∨l=2:=by omega
     clear hl0 hl3;rcases hl with rfl|rfl|rfl
     ·skip
      have hq:=M (show IntKind.i64.wrap a=a / br 0*br 0 by rw[show br 0=1 from rfl];first|(simp only[ad];omega)|(simp only[ad,Int.tmod_eq_emod_of_nonneg a0];omega));have hs':=M (bS 0);rw[show br 0=1 from rfl] at hs';go_enter func80,ntmps80;go_wp2_with fail
      refine(HC.out _).mono ?_;rintro e w2 ⟨rfl,bl⟩;have h2:=h1.below bl;have x2:=x1.below bl;obtain⟨c0,c1,c2,c3⟩:=h2.cells4;obtain⟨d0,d1,d2,d3,d4,d5⟩:=h2.right.cells6;obtain⟨f0,f1,f2,f3⟩:=h2.frees4;have l2:=h2.lt;clear HC h1 x1 bl;go_wp2_with fail
      go_region_held3 (fun w'=>w'.cell? (N w.heap.size 5 z)=E (H I f)∧w'.cell? (N w.heap.size 2 z)=E (H I r)) (go_keep) (first|(go_at_call 137;(with_reducible refine(hs'.out _).mono ?_);rintro e w' ⟨rfl,rfl⟩))
      go_wp2;refine ao (fun wz=>Z wz (aa (w.heap.size+1) #[H I (IntKind.i64.wrap a),H I 0,H I f,H I r] 39*(aa w.heap.size #[V O,V O,H I r,V u,V d,H I f] 70*a9 w w.heap.size))∧a6 w wz) ⟨(h2.set4 _ _ _ _).drew,ai⟩ ?_;rintro wz ⟨hz,xz⟩;exact Y (aD results80 rfl (aY hz)) rfl ⟨by rw[hy.out,←hq.out];rfl,ap hz.right.right xz⟩
     ·skip
      have hq:=M (show IntKind.i64.wrap (a - a.tmod 8)=a / br 1*br 1 by rw[show br 1=8 from rfl];first|(simp only[ad];omega)|(simp only[ad,Int.tmod_eq_emod_of_nonneg a0];omega));have hs':=M (bS 1);rw[show br 1=8 from rfl] at hs';go_enter func80,ntmps80;go_wp2_with fail
      refine(HC.out _).mono ?_;rintro e w2 ⟨rfl,bl⟩;have h2:=h1.below bl;have x2:=x1.below bl;obtain⟨c0,c1,c2,c3⟩:=h2.cells4;obtain⟨d0,d1,d2,d3,d4,d5⟩:=h2.right.cells6;obtain⟨f0,f1,f2,f3⟩:=h2.frees4;have l2:=h2.lt;clear HC h1 x1 bl;go_wp2_with fail
      go_region_held3 (fun w'=>w'.cell? (N w.heap.size 5 z)=E (H I f)∧w'.cell? (N w.heap.size 2 z)=E (H I r)) (go_keep) (first|(go_at_call 137;(with_reducible refine(hs'.out _).mono ?_);rintro e w' ⟨rfl,rfl⟩))
      go_wp2;refine ao (fun wz=>Z wz (aa (w.heap.size+1) #[H I (IntKind.i64.wrap (a - a.tmod 8)),H I 1,H I f,H I r] 39*(aa w.heap.size #[V O,V O,H I r,V u,V d,H I f] 70*a9 w w.heap.size))∧a6 w wz) ⟨(h2.set4 _ _ _ _).drew,ai⟩ ?_;rintro wz ⟨hz,xz⟩;exact Y (aD results80 rfl (aY hz)) rfl ⟨by rw[hy.out,←hq.out];rfl,ap hz.right.right xz⟩
     ·skip
      have hq:=M (show IntKind.i64.wrap (a - a.tmod 64)=a / br 2*br 2 by rw[show br 2=64 from rfl];first|(simp only[ad];omega)|(simp only[ad,Int.tmod_eq_emod_of_nonneg a0];omega));have hs':=M (bS 2);rw[show br 2=64 from rfl] at hs';go_enter func80,ntmps80;go_wp2_with fail
      refine(HC.out _).mono ?_;rintro e w2 ⟨rfl,bl⟩;have h2:=h1.below bl;have x2:=x1.below bl;obtain⟨c0,c1,c2,c3⟩:=h2.cells4;obtain⟨d0,d1,d2,d3,d4,d5⟩:=h2.right.cells6;obtain⟨f0,f1,f2,f3⟩:=h2.frees4;have l2:=h2.lt;clear HC h1 x1 bl;go_wp2_with fail
      go_region_held3 (fun w'=>w'.cell? (N w.heap.size 5 z)=E (H I f)∧w'.cell? (N w.heap.size 2 z)=E (H I r)) (go_keep) (first|(go_at_call 137;(with_reducible refine(hs'.out _).mono ?_);rintro e w' ⟨rfl,rfl⟩))
      go_wp2;refine ao (fun wz=>Z wz (aa (w.heap.size+1) #[H I (IntKind.i64.wrap (a - a.tmod 64)),H I 2,H I f,H I r] 39*(aa w.heap.size #[V O,V O,H I r,V u,V d,H I f] 70*a9 w w.heap.size))∧a6 w wz) ⟨(h2.set4 _ _ _ _).drew,ai⟩ ?_;rintro wz ⟨hz,xz⟩;exact Y (aD results80 rfl (aY hz)) rfl ⟨by rw[hy.out,←hq.out];rfl,ap hz.right.right xz⟩
    ·have hy:=M (fx (e:=⟨th,O,r,u,d,f⟩) (l:=l) (a:=a) (.inr (.inr (by unfold cZ;simp;omega))))
     rw[hc] at HC;clear hc;go_enter func80,ntmps80;go_wp2_with fail
     refine(HC.out _).mono ?_;rintro e w2 ⟨rfl,bl⟩;have h2:=h1.below bl;have x2:=x1.below bl;obtain⟨c0,c1,c2,c3⟩:=h2.cells4;obtain⟨d0,d1,d2,d3,d4,d5⟩:=h2.right.cells6;obtain⟨f0,f1,f2,f3⟩:=h2.frees4;have l2:=h2.lt;go_wp2_with fail
     refine ao (fun wz=>Z wz (aa (w.heap.size+1) #[H I 0,H I 0,H I 0,H I 0] 39*(aa w.heap.size _ 70*a9 w w.heap.size))∧a6 w wz) ⟨h2.set4 _ _ _ _,ai⟩ ?_;rintro wz ⟨hz,xz⟩;exact Y (aD results80 rfl (aY hz)) rfl ⟨by rw[hy.out];rfl,ap hz.right.right xz⟩
   ·have hy:=M (fx (e:=⟨th,O,r,u,d,f⟩) (l:=l) (a:=a) (.inr (.inr (by unfold cZ;simp;omega))))
    rw[hc] at HC;clear hc;go_enter func80,ntmps80;go_wp2_with fail
    refine(HC.out _).mono ?_;rintro e w2 ⟨rfl,bl⟩;have h2:=h1.below bl;have x2:=x1.below bl;obtain⟨c0,c1,c2,c3⟩:=h2.cells4;obtain⟨d0,d1,d2,d3,d4,d5⟩:=h2.right.cells6;obtain⟨f0,f1,f2,f3⟩:=h2.frees4;have l2:=h2.lt;go_wp2_with fail
    refine ao (fun wz=>Z wz (aa (w.heap.size+1) #[H I 0,H I 0,H I 0,H I 0] 39*(aa w.heap.size _ 70*a9 w w.heap.size))∧a6 w wz) ⟨h2.set4 _ _ _ _,ai⟩ ?_;rintro wz ⟨hz,xz⟩;exact Y (aD results80 rfl (aY hz)) rfl ⟨by rw[hy.out];rfl,ap hz.right.right xz⟩
 ·have hy:=M (fx (e:=⟨th,leaf,r,u,d,f⟩) (l:=l) (a:=a) (.inl hc))
  have hn:(ak ⟨th,leaf,r,u,d,f⟩ l !=0)=O:=by simpa using hc
  clear hc;generalize ak ⟨th,leaf,r,u,d,f⟩ l=c at*
  go_enter func80,ntmps80;go_wp2_with fail
  refine(HC.out _).mono ?_;rintro e w2 ⟨rfl,bl⟩;have h2:=h1.below bl;have x2:=x1.below bl;obtain⟨c0,c1,c2,c3⟩:=h2.cells4;obtain⟨d0,d1,d2,d3,d4,d5⟩:=h2.right.cells6;obtain⟨f0,f1,f2,f3⟩:=h2.frees4;have l2:=h2.lt;go_wp2_with fail
  refine ao (fun wz=>Z wz (aa (w.heap.size+1) #[H I 0,H I 0,H I 0,H I 0] 39*(aa w.heap.size _ 70*a9 w w.heap.size))∧a6 w wz) ⟨h2.set4 _ _ _ _,ai⟩ ?_;rintro wz ⟨hz,xz⟩;exact Y (aD results80 rfl (aY hz)) rfl ⟨by rw[hy.out];rfl,ap hz.right.right xz⟩
theorem cM{w:U}{R:ae}{A:Option a7}{n c:Nat}{l:List Int}(h:Z w (am (.slice A n c) l*R)){k:Nat}(hk:k<l.length):
  ∃b,A=E (N b 0 z)∧b<w.heap.size∧w.cell? (N b k z)=E (H I l[k]):=by
 have hf:=(Has.rowCases (e:=3) (size:=1) h);have hn:n=l.length:=by
  rcases hf with ⟨hv,h0,_⟩|⟨g,cap,cur,hv,_⟩
  ·injection hv with a b
   omega
  ·injection hv
 subst hn;obtain⟨b,e,hb,hc,_⟩:=Has.rowGet (e:=3) (size:=1) h (i:=k) (u:=H I l[k]) (by simp[hk]);exact⟨b,e,hb,hc⟩
theorem dY{w:U}{R:ae}{A:Option a7}{n c:Nat}{l:List Int}(h:Z w (am (.slice A n c) l*R)):n=l.length:=by
 rcases(Has.rowCases (e:=3) (size:=1) h) with ⟨hv,h0,_⟩|⟨g,cap,cur,hv,_⟩
 ·injection hv with a b
  omega
 ·injection hv
theorem kG{w:U}{R:ae}{A:Option a7}{n c:Nat}{l:List Int}(h:Z w (am (.slice A n c) l*R)):n≤9223372036854775807:=by
 obtain rfl:=dY h;exact(Has.rowLens (e:=3) (size:=1) h).2
theorem oD(l:List Int)(A B:Option a7)(n c n' c':Nat)(R:ae)(w:U)(h:Z w (am (.slice A n c) l*(am (.slice B n' c') l*R))):
  al prog 22 #[.slice A n c,.slice B n' c'] w (Pure (V O) w):=by
 have hn:=dY h;have hn':=dY h.right;subst hn;subst hn';have hbig:=kG h;go_enter func22,ntmps22;go_wp2_with fail
 go_loopw [5] (fun s5 wr=>∃i:Nat,i≤l.length∧s5=H I i∧Below w.heap.size w wr) (fun s5 _=>l.length - (intOf s5).toNat)
 case atStart=>exact⟨0,Nat.zero_le _,rfl,Below.refl _ _⟩
 case round=>
  obtain⟨i,hi,rfl,BW⟩:=hrel;have h':=h.below BW;clear h;have BW':=M BW;clear BW;by_cases hlt:i<l.length
  ·obtain⟨b,rfl,hb,c0⟩:=cM h' hlt
   obtain⟨b',rfl,hb',d0⟩:=cM h'.right hlt;clear h';generalize l[i]=x at c0 d0;have v0:=ab c0;have u0:=ab d0;clear c0 d0;go_wp2_with fail
   refine aq (by kernel_rfl) (by kernel_rfl) ?_;repeat(first|go_big_quiet_step (fail)|quiet_step (fail))
   refine wpQuiet_nil ?_;intro _ hw';obtain⟨uq,hw''⟩:=hw';subst hw'';go_wp2_with fail
   go_roundw
   case rel=>exact⟨i+1,by omega,by go_num,BW'.out.trans ((aA _ _).mono BW'.out.size)⟩
   case measure=>simp[intOf];omega
  ·go_wp2_with fail
   go_ret;exact⟨rfl,BW'.out⟩
section
variable {P:Program} {fn:Func} {tmps:Array a3} {w:U}
theorem fG{a b c:Nat}{t t':TypeId}{p p':a7}{v u x:a3}(hr:fn.results= #[.cell a t,.cell b t',.tmp c])(ha:tmps.getD a undef= .pointer (E p))(hb:tmps.getD b undef= .pointer (E p'))(hc:tmps.getD c undef=x)(hl:(loadVar t p).run P w= .ok v w)(hl':(loadVar t' p').run P w= .ok u w):
  (results fn tmps).run P w= .ok (.tuple #[v,u,x]) w:=by
 unfold results;rw[hr];simp only[Array.getD_eq_getD_getElem?] at ha hb hc;simp[asAddr,ha,hb,hc,hl,hl']
end
def yO(e:En):a3:= .agg #[V e.there,V e.leaf,H I e.rights,V e.used,V e.dirty,H I e.frame]
set_option maxHeartbeats 4000000 in
theorem mK(q:Nat)(s:Ms)(root p:Int)(R:ae)(w:U)(hs:s.Ok)(h:Z w (aB q s*R)):
  al prog 33 #[.pointer (E (N q 0 z)),H I root,H I p] w (Pure (.tuple #[(bR s root p).val,yO (jg s root p),H I (bH s root p)]) w):=by
 have h0:=((aM w).new #[H I 0,H I 0,H I 0,H I 0] 39).new #[V G,V G,H I 0,V G,V G,H I 0] 70;have x0:=((Ext.refl w).alloc (.cells #[H I 0,H I 0,H I 0,H I 0] 39)).alloc (.cells #[V G,V G,H I 0,V G,V G,H I 0] 70);simp only[a5] at h0;have hq:=(h.alloc (.cells #[H I 0,H I 0,H I 0,H I 0] 39)).alloc (.cells #[V G,V G,H I 0,V G,V G,H I 0] 70);have W1:=M (j6 q s root p R _ hs hq);have hfc:bH s root p=if(bv s root p).code ≠0 then(bv s root p).code else if(bv s root p).e.there =G then 5 else 0:=rfl
 have hfm:bR s root p=if bH s root p=0 then aC (bv s root p).e (bv s root p).lev p else Mp.zero:=rfl
 have hfe:jg s root p=if bH s root p=0 then(bv s root p).e else En.zero:=rfl
 generalize bH s root p=fc at*
 generalize bR s root p=fm at*
 generalize jg s root p=fe at*
 generalize bv s root p=y at*
 have HFC:=M (And.intro hfc (And.intro hfm hfe));clear h hq hfc hfm hfe;go_enter func33,ntmps33;go_wp2_with fail
 refine W1.out.mono ?_;rintro e w1 hF;generalize ((w.alloc (.cells #[H I 0,H I 0,H I 0,H I 0] 39)).alloc (.cells #[V G,V G,H I 0,V G,V G,H I 0] 70))=w0 at*
 obtain⟨A,c,rfl,h1,x1⟩:∃(A:Option a7) (c:Nat),e= .returned (.tuple #[.agg #[.slice A y.tabs.length c,V y.e.there,V y.e.leaf,H I y.e.rights,V y.e.used,V y.e.dirty,H I y.e.frame,H I y.lev],H I y.code])∧Z w1 (am (.slice A y.tabs.length c) y.tabs*a9 w0 w0.heap.size)∧a6 w0 w1:=hF;have h2:=(h0.onto' h1).right.new #[.slice A y.tabs.length c,V y.e.there,V y.e.leaf,H I y.e.rights,V y.e.used,V y.e.dirty,H I y.e.frame,H I y.lev] 146;have x2:=(x0.trans x1).alloc (.cells #[.slice A y.tabs.length c,V y.e.there,V y.e.leaf,H I y.e.rights,V y.e.used,V y.e.dirty,H I y.e.frame,H I y.lev] 146);clear h0 x0 h1 x1 W1;obtain⟨hfc,hfm,hfe⟩:=HFC.out;clear HFC;by_cases hc:y.code=0
 case neg=>
  rw[if_pos hc] at hfc;rw[if_neg (by rw[hfc];exact hc)] at hfm hfe;have HF:=M (show fc=y.code∧fm=Mp.zero∧fe=En.zero from⟨hfc,hfm,hfe⟩);have hn:(y.code==0)=G:=by simpa using hc
  have hn':(y.code !=0)=O:=by simpa using hc
  clear hc hfc hfm hfe;go_upto_region 2 with fail;generalize w1.alloc _=w3 at*
  generalize w1.heap.size=X2 at*
  obtain⟨d0,d1,d2,d3,d4,d5⟩:=h2.right.cells6;obtain⟨f0,f1,f2,f3,f4,f5⟩:=h2.right.frees6;have dl:=h2.right.lt;obtain⟨c0,c1,c2,c3⟩:=h2.right.right.cells4;obtain⟨g0,g1,g2,g3⟩:=h2.right.right.frees4;have cl:=h2.right.right.lt;have h4:=h2.right.p2;have n1:=h4.ne;have n2:=n1.symm;go_wp2_with fail
  refine ao (fun wz=>Z wz (aa (w.heap.size+1) #[V G,V G,H I 0,V G,V G,H I 0] 70*(aa w.heap.size #[H I 0,H I 0,H I 0,H I 0] 39*a9 w w.heap.size))∧a6 w wz) ⟨((h4.set4 _ _ _ _).p2).set6 _ _ _ _ _ _,ai⟩ ?_;rintro wz ⟨hz,xz⟩;exact Y (fG results33 rfl rfl rfl (aY hz.right) (bJ hz)) rfl ⟨by rw[HF.out.1,HF.out.2.1,HF.out.2.2];rfl,ap hz.right.right xz⟩
 case pos=>
  rw[if_neg (by rw[hc];simp)] at hfc;obtain⟨code,tabs,bb,th,lf,rg,us,di,fr⟩:=y;dsimp only at*
  subst hc;cases th with
  |false=>
   rw[if_pos rfl] at hfc;rw[if_neg (by rw[hfc];decide)] at hfm hfe;have HF:=M (show fc=5∧fm=Mp.zero∧fe=En.zero from⟨hfc,hfm,hfe⟩);clear hfc hfm hfe;go_upto_region 2 with fail;generalize w1.alloc _=w3 at*
   generalize w1.heap.size=X2 at*
   obtain⟨k0,k1,_⟩:=h2.cells8;have kl:=h2.lt;obtain⟨d0,d1,d2,d3,d4,d5⟩:=h2.right.cells6;obtain⟨f0,f1,f2,f3,f4,f5⟩:=h2.right.frees6;have dl:=h2.right.lt;obtain⟨c0,c1,c2,c3⟩:=h2.right.right.cells4;obtain⟨g0,g1,g2,g3⟩:=h2.right.right.frees4;have cl:=h2.right.right.lt;have h4:=h2.right.p2;have n1:=h4.ne;have n2:=n1.symm;go_wp2_with fail
   refine ao (fun wz=>Z wz (aa (w.heap.size+1) #[V G,V G,H I 0,V G,V G,H I 0] 70*(aa w.heap.size #[H I 0,H I 0,H I 0,H I 0] 39*a9 w w.heap.size))∧a6 w wz) ⟨((h4.set4 _ _ _ _).p2).set6 _ _ _ _ _ _,ai⟩ ?_;rintro wz ⟨hz,xz⟩;exact Y (fG results33 rfl rfl rfl (aY hz.right) (bJ hz)) rfl ⟨by rw[HF.out.1,HF.out.2.1,HF.out.2.2];rfl,ap hz.right.right xz⟩
  |true=>
   rw[if_neg (by simp)] at hfc;rw[if_pos hfc] at hfm hfe;have HF:=M (show fc=0∧fm=aC ⟨O,lf,rg,us,di,fr⟩ bb p∧fe=⟨O,lf,rg,us,di,fr⟩ from⟨hfc,hfm,hfe⟩);have HL:Hid (∀X,al prog 80 #[.agg #[V O,V lf,H I rg,V us,V di,H I fr],.int .i64 bb,.int .i64 p] X (Pure (aC ⟨O,lf,rg,us,di,fr⟩ bb p).val X)):=M (fun X=>io ⟨O,lf,rg,us,di,fr⟩ bb p X);clear hfc hfm hfe;generalize aC ⟨O,lf,rg,us,di,fr⟩ bb p=lm at*
   go_upto_region 6 with fail;generalize w1.alloc _=w3 at*
   generalize w1.heap.size=X2 at*
   have h3:Z w3 (aa (w.heap.size+1) #[V G,V G,H I 0,V G,V G,H I 0] 70*(aa X2 #[.slice A tabs.length c,V O,V lf,H I rg,V us,V di,H I fr,H I bb] 146*(aa w.heap.size #[H I 0,H I 0,H I 0,H I 0] 39*a9 w w.heap.size))):=h2.p2;have h4:=h3.set6 (V O) (V lf) (H I rg) (V us) (V di) (H I fr);clear h2;have HK:=M (fun(w':U) (P:ae) (h:Z w' (aa X2 #[.slice A tabs.length c,V O,V lf,H I rg,V us,V di,H I fr,H I bb] 146*P))=>h.cells8);obtain⟨k0,k1,k2,k3,k4,k5,k6,k7⟩:=h3.right.cells8;have kl:=h3.right.lt;obtain⟨d0,d1,d2,d3,d4,d5⟩:=h3.cells6;obtain⟨f0,f1,f2,f3,f4,f5⟩:=h3.frees6;have dl:=h3.lt;have n1:=h3.ne;have n2:=n1.symm;go_cut [8] (fun s8 wx=>s8=H I 0∧Z wx (aa (w.heap.size+1) #[V O,V lf,H I rg,V us,V di,H I fr] 70*(aa w.heap.size #[H I lm.page,H I lm.size,H I lm.frame,H I lm.rights] 39*a9 w w.heap.size))∧a6 w wx)
   case first=>
    go_region_held3 (fun w'=>w'.cell? (N X2 0 z)=E (.slice A tabs.length c)∧w'.cell? (N X2 1 z)=E (V O)∧w'.cell? (N X2 2 z)=E (V lf)∧w'.cell? (N X2 3 z)=E (H I rg)∧w'.cell? (N X2 4 z)=E (V us)∧w'.cell? (N X2 5 z)=E (V di)∧w'.cell? (N X2 6 z)=E (H I fr)∧w'.cell? (N X2 7 z)=E (H I bb)) (first|(with_reducible exact HK.out _ _ h5.right)|(with_reducible exact HK.out _ _ g5.right)|(with_reducible exact HK.out _ _ h4.drew.right)|(with_reducible exact HK.out _ _ h3.drew.right)|go_keep) (first|(go_at_call 80;((with_reducible refine(HL.out _).mono ?_);rintro e2 w5 ⟨rfl,b5⟩;first|(have h5:=h3.drew.below b5;have x5:=x2.drew.below b5;obtain⟨y0,y1,y2,y3,y4,y5⟩:=h5.cells6;obtain⟨z0,z1,z2,z3,z4,z5⟩:=h5.frees6;have yl:=h5.lt;obtain⟨c0,c1,c2,c3⟩:=h5.right.right.cells4;obtain⟨g0,g1,g2,g3⟩:=h5.right.right.frees4;have cl:=h5.right.right.lt;have nn:=h5.p2.right.ne;have nn':=nn.symm;have mm:=h5.right.ne;have mm':=mm.symm)|(have g5:=h4.drew.below b5;have y5:=(((((((x2.set _ _).set _ _).set _ _).set _ _).set _ _).set _ _).drew).below b5;obtain⟨c0,c1,c2,c3⟩:=g5.right.right.cells4;obtain⟨g0,g1,g2,g3⟩:=g5.right.right.frees4;have cl:=g5.right.right.lt;have mm:=g5.right.ne;have mm':=mm.symm))))
    all_goals
     go_wp2_with fail
     go_meet
     case rel=>
      have h6:Z w5 (aa w.heap.size #[H I 0,H I 0,H I 0,H I 0] 39*(aa (w.heap.size+1) #[V G,V G,H I 0,V G,V G,H I 0] 70*(aa X2 #[.slice A tabs.length c,V O,V lf,H I rg,V us,V di,H I fr,H I bb] 146*a9 w w.heap.size))):=h5.eq (by ac_rfl);have h7:=h6.set4 (H I lm.page) (H I lm.size) (H I lm.frame) (H I lm.rights);have h8:=h7.p2.set6 (V O) (V lf) (H I rg) (V us) (V di) (H I fr);exact⟨rfl,h8.drop3,ai⟩
   case rest=>
    obtain⟨rfl,h9,x9⟩:=hcut;go_wp2_with fail
    refine ao (fun wz=>Z wz (aa (w.heap.size+1) #[V O,V lf,H I rg,V us,V di,H I fr] 70*(aa w.heap.size #[H I lm.page,H I lm.size,H I lm.frame,H I lm.rights] 39*a9 w w.heap.size))∧a6 w wz) ⟨h9,x9⟩ ?_;rintro wz ⟨hz,xz⟩;exact Y (fG results33 rfl rfl rfl (aY hz.right) (bJ hz)) rfl ⟨by rw[HF.out.1,HF.out.2.1,HF.out.2.2];rfl,ap hz.right.right xz⟩
theorem yP(b f:Nat)(t i l:Int)(v:a3)(e:En)(s:Ms)(R:ae)(w:U)(h:Z w (aa b #[.pointer (E (N f 0 z)),v] 224*(aj f s*R))):
  al prog 153 #[.pointer (E (N b 0 z)),H I t,H I i,H I l,.agg #[V e.there,V e.leaf,H I e.rights,V e.used,V e.dirty,H I e.frame]] w (cN (.tuple #[]) (aa b #[.pointer (E (N f 0 z)),v] 224*(aj f (fy s t i (bx e l))*R)) w):=by
 have h1:=h.new #[V e.there,V e.leaf,H I e.rights,V e.used,V e.dirty,H I e.frame] 70;have x1:=(Ext.refl w).alloc (.cells #[V e.there,V e.leaf,H I e.rights,V e.used,V e.dirty,H I e.frame] 70);have HE:=M (kJ e l);have HS:=M (fun R w h=>qv f s t i (bx e l) R w h);generalize fy s t i (bx e l)=s' at*
 generalize s.hasW t i=ok at*
 generalize bx e l=wd at*
 generalize ak e l=ff at*
 clear h;obtain⟨c0,c1,c2,c3,c4,c5⟩:=h1.cells6;go_enter func153,ntmps153;go_wp2_with fail
 refine(HE.out _).mono ?_;rintro e2 w2 ⟨rfl,b2⟩;have h2:=h1.below b2;have x2:=x1.below b2;clear h1 x1 c0 c1 c2 c3 c4 c5;obtain⟨b0,b1⟩:=h2.right.cells2;have bl:=h2.right.lt;go_wp2_with fail
 refine(HS.out _ _ (h2.eq (show _=aj f s*(aa b #[.pointer (E (N f 0 z)),v] 224*(aa w.heap.size #[V e.there,V e.leaf,H I e.rights,V e.used,V e.dirty,H I e.frame] 70*R)) by ac_rfl))).mono ?_;rintro e3 w3 ⟨rfl,h3,x3⟩;have h4:=h3.eq (show _=aa w.heap.size #[V e.there,V e.leaf,H I e.rights,V e.used,V e.dirty,H I e.frame] 70*(aa b #[.pointer (E (N f 0 z)),v] 224*(aj f s'*R)) by ac_rfl);go_wp2_with fail
 exact Y (v:= .tuple #[]) (by simp[results,results153]) rfl ⟨rfl,h4.right,x2.trans x3⟩
def iM(s:Ms)(t:Int):Bool:=(List.range 8).all fun(i:Nat)=>ep s t i==0
theorem si{s:Ms}{t:Int}(h:s.has t=O):iM s t=fz s t:=by
 unfold iM fz;have e:∀i∈List.range 8,(ep s t ((i:Nat):Int)==0)=(az s t ((i:Nat):Int)==0):=fun i hi=>by
  have hi:=List.mem_range.1 hi;have hw:s.hasW t ((i:Nat):Int)=O:=jb.2 ⟨h,by omega,by omega⟩;unfold ep az;rw[if_pos hw]
 rw[Bool.eq_iff_iff,List.all_eq_true,List.all_eq_true];constructor
 ·intro hh x hx
  rw[←e x hx];exact hh x hx
 ·intro hh x hx
  rw[e x hx];exact hh x hx
theorem wZ(f:Nat)(t:Int)(s:Ms)(R:ae)(w:U)(h:Z w (aj f s*R)):al prog 155 #[.pointer (E (N f 0 z)),H I t] w (Same (V (iM s t)) w):=by
 have HL:=M (fun(i:Int)=>rq f s t i R w h);have hyy:∀i:Nat,i<8→iM s t=O→ep s t i=0:=fun i hi he=>by
  unfold iM at he;rw[List.all_eq_true] at he;simpa using he i (List.mem_range.2 hi)
 have hnn:∀i:Nat,i<8→ep s t i≠0→iM s t=G:=fun i hi hn=>by
  cases he:iM s t with
  |false=>rfl
  |true=>exact absurd (hyy i hi he) hn
 have hall:(∀i:Nat,i<8→ep s t i=0)→iM s t=O:=fun hh=>by
  unfold iM;rw[List.all_eq_true];intro x hx;simpa using hh x (List.mem_range.1 hx)
 have HNN:=M hnn;have HALL:=M hall;have HW:=M h;clear hyy hnn hall h;generalize iM s t=ev at*
 go_enter func155,ntmps155;go_wp2_with fail
 go_loopw [8] (fun t8 wr=>∃i:Nat,i≤8∧t8=H I i∧Hid (∀j:Nat,j<i→ep s t j=0)∧w=wr) (fun t8 _=>8 - (intOf t8).toNat)
 case atStart=>exact⟨0,by omega,rfl,M (fun j hj=>by omega),rfl⟩
 case round=>
  obtain⟨i,hi,rfl,HZ,rfl⟩:=hrel;by_cases hlt:i<8
  ·have hL:=M (HL.out (i:Int))
   have hlt':(i:Int)<8:=by omega
   by_cases hz:ep s t (i:Int)=0
   ·rw[hz] at hL
    have HZ':=M (show∀j:Nat,j<i+1→ep s t j=0 from fun j hj=>by
     by_cases e:j=i
     ·subst e;exact hz
     ·exact HZ.out j (by omega))
    clear hz;generalize s.hasW t (i:Int)=hw at*
    go_wp2_with fail
    refine hL.out.mono ?_;rintro e2 w2 ⟨rfl,rfl⟩;go_wp2_with fail
    go_roundw
    case rel=>exact⟨i+1,by omega,by go_num,HZ',trivial⟩
    case measure=>simp[intOf];omega
   ·have hev:=HNN.out i hlt hz
    have hne:(ep s t (i:Int) !=0)=O:=by simpa using hz
    subst hev;clear hz;generalize s.hasW t (i:Int)=hw at*
    generalize ep s t (i:Int)=lv at*
    go_wp2_with fail
    refine hL.out.mono ?_;rintro e2 w2 ⟨rfl,rfl⟩;go_wp2_with fail
    go_ret;exact⟨rfl,rfl⟩
  ·obtain rfl:i=8:=by omega
   have hev:=HALL.out HZ.out;subst hev;go_wp2_with fail
   go_ret;exact⟨rfl,rfl⟩
def kH(p:Int)(tabs:List Int):Nat→Ms→Ms×List Int
 |0,s=>(s,[])
 |k+1,s=>
  if fz s (tabs.getD (k+1) 0)=O then
   ((kH p tabs k (s.setW (tabs.getD k 0).toNat (au p (3 - k:Nat)).toNat 0)).1,tabs.getD (k+1) 0::(kH p tabs k (s.setW (tabs.getD k 0).toNat (au p (3 - k:Nat)).toNat 0)).2)
  else(s,[])
theorem qE(p:Int)(tabs:List Int):∀(k:Nat) (s:Ms),ej p tabs k s=kH p tabs k (s.setW (tabs.getD k 0).toNat (au p (3 - k:Nat)).toNat 0)
 |0,s=>rfl
 |k+1,s=>by
  show(if fz (s.setW (tabs.getD (k+1) 0).toNat (au p (3 - (k+1):Nat)).toNat 0) (tabs.getD (k+1) 0)=O then _ else _)=(if _ then _ else _);rw[qE p tabs k]
theorem rz(p:Int)(tabs:List Int){k:Nat}{s:Ms}(h:k=0∨fz s (tabs.getD k 0)=G):kH p tabs k s=(s,[]):=by
 cases k with
 |zero=>rfl
 |succ k=>
  rcases h with h|h
  ·cases h
  ·unfold kH
   rw[if_neg (by rw[h];simp)]
theorem tZ(p:Int)(tabs:List Int){k j:Nat}{s:Ms}(hk:k=j+1)(h:fz s (tabs.getD k 0)=O):
  kH p tabs k s=((kH p tabs j (s.setW (tabs.getD j 0).toNat (au p (3 - j:Nat)).toNat 0)).1,tabs.getD k 0::(kH p tabs j (s.setW (tabs.getD j 0).toNat (au p (3 - j:Nat)).toNat 0)).2):=by
 subst hk;conv=>lhs;unfold kH
 rw[if_pos h]
theorem Agree.takeS{s s':Ms}(h:a2 s s'):a2 s.takeS s'.takeS:=by
 have ht:=h.top;cases hk:s.top with
 |none=>
  have e1:s.takeS=s:=by unfold Ms.takeS;rw[hk]
  have e2:s'.takeS=s':=by unfold Ms.takeS;rw[←ht,hk]
  rw[e1,e2];exact h
 |some k=>
  have hk':s'.top=E k:=by rw[←ht];exact hk
  have e1:s.takeS=s.take k:=by unfold Ms.takeS;rw[hk]
  have e2:s'.takeS=s'.take k:=by unfold Ms.takeS;rw[hk']
  have f1:=gD hk;have f2:=gD hk';rw[h.fr] at f1;rw[e1] at f1⊢;rw[e2] at f2⊢;refine⟨h.n,fun j=> ?_,List.append_cancel_right (f1.trans f2.symm),fun j i hj=> ?_⟩
  ·show bZ s.tk k O j=bZ s'.tk k O j
   unfold bZ;rw[h.tk]
  ·show(if j=k then(0:Int) else s.wd j i)=(if j=k then(0:Int) else s'.wd j i)
   by_cases e:j=k
   ·rw[if_pos e,if_pos e]
   ·rw[if_neg e,if_neg e]
    have hj:bZ s.tk k O j=O:=hj;rw[iF _ _ e] at hj;exact h.wd j i hj
theorem Agree.chain{p lw:Int}{sz:Nat}:∀(m:Nat) (s s':Ms) (t:Int),a2 s s'→a2 (dP s p lw sz m t) (dP s' p lw sz m t)
 |0,_,_,_,h=>h.setW _ _ _
 |m+1,s,s',t,h=>by
  have ht:=h.top;unfold Go.Proofs.YtmfheghbgihdmaaGreat.dP;rw[←ht];cases hk:s.top with
  |none=>exact h
  |some k=>
   have hk':s'.top=E k:=by rw[←ht];exact hk
   have e1:s.takeS=s.take k:=by unfold Ms.takeS;rw[hk]
   have e2:s'.takeS=s'.take k:=by unfold Ms.takeS;rw[hk']
   have h2:=h.takeS;rw[e1,e2] at h2;exact Agree.chain m _ _ _ (h2.setW _ _ _)
section
variable {s s':Ms}
theorem Agree.insS(h:a2 s s')(r:Int)(x:Mp):a2 (dQ s r x) (dQ s' r x):=by
 unfold Go.Proofs.YtmfheghbgihdmaaGreat.dQ;rw[←h.insC r x,←h.way r x.page];split
 ·exact Agree.chain _ _ _ _ h
 ·exact h
theorem Agree.allZ(h:a2 s s'){t:Int}(ht:s.has t=O):fz s t=fz s' t:=by
 have e:∀i:Nat,az s t i=az s' t i:=fun i=>h.word ht i;unfold Go.Proofs.YtmfheghbgihdmaaGreat.fz;simp only[e]
theorem Agree.cutR{p:Int}{tabs:List Int}:∀(k:Nat) (s s':Ms),a2 s s'→(∀j,j≤k→s.has (tabs.getD j 0)=O)→a2 (ej p tabs k s).1 (ej p tabs k s').1∧(ej p tabs k s).2=(ej p tabs k s').2
 |0,_,_,h,_=>⟨h.setW _ _ _,rfl⟩
 |k+1,s,s',h,hu=>by
  have h1:a2 (s.setW (tabs.getD (k+1) 0).toNat (au p (3 - (k+1):Nat)).toNat 0) (s'.setW (tabs.getD (k+1) 0).toNat (au p (3 - (k+1):Nat)).toNat 0):=h.setW _ _ _;have hz:=h1.allZ (t:=tabs.getD (k+1) 0) (hu _ (Nat.le_refl _));obtain⟨i1,i2⟩:=Agree.cutR (p:=p) (tabs:=tabs) k _ _ h1 (fun j hj=>hu j (by omega));unfold Go.Proofs.YtmfheghbgihdmaaGreat.ej;rw[←hz];split
  ·exact⟨i1,by rw[i2]⟩
  ·exact⟨h1,rfl⟩
theorem Agree.rem(h:a2 s s')(r p:Int):a2 (dr s r p) (dr s' r p)∧fA s r p=fA s' r p:=by
 unfold dr fA;rw[←h.findC r p,←h.way r p];by_cases hf:Go.Proofs.YtmfheghbgihdmaaGreat.bH s r p=0
 ·rw[if_pos hf,if_pos hf,if_pos hf,if_pos hf]
  have hcode:(Go.Proofs.YtmfheghbgihdmaaGreat.bv s r p).code =0:=by
   unfold Go.Proofs.YtmfheghbgihdmaaGreat.bH at hf;split at hf
   ·rename_i hn;exact absurd hf hn
   ·rename_i hn;simpa using hn
  obtain⟨_,n,hn,_,_,hu⟩:=fh hcode;rw[hn,Nat.add_sub_cancel];refine Agree.cutR n s s' h fun j hj=> ?_;rw[List.getD_eq_getElem?_getD,ag (by omega)];exact hu _ (List.getElem_mem _)
 ·rw[if_neg hf,if_neg hf,if_neg hf,if_neg hf]
  exact⟨h,rfl⟩
theorem Agree.pr(h:a2 s s')(r p ri:Int):a2 (gV s r p ri) (gV s' r p ri)∧iS s r p ri=iS s' r p ri∧li s r p ri=li s' r p ri:=by
 have hc:iS s r p ri=iS s' r p ri:=by unfold iS;rw[h.findC]
 refine⟨?_,hc,?_⟩
 ·unfold gV
  rw[←hc,←h.way r p];split
  ·exact h.setW _ _ _
  ·exact h
 ·unfold li
  rw[←hc,←h.findM r p]
end
theorem pF{p:Int}{tabs:List Int}:∀(k:Nat) {s:Ms},s.Ok→(ej p tabs k s).1.Ok
 |0,_,h=>h.setW _ _ ⟨by omega,by omega⟩
 |k+1,_,h=>by
  unfold Go.Proofs.YtmfheghbgihdmaaGreat.ej;split
  ·exact pF k (h.setW _ _ ⟨by omega,by omega⟩)
  ·exact h.setW _ _ ⟨by omega,by omega⟩
theorem vr{s:Ms}(h:s.Ok)(r p:Int):(dr s r p).Ok :=by
 unfold dr;split
 ·exact pF _ h
 ·exact h
theorem xa{s:Ms}(h:s.Ok)(r p ri:Int):(gV s r p ri).Ok :=by
 unfold gV;split
 ·exact h.setW _ _ (it _ _)
 ·exact h
def aJ(p:Nat)(m:Mp)(ws:Nat→Bool):ae:=
 aa p #[H I m.page,H I m.size,H I m.frame,H I m.rights,V (ws 0),V (ws 1),V (ws 2),V (ws 3)] 169
def eG(ws:Nat→Bool):Bool:= !ws 0&&(!ws 1&&(!ws 2&& !ws 3))
theorem pG(p:Nat)(m:Mp)(ws:Nat→Bool)(R:ae)(w:U)(h:Z w (aJ p m ws*R)):
  al prog 110 #[.pointer (E (N p 0 z))] w fun e w'=>e= .returned (V (eG ws))∧w=w':=by
 have c4:w.cell? (N p 4 z)=E (V (ws 0)):=h.cell 4;have c5:w.cell? (N p 5 z)=E (V (ws 1)):=h.cell 5;have c6:w.cell? (N p 6 z)=E (V (ws 2)):=h.cell 6;have c7:w.cell? (N p 7 z)=E (V (ws 3)):=h.cell 7;go_enter func110,ntmps110;go_wp2;go_ret;exact⟨rfl,rfl⟩
def jI(ws:Nat→Bool)(k:Int):Bool:=decide (0≤k)&&(decide (k<4)&&ws k.toNat)
theorem kI{p:Nat}{m:Mp}{ws:Nat→Bool}{R:ae}{w:U}(h:Z w (aJ p m ws*R))(k:Nat)(hk:k<4):w.cell? ⟨p,4+k,z⟩=E (V (ws k)):=by
 rw[h.cell (4+k)];match k,hk with
 |0,_|1,_|2,_|3,_=>rfl
theorem mL{ws:Nat→Bool}{k:Int}(h:¬(0≤k∧k<4)):jI ws k=G:=by
 unfold jI;by_cases h0:0≤k<;>by_cases h4:k<4<;>simp[h0,h4]
 omega
theorem nW{ws:Nat→Bool}{k:Nat}(h:k<4):jI ws k=ws k:=by
 unfold jI;have h4:(k:Int)<4:=by omega
 simp[h4]
theorem nX(p:Nat)(m:Mp)(ws:Nat→Bool)(k:Int)(R:ae)(w:U)(h:Z w (aJ p m ws*R)):
  al prog 76 #[.pointer (E (N p 0 z)),.int .i64 k] w fun e w'=>e= .returned (V (jI ws k))∧w=w':=by
 by_cases h0:0≤k
 ·by_cases h4:k<4
  ·obtain⟨k,rfl⟩:=Int.eq_ofNat_of_zero_le h0
   have hc:=kI h k (by omega);have hy:=M (nW (ws:=ws) (k:=k) (by omega));go_enter func76,ntmps76;go_wp2;go_ret;exact⟨by rw[hy.out];rfl,rfl⟩
  ·have hy:=M (mL (ws:=ws) (k:=k) (by omega))
   go_enter func76,ntmps76;go_wp2;go_ret;exact⟨by rw[hy.out];rfl,rfl⟩
 ·have hy:=M (mL (ws:=ws) (k:=k) (by omega))
  go_enter func76,ntmps76;go_wp2;go_ret;exact⟨by rw[hy.out];rfl,rfl⟩
theorem sj(R:ae)(w:U)(h:Z w R):
  al prog 53 #[] w fun e w'=>∃p,e= .returned (.pointer (E (N p 0 z)))∧Z w' (aJ p Mp.zero (fun _=>G)*R)∧a6 w w':=by
 have h1:=h.new #[H I 0,H I 0,H I 0,H I 0,V G,V G,V G,V G] 169;go_enter func53,ntmps53;go_wp2;go_ret;exact⟨_,rfl,h1,(Ext.refl w).alloc _⟩
def cP(ws:Nat→Bool)(k:Nat):Nat→Bool:=fun i=>if i=k then G else ws i
theorem nY{p:Nat}{m:Mp}{ws:Nat→Bool}{R:ae}{w:U}(h:Z w (aJ p m ws*R))(k:Nat)(hk:k<4)(b:Bool):
  Z (w.setCell ⟨p,4+k,z⟩ (V b)) (aJ p m (fun i=>if i=k then b else ws i)*R):=by
 have h1:=h.set (4+k) (V b);match k,hk,h1 with
 |0,_,h1|1,_,h1|2,_,h1|3,_,h1=>exact h1
theorem vt(p:Nat)(m:Mp)(ws:Nat→Bool)(k:Int)(R:ae)(w:U)(h:Z w (aJ p m ws*R))(hw:jI ws k=O):
  al prog 108 #[.pointer (E (N p 0 z)),.int .i64 k] w (cN (.tuple #[m.val,V O]) (aJ p m (cP ws k.toNat)*R) w):=by
 have c0:w.cell? (N p 0 z)=E (H I m.page):=h.cell 0;have c1:w.cell? (N p 1 z)=E (H I m.size):=h.cell 1;have c2:w.cell? (N p 2 z)=E (H I m.frame):=h.cell 2;have c3:w.cell? (N p 3 z)=E (H I m.rights):=h.cell 3;have hlt:p<w.heap.size:=h.lt;have ha:=h.alloc (.cells #[H I 0,H I 0,H I 0,H I 0] 39);have hk:0≤k∧k<4:=by
  by_cases hk:0≤k∧k<4
  ·exact hk
  ·rw[mL hk] at hw;cases hw
 obtain⟨hk0,hk4⟩:=hk;obtain⟨k,rfl⟩:=Int.eq_ofNat_of_zero_le hk0;have hf:=h.free (4+k);have hc:=kI h k (by omega);have hs:=nY h k (by omega) G;go_enter func108,ntmps108;go_wp2_with(go_at_call 76;refine(nX p m ws _ _ _ ha).mono ?_;rintro e w' ⟨rfl,rfl⟩)
 exact Y (v:= .tuple #[m.val,V O]) (by simp[results,results108,go_sem]) rfl ⟨rfl,hs.alloc _,((Ext.refl w).set _ _).alloc _⟩
theorem xb(p:Nat)(m:Mp)(ws:Nat→Bool)(k:Int)(R:ae)(w:U)(h:Z w (aJ p m ws*R))(hw:jI ws k=G):
  al prog 108 #[.pointer (E (N p 0 z)),.int .i64 k] w (cN (.tuple #[.agg #[H I 0,H I 0,H I 0,H I 0],V G]) (aJ p m ws*R) w):=by
 have ha:=h.alloc (.cells #[H I 0,H I 0,H I 0,H I 0] 39);go_enter func108,ntmps108;go_wp2_with(go_at_call 76;refine(nX p m ws _ _ _ ha).mono ?_;rintro e w' ⟨rfl,rfl⟩)
 exact Y (v:= .tuple #[.agg #[H I 0,H I 0,H I 0,H I 0],V G]) (by simp[results,results108,go_sem]) rfl ⟨rfl,ha,(Ext.refl w).alloc _⟩
def fj(n:Nat):Nat→Bool:=fun i=>decide (i<n)
theorem nZ{ws:Nat→Bool}(h:eG ws=O):ws 0=G∧ws 1=G∧ws 2=G∧ws 3=G:=by
 unfold eG at h;simpa using h
theorem sk{p:Nat}{x:Mp}{j:Nat}{R:ae}{w:U}(h:Z w (aJ p x (fj j)*R))(hj:j<4):Z (w.setCell ⟨p,4+j,z⟩ (V O)) (aJ p x (fj (j+1))*R):=by
 have h1:=nY h j hj O;have e:(fun i=>if i=j then O else fj j i)=fj (j+1):=by
  funext i
  unfold fj;by_cases hi:i=j
  ·simp[hi]
  ·simp only[hi,if_false]
   by_cases h2:i<j<;>simp[h2]<;>omega
 rwa [e] at h1
theorem qF{p:Nat}{m x:Mp}{ws:Nat→Bool}{R:ae}{w:U}(h:Z w (aJ p m ws*R))(ho:eG ws=O):
  Z ((((w.setCell (N p 0 z) (H I x.page)).setCell (N p 1 z) (H I x.size)).setCell (N p 2 z) (H I x.frame)).setCell (N p 3 z) (H I x.rights)) (aJ p x (fj 0)*R):=by
 obtain⟨h0,h1,h2,h3⟩:=nZ ho;have:=(((h.set 0 (H I x.page)).set 1 (H I x.size)).set 2 (H I x.frame)).set 3 (H I x.rights);rw[h0,h1,h2,h3] at this;exact this
theorem ua(p:Nat)(m x:Mp)(ws:Nat→Bool)(k:Nat)(R:ae)(w:U)(h:Z w (aJ p m ws*R))(ho:eG ws=O)(hk1:1≤k)(hk4:k≤4):
  al prog 156 #[.pointer (E (N p 0 z)),.agg #[H I x.page,H I x.size,H I x.frame,H I x.rights],.int .i64 k] w
   (cN (V O) (aJ p x (fj k)*R) w):=by
 have hlt:p<w.heap.size:=h.lt;have ha:=h.alloc (.cells #[H I x.page,H I x.size,H I x.frame,H I x.rights] 39);have hb:=qF (x:=x) h ho;have f0:=h.free 0;have f1:=h.free 1;have f2:=h.free 2;have f3:=h.free 3;have c0:w.cell? (N p 0 z)=E (H I m.page):=h.cell 0;have c1:w.cell? (N p 1 z)=E (H I m.size):=h.cell 1;have c2:w.cell? (N p 2 z)=E (H I m.frame):=h.cell 2;have c3:w.cell? (N p 3 z)=E (H I m.rights):=h.cell 3;go_enter func156,ntmps156;go_wp2_with(go_at_call 110;refine(pG p m ws _ _ ha).mono ?_;rintro e w' ⟨rfl,rfl⟩)
 go_loopw [7,24,25,26,27,28,29,30,31,32] (fun _ t _ _ _ _ _ _ _ _ wr=>∃j:Nat,j≤k∧t=H I j∧Z wr (aJ p x (fj j)*R)∧a6 w wr) (fun _ t _ _ _ _ _ _ _ _ _=>k - (intOf t).toNat)
 case atStart=>exact⟨0,Nat.zero_le _,rfl,hb.alloc _,((((Ext.refl w).set _ _).set _ _).set _ _).set _ _ |>.alloc _⟩
 case round=>
  obtain⟨j,hj,rfl,hr,hx⟩:=hrel;clear hb ha c0 c1 c2 c3 f0 f1 f2 f3 hlt;by_cases hlt:j<k
  ·have hf:=hr.free (4+j)
   have hc:=kI hr j (by omega);have hs:=sk hr (by omega);go_wp2;go_roundw
   case rel=>exact⟨j+1,by omega,by go_num,hs,hx.set _ _⟩
   case measure=>simp[intOf];omega
  ·obtain rfl:j=k:=by omega
   go_wp2;go_ret;exact⟨rfl,hr,hx⟩
structure Ev where
 code:Int
 fin:Bool
 an:An
 back:Bool
 deriving DecidableEq
def Ev.no(c:Int):Ev:=⟨c,G,An.zero,G⟩
structure Cr where
 l:List Ln
 k:Ck
def Cr.zero:Cr:=⟨[],Ck.zero⟩
structure Sc where
 s:Ms
 cs:List Cr
 told:Mp
 wait:Nat→Bool
 busy:Bool
 gone:List Int
namespace Sc
def new(cores n:Nat):Sc:=⟨(Ms.new n).takeS,List.replicate cores Cr.zero,Mp.zero,fun _=>G,G,[]⟩
def core(σ:Sc)(k:Nat):Cr:=σ.cs.getD k Cr.zero
def post(σ:Sc)(s:Ms)(m:Mp)(g:List Int):Sc:={σ with s:=s,told:=m,wait:=fj σ.cs.length,busy:=O,gone:=g}
def change(σ:Sc)(x:Stp):Sc×Ev:=
 if σ.busy=O then(σ,.no 8)
 else if x.kind=1 then({σ with s:=dQ σ.s 0 x.m},⟨dd σ.s 0 x.m,G,An.zero,decide (dd σ.s 0 x.m=0)⟩)
 else if x.kind=2 then
  if bH σ.s 0 x.m.page=0 then(σ.post (dr σ.s 0 x.m.page) (bR σ.s 0 x.m.page) (fA σ.s 0 x.m.page),.no 0) else(σ,.no (bH σ.s 0 x.m.page))
 else if iS σ.s 0 x.m.page x.m.rights=0 then(σ.post (gV σ.s 0 x.m.page x.m.rights) (li σ.s 0 x.m.page x.m.rights) [],.no 0)
 else(σ,.no (iS σ.s 0 x.m.page x.m.rights))
def put(σ:Sc)(k:Nat)(c:Cr):Sc:={σ with cs:=σ.cs.set k c}
def heed(σ:Sc)(k:Nat):Sc:={σ with cs:=σ.cs.set k ⟨Tl.drop (σ.core k).l σ.told,(σ.core k).k.again 0⟩,wait:=cP σ.wait k}
def over(σ:Sc):Sc:={σ with s:=bI σ.s σ.gone,busy:=G,gone:=[]}
def ack(σ:Sc)(k:Nat):Sc×Ev:=
 if σ.wait k=G then(σ,.no 9)
 else if eG (σ.heed k).wait =O then((σ.heed k).over,⟨0,G,An.zero,O⟩)
 else(σ.heed k,.no 0)
def access(σ:Sc)(k:Nat)(a:Ac):Sc×Ev:=
 (σ.put k ⟨(σ.core k).l,(db (σ.core k).l 0 (σ.core k).k a).c⟩,⟨(db (σ.core k).l 0 (σ.core k).k a).code,(db (σ.core k).l 0 (σ.core k).k a).fin,(db (σ.core k).l 0 (σ.core k).k a).an,G⟩)
def walk(σ:Sc)(k:Nat):Sc×Ev:=
 ({σ.put k ⟨ge (σ.core k).l (aU σ.s 0 (σ.core k).k).r,(aU σ.s 0 (σ.core k).k).c⟩ with s:=(aU σ.s 0 (σ.core k).k).s},
  ⟨(aU σ.s 0 (σ.core k).k).code,(aU σ.s 0 (σ.core k).k).r.fin,(aU σ.s 0 (σ.core k).k).r.an,G⟩)
def evict(σ:Sc)(k:Nat):Sc×Ev:=
 if(σ.core k).l =[] then(σ,.no 9) else(σ.put k ⟨Tl.evict (σ.core k).l,(σ.core k).k⟩,.no 0)
def act(σ:Sc)(x:Stp):Sc×Ev:=
 if 1≤x.kind∧x.kind≤3 then σ.change x
 else if x.kind<1∨7<x.kind then(σ,.no 2)
 else if x.core<0∨(σ.cs.length:Int)≤x.core then(σ,.no 1)
 else if x.kind=4 then σ.access x.core.toNat x.a
 else if x.kind=5 then σ.walk x.core.toNat
 else if x.kind=6 then σ.ack x.core.toNat
 else σ.evict x.core.toNat
def on(σ:Sc)(k:Int):Bool:=decide (0≤k)&&(decide (k<σ.cs.length)&&(σ.core k.toNat).k.on)
def acc(σ:Sc)(k:Int):Ac:=if σ.on k=O then(σ.core k.toNat).k.a else Ac.zero
def kept(σ:Sc)(k:Int):List Ln:=if 0≤k∧k<σ.cs.length then(σ.core k.toNat).l else []
structure Ok (σ:Sc):Prop where
 s:σ.s.Ok
 c:∀c∈σ.cs,Tl.Ok c.l∧c.k.Ok
 few:σ.cs.length≤4
 one:1≤σ.cs.length
 w:∀i,σ.cs.length≤i→σ.wait i=G
 told:σ.told.ok
theorem core_ok{σ:Sc}(h:σ.Ok)(k:Nat):Tl.Ok (σ.core k).l ∧(σ.core k).k.Ok :=by
 unfold core;rw[List.getD_eq_getElem?_getD];cases hk:σ.cs[k]? with
 |none=>exact⟨Tl.Ok.nil,Ck.Ok.zero⟩
 |some c=>exact h.c c (List.mem_of_getElem? hk)
theorem put_len(σ:Sc)(k:Nat)(c:Cr):(σ.put k c).cs.length =σ.cs.length:=List.length_set ..
theorem mem_set{cs:List Cr}{k:Nat}{c x:Cr}(h:x∈cs.set k c):x=c∨x∈cs:=(List.mem_or_eq_of_mem_set h).symm
theorem Ok.put{σ:Sc}(h:σ.Ok)(k:Nat){c:Cr}(h1:Tl.Ok c.l)(h2:c.k.Ok):(σ.put k c).Ok :=
 ⟨h.s,fun x hx=>by rcases mem_set hx with rfl|hx;exact⟨h1,h2⟩;exact h.c x hx,by rw[put_len];exact h.few,by rw[put_len];exact h.one,fun i hi=>h.w i (by rw[put_len] at hi;exact hi),h.told⟩
theorem mp_ok_zero:Mp.zero.ok:=by
 refine⟨?_,?_,?_,?_⟩<;>(show cy 0;unfold cy;omega)
end Sc
open Go.RowKit Go.Shelf
attribute [local go_sem] Oper.semAt_some
def iE(m:List Int)(k:Nat):List (Int×Int):=(List.range k).map fun(j:Nat)=>(((m.length:Int) - 1 - (j:Int)),m[m.length - 1 - j]?.getD 0)
theorem qG(m:List Int)(k:Nat):iE m (k+1)=iE m k++[(((m.length:Int) - 1 - k),m[m.length - 1 - k]?.getD 0)]:=by simp[iE,List.range_succ]
theorem sm(m:List Int)(k:Nat):(iE m k).length =k:=by simp[iE]
theorem sn(m:List Int):(iE m m.length).map Prod.snd=m.reverse:=by
 unfold iE;rw[List.map_map];apply List.ext_getElem
 ·simp
 ·intro i h1 h2
  simp at h1 h2⊢;rw[ag (by omega)];rfl
structure KpT (T:Nat→Prop) (A B:U):Prop where
 same:∀b,T b→B.heap[b]? =A.heap[b]?
theorem KpT.refl(T:Nat→Prop)(A:U):KpT T A A:=⟨fun _ _=>rfl⟩
theorem KpT.trans{T:Nat→Prop}{A B C:U}(h:KpT T A B)(k:KpT T B C):KpT T A C:=⟨fun b hb=>(k.same b hb).trans (h.same b hb)⟩
theorem KpT.cell{T:Nat→Prop}{A B:U}(h:KpT T A B){b o:Nat}(hb:T b):B.cell? (N b o z)=A.cell? (N b o z):=by
 have:=h.same b hb;unfold World.cell?;simp only[this]
set_option maxHeartbeats 2000000 in
theorem yQ(n:Nat)(hn:1≤n)(l Bs c:Nat)(A:Option a7)(m:List Int)(hm:m.length≤9223372036854775807)(T:Nat→Prop)(hT:T Bs)(J Jx:List (Int×Int)→U→Prop)
  (hY:∀pre x W,J pre W→pre.length<m.length→YieldAt Fence.wide (n - 1) prog l #[H I x.1,H I x.2] W fun e W'=>
   (e= .returned (.bool O)∧J (pre++[x]) W'∧KpT T W W')∨(e= .returned (.bool G)∧Jx (pre++[x]) W'))
  (W:U) (hBs:W.cell? (N Bs 0 z)=E (.slice A m.length c)) (hc:∀j,(hj:j<m.length)→∃b,A=E (N b 0 z)∧T b∧W.cell? (N b j z)=E (H I m[j])) (h0:J [] W):
  CallsIn Fence.wide n prog 194 #[.func (.yield l) #[] #[],.pointer (E (N Bs 0 z))] W fun e W'=>(∃v,e= .returned v)∧
   ((∃ys,ys=iE m m.length∧J ys W')∨(∃pre,(∃k,k≤m.length∧pre=iE m k)∧Jx pre W')):=by
 refine callsIn_of_wp func194 rfl trivial ?_ rfl;simp only[ntmps194,List.size_toArray,List.length_cons,List.length_nil,Nat.reduceAdd,Nat.reduceSub,Array.replicate_succ,Array.replicate_zero,List.push_toArray,List.append_toArray,List.nil_append,List.cons_append];gi_wp2
 gi_loopw [3] (fun i wr=>∃q:Nat,q≤m.length∧i=H I ((q:Int) - 1)∧J (iE m (m.length - q)) wr∧KpT T W wr)
  (fun i _=>(intOf i+1).toNat)
 case atStart=>exact⟨m.length,Nat.le_refl _,by go_num,by rw[Nat.sub_self];exact h0,KpT.refl _ _⟩
 case round=>
  obtain⟨q,hq,hi,hJs,hnx⟩:=hrel;have hBs':=(hnx.cell hT).trans hBs;cases q with
  |zero=>
   obtain rfl:=hi;gi_wp2
   go_end0
   exact⟨⟨_,rfl⟩,.inl ⟨_,rfl,hJs⟩⟩
  |succ j=>
   have hij:((j+1:Nat):Int) - 1=(j:Int):=by omega
   rw[hij] at hi;subst hi;obtain⟨b,hA,hTb,hcb⟩:=hc j (by omega);have hcx:=(hnx.cell hTb).trans hcb;have hji:(j:Int)<m.length:=by omega
   have hk1:m.length - j=m.length - (j+1)+1:=by omega
   have hsx:iE m (m.length - j)=iE m (m.length - (j+1))++[((j:Int),m[j])]:=by
    rw[hk1,qG];have e1:m.length - 1 - (m.length - (j+1))=j:=by omega
    rw[e1,ag (by omega)];congr 2
    simp;omega
   obtain⟨fn,tmps,assign,body,hy,hR⟩:=hY _ ((j:Int),m[j]) _ hJs (by rw[sm];omega);dsimp only at hy;subst hA;gi_wp2
   refine hR.mono ?_;rintro e W3 (⟨rfl,hJ3,hk3⟩|⟨rfl,hJx3⟩)
   ·gi_wp2
    go_roundw
    case rel=>exact⟨j,by omega,by go_num,by rw[hsx];exact hJ3,hnx.trans hk3⟩
    case measure=>first|(simp[intOf];done)|(simp[intOf];omega)
   ·gi_wp2
    refine Y (results_none rfl _ _ _) rfl ?_;exact⟨⟨_,rfl⟩,.inr ⟨_,⟨m.length - j,by omega,hsx.symm⟩,hJx3⟩⟩
theorem qH(n:Nat)(hn:1≤n)(Bs c:Nat)(A:Option a7)(m:List Int)(hm:m.length≤9223372036854775807)(T:Nat→Prop)(hT:T Bs)(w:U)(hB:Bs<w.heap.size)(hBs:w.cell? (N Bs 0 z)=E (.slice A m.length c))(hc:∀j,(hj:j<m.length)→∃b,A=E (N b 0 z)∧b<w.heap.size∧T b∧w.cell? (N b j z)=E (H I m[j])):
  SeqStopsK Fence.wide n prog 194 #[.pointer (E (N Bs 0 z))] (fun x:Int×Int=> #[H I x.1,H I x.2]) (KpT T) (fun xs=>xs=iE m m.length) (fun pre=>∃k,k≤m.length∧pre=iE m k) m.length w:=by
 intro l J Jx W hW hJ hJx hY h0;refine yQ n hn l Bs c A m hm T hT J Jx hY W ((hW.cell (p:=(N Bs 0 z)) hB).trans hBs) (fun j hj=> ?_) h0;obtain⟨b,h1,h2,h3,h4⟩:=hc j hj;exact⟨b,h1,h3,(hW.cell (p:=(N b j z)) h2).trans h4⟩
theorem oE(A:Option a7)(n c:Nat)(w:U):al prog 181 #[.slice A n c] w fun e w'=>e= .returned (.func (.func 194) #[] #[.pointer (E (N w.heap.size 0 z))])∧w'=w.alloc (.cells #[.slice A n c] 45):=by
 have hmf:∀(fn:Fn) (first cap:Array a3) (w:U),(Instr.makeFunc fn first cap).run prog w= .ok (.func fn first cap) w:=fun _ _ _ _=>rfl;go_enter func181,ntmps181;go_wp2_with fail
 go_ret;exact⟨rfl,rfl⟩
open Go.RowKit Hpm
def fT(x:Hp):ae:=fun h=>h=x
def AllCells(P:ae):Prop:=∀h,P h→∀b o,h b=E o→o.isCells=O
theorem AllCells.star{P Q:ae}(hp:AllCells P)(hq:AllCells Q):AllCells (P*Q):=by
 rintro h ⟨h1,h2,d,rfl,p,q⟩ b o e;simp only[union] at e;cases e1:h1 b with
 |none=>rw[e1] at e;exact hq h2 q b o (by simpa using e)
 |some x=>rw[e1] at e;simp at e;subst e;exact hp h1 p b x e1
theorem AllCells.ex{α:Type}{P:α→ae}(h:∀x,AllCells (P x)):AllCells (ex P):=fun k ⟨x,p⟩=>h x k p
theorem AllCells.blk(b:Nat)(cs:Array a3)(t:TypeId):AllCells (aa b cs t):=by
 rintro h rfl k o e;simp only[single] at e;split at e
 ·injection e with e;subst e;rfl
 ·cases e
theorem AllCells.row(e size:Nat)(v:a3)(n:Nat)(xs:List a3):AllCells (cj e size v n xs):=by
 rintro h ⟨_,⟨_,_,rfl⟩|⟨g,cap,cur,_,_,_,_,_,hb⟩⟩ b o ho
 ·cases ho
 ·exact AllCells.blk _ _ _ h hb b o ho
theorem AllCells.lift(p:Prop):AllCells (ei p):=by
 rintro h ⟨_,rfl⟩ b o e;cases e
theorem jJ(f:Nat)(s:Ms):AllCells (aj f s):=by
 unfold aj;refine AllCells.ex fun g=>AllCells.ex fun vf=> ?_;unfold bX;exact(AllCells.blk _ _ _).star ((AllCells.blk _ _ _).star ((AllCells.row _ _ _ _ _).star (AllCells.lift _)))
theorem so{w:U}{P R:ae}(h:Z w (P*R)):∃x,R x∧Z w (P*fT x)∧sub x (fun b=>w.heap[b]?):=by
 obtain⟨_,s,h1,h2,d,rfl,p,r⟩:=h;exact⟨h2,r,⟨_,s,h1,h2,d,rfl,p,rfl⟩,sub_union_right d s⟩
theorem lu{w:U}{P:ae}{x:Hp}(h:Z w (P*fT x)):sub x (fun b=>w.heap[b]?):=by
 obtain⟨_,s,h1,h2,d,rfl,p,r⟩:=h;have r:h2=x:=r;subst r;exact sub_union_right d s
theorem qI{w:U}{P R:ae}{x:Hp}(h:Z w (P*fT x))(r:R x):Z w (P*R):=by
 obtain⟨_,s,h1,h2,d,rfl,p,e⟩:=h;have e:h2=x:=e;subst e;exact⟨_,s,h1,h2,d,rfl,p,r⟩
theorem uc{w:U}{P:ae}{x:Hp}(h:Z w (P*fT x))(hc:AllCells P):∃y,sub x y∧Z w (P*fT y)∧∀b o,w.heap[b]? =E o→o.isCells=G→y b=E o:=by
 obtain⟨_,s,h1,h2,d,rfl,p,e⟩:=h;have e:h2=x:=e;subst e;refine⟨fun b=>if(h1 b).isSome then z else w.heap[b]?,?_,⟨_,?_,h1,_,?_,rfl,p,rfl⟩,?_⟩
 ·intro b o e
  have hb:h1 b=z:=by
   rcases d b with h|h
   ·exact h
   ·rw[h] at e;cases e
  show(if(h1 b).isSome then z else w.heap[b]?)=E o;rw[hb];exact sub_union_right d s b o e
 ·refine sub_union (sub_union_left s) fun b o e=> ?_
  replace e:(if(h1 b).isSome then z else w.heap[b]?)=E o:=e;split at e
  ·cases e
  ·exact e
 ·intro b
  cases hb:h1 b with
  |none=>exact .inl rfl
  |some o=>right;simp[hb]
 ·intro b o e ho
  show(if(h1 b).isSome then z else w.heap[b]?)=E o;cases hb:h1 b with
  |none=>exact e
  |some o'=>
   have h3:=sub_union_left s b o' hb;have h4:w.heap[b]? =E o':=h3;rw[e] at h4;injection h4 with h4
   subst h4;rw[hc h1 p b o hb] at ho;cases ho
theorem qJ{w:U}{P:ae}{x y:Hp}(h:Z w (P*fT y))(hs:sub x y):Z w (P*fT x):=by
 obtain⟨_,s,h1,h2,d,rfl,p,e⟩:=h;have e:h2=y:=e;subst e;refine⟨_,sub_union (sub_union_left s) (fun b o hb=>sub_union_right d s b o (hs b o hb)),h1,x,fun b=> ?_,rfl,p,rfl⟩;rcases d b with h|h
 ·exact .inl h
 ·right
  cases hx:x b with
  |none=>rfl
  |some o=>rw[hs b o hx] at h;cases h
theorem lO{w w':U}{P:ae}{x:Hp}{cj:Option Nat}(h:Z w (P*fT x))(hc:AllCells P)(hg:w.grownBy w' cj)(hr:∀r,cj=E r→x r=z∧∃o:Obj,w.heap[r]? =E o∧o.isCells=G):Z w' (P*fT x):=by
 obtain⟨_,s,h1,h2,d,rfl,p,e⟩:=h;have e:h2=x:=e;subst e;refine⟨_,fun b o hb=> ?_,h1,h2,d,rfl,p,rfl⟩;have h3:w.heap[b]? =E o:=s b o hb;have hlt:b<w.heap.size:=(Array.getElem?_eq_some_iff.1 h3).1;show w'.heap[b]? =E o;rw[hg.block b hlt ?_]
 ·exact h3
 ·intro e
  obtain⟨hx,o',ho',hcl⟩:=hr b e.symm;simp only[union] at hb;cases hb1:h1 b with
  |none=>rw[hb1,hx] at hb;cases hb
  |some o1=>
   have h4:=sub_union_left s b o1 hb1;have h4:w.heap[b]? =E o1:=h4;rw[ho'] at h4;injection h4 with h4
   subst h4;rw[hc h1 p b o' hb1] at hcl;cases hcl
theorem qK{P:Program}{fn:Nat}{args:Array a3}{v:a3}{A B:ae}{x:Hp}{w:U}(hc:AllCells A)(h:Z w (A*fT x))
  (hcall:∀R,Z w (A*R)→al P fn args w (cN v (B*R) w)) (Bd:Nat):
  al P fn args w fun e w'=>e= .returned v∧Z w' (B*fT x)∧a6 w w'∧KeepsFrom Bd w w'∧KpT (fun b=>(x b).isSome =O) w w':=by
 obtain⟨y,hs,hy,hall⟩:=uc h hc;refine(hcall _ hy).mono fun e w' ⟨he,hB,hx⟩=>⟨he,qJ hB hs,hx,⟨hx.size,fun k o _ hk ho=>lu hB k o (hall k o hk ho)⟩,⟨fun b hb=> ?_⟩⟩;obtain⟨o,ho⟩:=Option.isSome_iff_exists.1 hb;have h1:w'.heap[b]? =E o:=lu hB b o (hs b o ho);have h2:w.heap[b]? =E o:=lu h b o ho;rw[h1,h2]
open Go.RowKit Go.Shelf Hpm
attribute [local go_sem] Oper.semAt_some
theorem mM{P:Program}{f:FuncId}{fn:Func}{c:Code}{args:Array a3}{w:U}{R:Ending→U→Prop}(hf:P.funcs[f]? =E fn)(hb:fn.body=E c)
  (h:c.wp P (bodyPostM Fence.wide 9 P fn R) {tmps:=args++Array.replicate (fn.ntmps - args.size) undef,defers:=[]} w):al P f args w R:=
 (callsIn_wide (n:=9)).1 (callsIn_of_wp_marks (F:=Fence.wide) (n:=9) hf hb trivial (wpIn_wide.2 h) rfl)
theorem sq{P:Program}{fn:Func}{R:Ending→U→Prop}{a:Act}{w:U}{v:a3}(hr:(results fn a.tmps).run P w= .ok v w)(hd:a.defers=[])(hR:R (.returned v) w):bodyPostM Fence.wide 9 P fn R .ret a w:=by
 show LeavesInM Fence.wide 9 P fn a.tmps R a.defers .returning w;rw[hd];unfold LeavesInM LeavesIn;exact⟨v,hr,hR⟩
def yR(Q:Exit→Act→U→Prop):Exit→Act→U→Prop
 | .panic _,_,_=>False
 |e,a,w=>Q e a w
theorem vu{P:Program}{c:Code}{Q:Exit→Act→U→Prop}{a:Act}{w:U}(h:c.wp P (yR Q) a w):c.wp P Q a w:=
 Code.wp_mono (fun e _ _ h=>by cases e<;>first|exact h|exact h.elim) h
theorem ud{b:Nat}{cs:Array a3}{t:TypeId}{R:ae}{x:Hp}(h:(aa b cs t*R) x):(x b).isSome =O:=by
 obtain⟨h1,h2,d,rfl,p,r⟩:=h;have p:h1=single b (.cells cs t (0,0)):=p;subst p;simp[union,single]
theorem ue{g:Nat}{e size n m c:Nat}{xs:List a3}{R:ae}{x:Hp}(h:(cj e size (.slice (E (N g 0 z)) m c) n xs*R) x):(x g).isSome =O:=by
 obtain⟨h1,h2,d,rfl,⟨_,⟨hv,_⟩|⟨g',cap,cur,hv,_,_,_,_,hb⟩⟩,r⟩:=h
 ·injection hv with e;cases e
 ·injection hv with e
  injection e with e
  injection e with e
  subst e;have hb:h1=single _ _:=hb;subst hb;simp[union,single]
def yS(b f n:Nat)(s:Ms)(R:ae)(w:U)(e:Ending)(w':U):Prop:=
 (n≤s.frees.length∧∃A c,cN (V O) (aa b #[.pointer (E (N f 0 z)),.slice A n c] 224*(cj 3 1 (.slice A n c) n ((fg s n).map (H I))*(aj f (ba s n)*R))) w e w')∨
 (s.frees.length<n∧∃s',s'.Ok∧a2 s' s∧cN (V G) (aj f s'*R) w e w')
set_option maxHeartbeats 4000000 in
theorem yT(b f:Nat)(s:Ms)(hs:s.Ok)(n:Nat)(hn:n≤3)(R:ae)(w:U)(h:Z w (aa b #[.pointer (E (N f 0 z)),.slice z 0 0] 224*(aj f s*R))):
  al prog 150 #[.pointer (E (N b 0 z)),H I n] w (yS b f n s R w):=by
 have h1:Z _ (aa w.heap.size #[.pointer (E (N b 0 z))] 222*(aa b #[.pointer (E (N f 0 z)),.slice z 0 0] 224*(cj 3 1 (.slice z 0 0) 0 ((fg s 0).map (H I))*(aj f (ba s 0)*R)))):=(Has.rowNil (e:=3) (size:=1) (h.new #[.pointer (E (N b 0 z))] 222)).p2.eq (congrArg _ (av _ _ _));have x1:=(Ext.refl w).alloc (.cells #[.pointer (E (N b 0 z))] 222);clear h;refine mM func150 rfl ?_;simp only[ntmps150,List.size_toArray,List.length_cons,List.length_nil,Nat.reduceAdd,Nat.reduceSub,Array.replicate_succ,Array.replicate_zero,List.push_toArray,List.append_toArray,List.nil_append,List.cons_append];go_upto_region 1 with fail;generalize w.alloc _=w1 at*
 generalize w.heap.size=X at*
 go_wp2_with fail
 go_loopw [9] (fun t9 wr=>∃(i:Nat) (A:Option a7) (c:Nat),i≤n∧i≤s.frees.length∧t9=H I i∧Z wr (aa X #[.pointer (E (N b 0 z))] 222*(aa b #[.pointer (E (N f 0 z)),.slice A i c] 224*(cj 3 1 (.slice A i c) i ((fg s i).map (H I))*(aj f (ba s i)*R))))∧a6 w wr) (fun t9 _=>n - (intOf t9).toNat)
 case atStart=>exact⟨0,z,0,by omega,by omega,rfl,h1,x1⟩
 case round=>
  clear h1 x1;obtain⟨i,A,c,hi,hif,rfl,hr,hx⟩:=hrel;by_cases hlt:i<n
  ·have HT:=M (fun R w h=>wm f (ba s i) R w h (gC hs i))
   have htop:=rW hif;have c0:=hr.cell 0;have cl:=hr.lt;obtain⟨b0,b1⟩:=hr.right.cells2;have bl:=hr.right.lt;have h2:Z wr (aj f (ba s i)*(aa X #[.pointer (E (N b 0 z))] 222*(aa b #[.pointer (E (N f 0 z)),.slice A i c] 224*(cj 3 1 (.slice A i c) i ((fg s i).map (H I))*R)))):=hr.eq (by ac_rfl);have hts:fg s (i+1)=fg s i++[(ba s i).topV]:=rfl;have hns:ba s (i+1)=(ba s i).takeS :=rfl;by_cases hneg:(ba s i).topV <0
   ·have hie:=htop.1 hneg
    have hno:(ba s i).top =z:=by
     cases ht:(ba s i).top with
     |none=>rfl
     |some k=>unfold Ms.topV at hneg;rw[ht] at hneg;exact absurd hneg (by simp)
    have hstk:(ba s i).takeS =ba s i:=by unfold Ms.takeS;rw[hno]
    rw[hstk] at HT;have HAG:=M (mB hs i hif);have HOK:=M (fun l=>mA (gC hs i) l);have hml:=jD s i;have hlt2:s.frees.length<n:=by omega
    have HLT:=M hlt2;clear hr hts hns htop hno hstk hie hlt2;generalize (ba s i).topV =k at*
    generalize ba s i=s1 at*
    generalize fg s i=m at*
    subst hml;go_wp2_with fail
    refine(HT.out _ _ h2).mono ?_;rintro e w3 ⟨rfl,h3,x3⟩;have x4:=hx.trans x3;clear c0 cl b0 b1 bl h2 hx x3 HT;have c0:=h3.right.cell 0;have cl:=h3.right.lt;obtain⟨b0,b1⟩:=h3.right.right.cells2;have bl:=h3.right.right.lt;go_wp2_with fail
    refine(oE A m.length c w3).mono ?_;rintro e w4 ⟨rfl,rfl⟩;have h4:Z (w3.alloc (.cells #[.slice A m.length c] 45)) (aj f s1*(aa w3.heap.size #[.slice A m.length c] 45*(aa X #[.pointer (E (N b 0 z))] 222*(aa b #[.pointer (E (N f 0 z)),.slice A m.length c] 224*(cj 3 1 (.slice A m.length c) m.length (m.map (H I))*R))))):=(h3.new #[.slice A m.length c] 45).eq (by ac_rfl);have x5:=x4.alloc (.cells #[.slice A m.length c] 45);clear h3 x4 c0 cl b0 b1 bl;go_wp2_with fail
    generalize w3.alloc _=w5 at*
    generalize w3.heap.size=Bs at*
    obtain⟨x,hx,h5,hsub⟩:=so h4;have hbk:=M (fun(w':U) (s':Ms) (h:Z w' (aj f s'*fT x))=>qI h hx);have hT1:(x Bs).isSome =O:=ud hx;have hxlt:∀b,(x b).isSome =O→b<w5.heap.size:=fun b hb=>by
     obtain⟨o,ho⟩:=Option.isSome_iff_exists.1 hb;exact(Array.getElem?_eq_some_iff.1 (hsub b o ho)).1
    have hcell:∀j,(hj:j<m.length)→∃b,A=E (N b 0 z)∧b<w5.heap.size∧(x b).isSome =O∧w5.cell? (N b j z)=E (H I m[j]):=fun j hj=>by
     have h6:Z w5 (cj 3 1 (.slice A m.length c) m.length (m.map (H I))*(aj f s1*(aa Bs #[.slice A m.length c] 45*(aa X #[.pointer (E (N b 0 z))] 222*(aa b #[.pointer (E (N f 0 z)),.slice A m.length c] 224*R))))):=h4.eq (by ac_rfl);obtain⟨b',e,hb,hc,_⟩:=Has.rowGet (e:=3) (size:=1) h6 (i:=j) (u:=H I m[j]) (by simp[hj]);subst e;refine⟨b',rfl,hb,?_,hc⟩;have h7:(cj 3 1 (.slice (E (N b' 0 z)) m.length c) m.length (m.map (H I))*(aa Bs #[.slice (E (N b' 0 z)) m.length c] 45*(aa X #[.pointer (E (N b 0 z))] 222*(aa b #[.pointer (E (N f 0 z)),.slice (E (N b' 0 z)) m.length c] 224*R)))) x:=by
      have e:(aa Bs #[.slice (E (N b' 0 z)) m.length c] 45*(aa X #[.pointer (E (N b 0 z))] 222*(aa b #[.pointer (E (N f 0 z)),.slice (E (N b' 0 z)) m.length c] 224*(cj 3 1 (.slice (E (N b' 0 z)) m.length c) m.length (m.map (H I))*R))))=(cj 3 1 (.slice (E (N b' 0 z)) m.length c) m.length (m.map (H I))*(aa Bs #[.slice (E (N b' 0 z)) m.length c] 45*(aa X #[.pointer (E (N b 0 z))] 222*(aa b #[.pointer (E (N f 0 z)),.slice (E (N b' 0 z)) m.length c] 224*R)))):=by ac_rfl
      exact e▸hx
     exact ue h7
    have hG:=M (fun(s':Ms) (hs':s'.Ok) (k:Int) (w':U) (h:Z w' (aj f s'*fT x))=>qK (P:=prog) (fn:=111) (args:= #[.pointer (E (N f 0 z)),H I k]) (v:=V (s'.has k)) (B:=aj f (s'.giveS k)) (jJ f s') h (fun R h=>wn f s' k R w' h hs') w5.heap.size);clear h4;refine(wpIn_wide (n:=6)).1 ?_;apply wpIn_rangeFunc_ownG (F:=Fence.wide) (n:=6) rfl (by omega) (gf:=194) (lb:= #[.pointer (E (N Bs 0 z))]) rfl trivial (enters_of func194 (by kernel_rfl) rfl) (qH 5 (by omega) Bs c A m (by omega) (fun b=>(x b).isSome =O) hT1 w5 (hxlt _ hT1) ((hbk.out _ _ h5).right.cell 0) hcell) (fun h k=>h.trans k) (fun W l o o' hl hW ho hw=>⟨fun b hb=>World.putObj_heap_other (by have:=hxlt b hb;omega)⟩) (Below.refl _ _) (fun _=>rfl)
     (fun pre W=>Z W (aj f (bI s1 (pre.map Prod.snd))*fT x)∧a6 w W) (fun _ _ _=>False)
     (fun pre W W' cj hs hg hr=>⟨lO hs.1 (jJ _ _) hg (fun r e=>⟨by
      cases hxr:x r with
      |none=>rfl
      |some o=>have:=hxlt r (by rw[hxr];rfl);have:=(hr r e).1;omega,(hr r e).2⟩),hs.2.grown hg⟩)
     (fun _ _ _ _ _ hs _ _=>hs)
     ⟨h5,x5⟩
    case hassign=>
     intro l x W K hK;gi_wp2
     exact hK
    case hbody=>
     rintro l pre y W ⟨hW,hE⟩ _;have h6:=hbk.out W _ hW;have c0:=h6.right.right.cell 0;have cl:=h6.right.right.lt;obtain⟨b0,b1⟩:=h6.r3.cells2;have bl:=h6.r3.lt;have HGk:=M (hG.out _ (HOK.out _) y.2 W hW);gi_wp2_with (refine⟨trivial,?_⟩;gi_at_call 111;refine(CallsIn.inRound l (callsIn_wide.2 HGk.out)).mono ?_;rintro e W2 ⟨rfl,hW2,hE2,hKF,hKT⟩)
     exact⟨hKF,hKT,by rw[List.map_append,List.map_singleton,kC];exact hW2,hE.trans hE2⟩
    case hdone=>
     rintro D ys W hD rfl ⟨hW,hE⟩ hK;rw[sn] at hW;go_wp2_with fail
     refine⟨by simp,.inl ⟨_,_,rfl,run_takeDeferred hK,?_⟩⟩;have hxD:x D=z:=by
      cases hxr:x D with
      |none=>rfl
      |some o=>have:=hxlt D (by rw[hxr];rfl);omega
     have hW2:=lO hW (jJ _ _) (grownBy_putObj' W D (.deferred z)) (fun r e=>by cases e;exact⟨hxD,_,hK,rfl⟩);have hE2:=hE.grown (grownBy_putObj' W D (.deferred z));refine⟨_,results_tmp rfl _ _ _,.inr ⟨HLT.out,_,HOK.out _,HAG.out,rfl,?_,hE2⟩⟩;have h6:=hbk.out _ _ hW2;exact(h6.eq (show _=(aa Bs #[.slice A m.length c] 45*(aa X #[.pointer (E (N b 0 z))] 222*(aa b #[.pointer (E (N f 0 z)),.slice A m.length c] 224*cj 3 1 (.slice A m.length c) m.length (m.map (H I)))))*(aj f (bI s1 m.reverse)*R) by ac_rfl)).right
    case hstop=>
     intro D c pre W _ _ h;exact h.elim
   ·have hif':i<s.frees.length:=by
     have:i≠s.frees.length:=fun e=>hneg (htop.2 e);omega
    have HTS:=M hts;have HNS:=M hns;clear hr hts hns htop;generalize (ba s i).topV =k at*
    generalize hS:(ba s i).takeS =s2 at*
    generalize ba s i=s1 at*
    clear hS;go_wp2_with fail
    refine(HT.out _ _ h2).mono ?_;rintro e w3 ⟨rfl,h3,x3⟩;have x4:=hx.trans x3;have h4:Z w3 (cj 3 1 (.slice A i c) i ((fg s i).map (H I))*(aa X #[.pointer (E (N b 0 z))] 222*(aa b #[.pointer (E (N f 0 z)),.slice A i c] 224*(aj f s2*R)))):=h3.eq (by ac_rfl);clear c0 cl b0 b1 bl h2 h3 hx x3 HT;have c0:=h4.right.cell 0;have cl:=h4.right.lt;obtain⟨b0,b1⟩:=h4.right.right.cells2;have bl:=h4.right.right.lt;have bf:=h4.right.right.free 1;have h4d:Z w3.drew (cj 3 1 (.slice A i c) i ((fg s i).map (H I))*(aa X #[.pointer (E (N b 0 z))] 222*(aa b #[.pointer (E (N f 0 z)),.slice A i c] 224*(aj f s2*R)))):=h4.drew;go_upto_region 9 with fail;have hS0:(fun(L:Array Bool) (w':U)=>w'.cell? (N X 0 z)=E (.pointer (E (N b 0 z)))∧Till 7 4 (fun w'=>w'.cell? (N b 1 z)=E (.slice A i c)) L w') (Array.replicate 11 G) w3.drew:=⟨h4d.right.cell 0,Till.start (h4d.right.right.cell 1)⟩;refine vu ?_;refine iU (S:=fun L w'=>w'.cell? (N X 0 z)=E (.pointer (E (N b 0 z)))∧Till 7 4 (fun w'=>w'.cell? (N b 1 z)=E (.slice A i c)) L w') (by kernel_rfl) hS0 (fun hHeld=> ?_);clear c0 b0 b1 bf hS0;refine aR (i:=0) (v:= ?_) rfl (by kernel_rfl) (by kernel_rfl) (by kernel_rfl) (fun _ _ _ h=>h) (a4 af (ax (by decide) ⟨_,⟨4,.data⟩,rfl,by simp,rfl,rfl⟩)) (Or.inl ⟨by kernel_rfl,?_⟩) hHeld (fun hHeld=> ?_);rotate_left;focus (intro wS hSw;obtain⟨Lx,hLx,hs1,hs2⟩:=hSw;have cS:=hs1;go_simp;first|done|with_reducible rfl)
    refine aR (i:=1) (v:= ?_) rfl (by kernel_rfl) (by kernel_rfl) (by kernel_rfl) (fun _ _ _ h=>h) (a4 af (ax (by decide) ⟨_,⟨4,.data⟩,rfl,by simp,rfl,rfl⟩)) (Or.inl ⟨by kernel_rfl,?_⟩) hHeld (fun hHeld=> ?_);rotate_left;focus (intro wS hSw;obtain⟨Lx,hLx,hs1,hs2⟩:=hSw;have cS:=hs1;go_simp;first|done|with_reducible rfl)
    refine aR (i:=2) (v:= ?_) rfl (by kernel_rfl) (by kernel_rfl) (by kernel_rfl) (fun _ _ _ h=>h) (a4 af (ax (by decide) ⟨_,⟨4,.data⟩,rfl,by simp,rfl,rfl⟩)) (Or.inl ⟨by kernel_rfl,?_⟩) hHeld (fun hHeld=> ?_);rotate_left;focus (intro wS hSw;obtain⟨Lx,hLx,hs1,hs2⟩:=hSw;skip;go_simp;first|done|with_reducible rfl)
    refine aR (i:=3) (v:= ?_) rfl (by kernel_rfl) (by kernel_rfl) (by kernel_rfl) (fun _ _ _ h=>h) (a4 af (ax (by decide) ⟨_,⟨4,.data⟩,rfl,by simp,rfl,rfl⟩)) (Or.inl ⟨by kernel_rfl,?_⟩) hHeld (fun hHeld=> ?_);rotate_left;focus (intro wS hSw;obtain⟨Lx,hLx,hs1,hs2⟩:=hSw;skip;go_simp;first|done|with_reducible rfl)
    refine aR (i:=4) (v:= ?_) rfl (by kernel_rfl) (by kernel_rfl) (by kernel_rfl) (fun _ _ _ h=>h) (a4 af (ax (by decide) ⟨_,⟨4,.data⟩,rfl,by simp,rfl,rfl⟩)) (Or.inl ⟨by kernel_rfl,?_⟩) hHeld (fun hHeld=> ?_);rotate_left;focus (intro wS hSw;obtain⟨Lx,hLx,hs1,hs2⟩:=hSw;have cS:=hs2.still hLx;go_simp;first|done|with_reducible rfl)
    refine aR (i:=5) (v:= ?_) rfl (by kernel_rfl) (by kernel_rfl) (by kernel_rfl) (fun _ _ _ h=>h) (a4 af (ax (by decide) ⟨_,⟨4,.data⟩,rfl,by simp,rfl,rfl⟩)) (Or.inl ⟨by kernel_rfl,?_⟩) hHeld (fun hHeld=> ?_);rotate_left;focus (intro wS hSw;obtain⟨Lx,hLx,hs1,hs2⟩:=hSw;skip;go_simp;first|done|with_reducible rfl)
    refine aZ (rs:=[6]) (by kernel_rfl) (by simp) ?_;refine OneOf.cons rfl (fun K hK=> ?_) OneOf.nil;have k1:=h4d.build #[H I k] 3;try simp only[a5] at k1
    go_simp;refine hK.out _ _ ⟨k1.right.cell 0,⟨fun _=>by kernel_rfl,fun _=>k1.r3.cell 1⟩⟩ (fun hHeld=> ?_);clear hK K;refine aZ (rs:=[7]) (by kernel_rfl) (by simp) ?_;refine OneOf.cons rfl (fun K hK=> ?_) OneOf.nil;refine cr rfl (.tmp 35) (.tmp 37) 45 rfl underlying45 gF (.slice A i c) i ((fg s i).map (H I)) (by simp[Act.eval]) k1 (N w3.drew.heap.size 0 z) 1 1 [H I k] (by simp[Act.eval]) rfl (fE (k1.right.right.cell 0)) (iB k) (by unfold maxLen;omega) (by omega) ?_;intro A' c' w5 k2 y2;try go_simp
    refine hK.out _ _ ⟨k2.right.cell 0,⟨fun _=>by kernel_rfl,fun h=>aW (by kernel_rfl) h⟩⟩ (fun hHeld=> ?_);clear hK K;refine aR (i:=8) (v:= ?_) rfl (by kernel_rfl) (by kernel_rfl) (by kernel_rfl) (fun _ _ _ h=>h) (a4 af (ax (by decide) ⟨_,⟨4,.data⟩,rfl,by simp,rfl,rfl⟩)) (Or.inl ⟨by kernel_rfl,?_⟩) hHeld (fun hHeld=> ?_);rotate_left;focus (intro wS hSw;obtain⟨Lx,hLx,hs1,hs2⟩:=hSw;skip;go_simp;first|done|with_reducible rfl)
    refine aR (i:=9) (v:= ?_) rfl (by kernel_rfl) (by kernel_rfl) (by kernel_rfl) (fun _ _ _ h=>h) (a4 af (ax (by decide) ⟨_,⟨4,.data⟩,rfl,by simp,rfl,rfl⟩)) (Or.inl ⟨by kernel_rfl,?_⟩) hHeld (fun hHeld=> ?_);rotate_left;focus (intro wS hSw;obtain⟨Lx,hLx,hs1,hs2⟩:=hSw;skip;go_simp;first|done|with_reducible rfl)
    have h6:Z w5 (aa b #[.pointer (E (N f 0 z)),.slice A i c] 224*(aa X #[.pointer (E (N b 0 z))] 222*(cj 3 1 (.slice A' (i+1) c') (i+1) ((fg s i).map (H I)++[H I k])*(aj f s2*R)))):=by
     have:=k2.eq (show _=aa w3.drew.heap.size #[H I k] 3*(aa b #[.pointer (E (N f 0 z)),.slice A i c] 224*(aa X #[.pointer (E (N b 0 z))] 222*(cj 3 1 (.slice A' (i+1) c') (i+1) ((fg s i).map (H I)++[H I k])*(aj f s2*R)))) by ac_rfl);exact this.right
    have g0:=h6.lt;have g1:=h6.free 1;have g2:=h6.cell 1;have h7:=(h6.set 1 (.slice A' (i+1) c')).p2;refine aZ (rs:=[10]) (by kernel_rfl) (by simp) ?_;refine OneOf.cons rfl (fun K hK=> ?_) OneOf.nil;go_simp;refine hK.out _ _ ⟨h7.cell 0,⟨fun _=>by kernel_rfl,fun h=>aW (by kernel_rfl) h⟩⟩ (fun hHeld=> ?_);clear hK K;refine fC (by kernel_rfl) ?_;clear hHeld;unfold yR;dsimp only;go_wp2_with fail
    go_roundw
    case rel=>exact⟨i+1,A',c',by omega,by omega,by go_num,by rw[HTS.out,HNS.out,List.map_append];exact h7,((x4.drew.alloc _).trans y2).set _ _⟩
    case measure=>simp[intOf];omega
  ·obtain rfl:i=n:=by omega
   go_wp2_with fail
   refine sq (v:=V O) (by simp[results,results150,go_sem]) rfl ?_;exact .inl ⟨hif,A,c,rfl,hr.right,hx⟩
end Go.Proofs.YtmfheghbgihdmaaGreat
