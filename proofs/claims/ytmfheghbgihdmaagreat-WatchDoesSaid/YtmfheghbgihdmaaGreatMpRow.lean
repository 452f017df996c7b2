/- Rows of mappings; append of a row onto a row; SameMaps. -/
import Derived.Test.YtmfheghbgihdmaaGreatFrames3
import Derived.Test.YtmfheghbgihdmaaGreatSep
import Derived.Test.YtmfheghbgihdmaaGreatTblM3
import Derived.Lib.Hide
import Derived.Lib.SliceRun
import Derived.Laws.OwnMore
import Derived.Outline
import Derived.BigQuiet
import Derived.Deep.LoopGhost
import Derived.Shelf.Abstract
import Derived.Test.YtmfheghbgihdmaaGreatTabL
import Derived.Test.YtmfheghbgihdmaaGreatWkr
import Derived.Test.YtmfheghbgihdmaaGreatRowsO
import Derived.Test.YtmfheghbgihdmaaGreatRefEnt5
import Derived.Test.YtmfheghbgihdmaaGreatRefPage
namespace Go.Proofs.YtmfheghbgihdmaaGreat
open Option renaming none→B,some→C
open Go.Value renaming int→D,bool→Z
open Go.IntKind renaming i64→F
open Go renaming World→G,Calls→T,Value→U,bodyPost_ret→ad,Addr→af
open Bool renaming false→H,true→V
open List renaming getElem?_eq_getElem→I
open Go.Lib renaming hid→J
open Go.Addr renaming mk→M
open Go.Proofs.YtmfheghbgihdmaaGreat renaming Has→N,Pure→al
open Go.Proofs.YtmfheghbgihdmaaGreat.Ext renaming refl→Y
open Tryz
open Go.RowKit
set_option maxRecDepth 100000
def mpZero:U:= .agg #[D F 0,D F 0,D F 0,D F 0]
theorem it:jh prog 39 mpZero 4 32:=⟨by kernel_rfl,rfl,by omega⟩
theorem iu(x:Mp):x.cells.length=4:=rfl
def aY(l:List Mp):List U:=fX Mp.cells l
theorem dE(l:List Mp):(aY l).length =l.length*4:=oi iu l
theorem jn(l:List Mp)(m:Mp):aY (l++[m])=aY l++m.cells:=by unfold aY;rw[jl];simp[fX]
def bO(v:U)(l:List Mp):ab:=bZ 39 4 v l.length (aY l)
theorem jo(x:Mp):∀u∈x.cells,u.oneCell'=V:=by
 intro u hx;simp[Mp.cells] at hx;rcases hx with rfl|rfl|rfl|rfl<;>rfl
theorem kg{P:Program}{w:G}{R:ab}{ops:Array Oper}{rest:List Oper}{o:Oper}{a:Act}{Q:Exit→Act→G→Prop}(hgd:o.guard=B)(s x:Operand)(t:TypeId)
  (ho:o.op= .call {callee:= .builtin .append,args:= #[s,x],argTypes:= #[t,t]}) {e:TypeId} {z:U} {size bytes:Nat} (hT:P.underlying t=C (.slice e)) (hE:jh P e z size bytes)
  (v:U) (n:Nat) (xs:List U) (hs:a.eval s=v) (u:U) (m:Nat) (ys:List U) (hx:a.eval x=u) (h:N w (bZ e size v n xs*(bZ e size u m ys*R))) (h1:∀y∈ys,y.oneCell'=V)
  (h63:n+m≤maxLen) (hbytes:(n+m)*bytes≤140737488355328)
  (hk:∀A c w',N w' (bZ e size (.slice A (n+m) c) (n+m) (xs++ys)*(bZ e size u m ys*R))→Ext w w'→wpList P ops Q rest (a.put o.dst (.slice A (n+m) c)) w'):wpList P ops Q (o::rest) a w:=by
 rcases h.p2.rowCases with ⟨rfl,rfl,rfl,_⟩|⟨g,cap,cur,rfl,_⟩
 ·obtain⟨i,hi,_,hsz,_⟩:=info_parts hE.info
  obtain⟨A,c,rfl⟩:=h.rowForm;refine wpList_plain hgd fun _ hK=> ?_;have hrun:=run_append_owned_none (P:=P) (w:=w) 0 t o.type e i size hT hi (.slice A n c) n xs h.ownsRow;unfold Oper.wp;simp[execOp,ho,resolve,invoke,builtin,hs,hx,hrun,Result.andThen];exact hK _ _ (hk A c w (by simpa using h) (Y w))
 ·have hget:=fun j y (hy:ys[j]? =C y)=>h.p2.rowGet hy
  have hl:=h.p2.rowLens.1;refine aW hgd s x t ho hT hE v n xs hs h (M g 0 B) m cap ys hx hl (fun j y hy=> ?_) h1 h63 hbytes fun v' w' h2 x2=> ?_
  ·obtain⟨g',hg',_,hc,_⟩:=hget j y hy
   injection hg' with hg'
   injection hg' with hg'
   subst hg';rw[Addr.add_lit,Nat.zero_add];exact hc
  ·have hf:∃A c,v'= .slice A (n+m) c:=by
    rcases h2.rowCases with ⟨hv,hn,_,_⟩|⟨g,cap,cur,hv,_⟩
    ·exact⟨B,0,by rw[hv,hn]⟩
    ·exact⟨_,_,hv⟩
   obtain⟨A,c,rfl⟩:=hf;exact hk A c w' h2 x2
theorem gR(l:List Mp):∀u∈aY l,u.oneCell'=V:=by
 intro u hu;unfold aY fX at hu;obtain⟨x,_,hx⟩:=List.mem_flatMap.1 hu;exact jo x u hx
theorem eL(a b:List Mp):aY (a++b)=aY a++aY b:=jl a b
theorem dK{w:G}{R:ab}{A:Option af}{n c:Nat}{l:List Mp}(h:N w (bO (.slice A n c) l*R)):n=l.length:=by
 rcases(Has.rowCases (e:=39) (size:=4) h) with ⟨hv,h0,_⟩|⟨g,cap,cur,hv,_⟩
 ·injection hv with a b
  omega
 ·injection hv
theorem gS{w:G}{R:ab}{A:Option af}{n c:Nat}{l:List Mp}(h:N w (bO (.slice A n c) l*R)):n≤9223372036854775807:=by
 obtain rfl:=dK h;exact(Has.rowLens (e:=39) (size:=4) h).2
theorem dS{w:G}{R:ab}{A:Option af}{n c:Nat}{l:List Mp}(h:N w (bO (.slice A n c) l*R)){k:Nat}(hk:k<l.length):
  ∃b,A=C (M b 0 B)∧b<w.heap.size∧
   (w.cell? ⟨b,k*4,B⟩=C (D F l[k].page)∧w.cell? ⟨b,k*4+1,B⟩=C (D F l[k].size)∧w.cell? ⟨b,k*4+2,B⟩=C (D F l[k].frame)∧w.cell? ⟨b,k*4+3,B⟩=C (D F l[k].rights)):=by
 obtain rfl:=dK h;have g:=fun t (ht:t<4)=>Has.rowGet (e:=39) (size:=4) h (i:=k*4+t) (u:=(l[k].cells[t]'(by rw[iu];exact ht))) (by
  have:=lx (cells:=Mp.cells) iu hk ht;rw[I (l:=l[k].cells) (by rw[iu];exact ht)] at this;exact this)
 obtain⟨b,rfl,hb,c0,_⟩:=g 0 (by omega);obtain⟨b1,e1,_,c1,_⟩:=g 1 (by omega);obtain⟨b2,e2,_,c2,_⟩:=g 2 (by omega);obtain⟨b3,e3,_,c3,_⟩:=g 3 (by omega);injection e1 with e1;injection e1 with e1;subst e1
 injection e2 with e2;injection e2 with e2;subst e2
 injection e3 with e3;injection e3 with e3;subst e3
 exact⟨b,rfl,hb,c0,c1,c2,c3⟩
def jT(O:Nat)(vs:List mF):ab:=ex fun A=>ex fun c=>aa O #[.slice A (bT vs).length c] 44*bO (.slice A (bT vs).length c) (bT vs)
theorem lH{O:Nat}{vs:List mF}{P:ab}{w:G}(h:N w (jT O vs*P)):∃A c,N w (aa O #[.slice A (bT vs).length c] 44*(bO (.slice A (bT vs).length c) (bT vs)*P)):=by
 unfold jT at h;obtain⟨A,h⟩:=aH.1 h;obtain⟨c,h⟩:=aH.1 h;exact⟨A,c,h.a1⟩
theorem j4{O c:Nat}{A:Option af}{vs:List mF}{P:ab}{w:G}(h:N w (aa O #[.slice A (bT vs).length c] 44*(bO (.slice A (bT vs).length c) (bT vs)*P))):N w (jT O vs*P):=by
 unfold jT;exact aH.2 ⟨A,aH.2 ⟨c,h.a2⟩⟩
theorem pv(vs:List mF):(bT vs).length ≤vs.length:=List.length_filterMap_le _ _
theorem qH{i j:Nat}(h:i≤j):aC i≤aC j:=by
 induction h with
 |refl=>exact Int.le_refl _
 |step _ ih=>rw[dW];have:=fw i;omega
set_option maxHeartbeats 2000000 in
theorem xE(O:Nat)(P:ab)(vs:List mF)(v:mF)(W:G)(hv:yb v)(hl:vs.length<5000)(h:N W (jT O vs*P)):
  T prog 131 #[D F v.t,D F v.lev,D F v.at_,.agg #[Z v.e.there,Z v.e.leaf,D F v.e.rights,Z v.e.used,Z v.e.dirty,D F v.e.frame],.pointer (C (M O 0 B))] W (cI (.tuple #[]) (jT O (vs++[v])*P) W):=by
 obtain⟨A,c,h⟩:=lH h;have hml:=pv vs;obtain⟨t,lev,at_,⟨th,lf,rg,us,di,fr⟩⟩:=v;obtain⟨l0,l3,ha0,ha4⟩:=hv;dsimp only at*
 have h1:=h.new #[Z th,Z lf,D F rg,Z us,Z di,D F fr] 70;have x1:=(Y W).alloc (.cells #[Z th,Z lf,D F rg,Z us,Z di,D F fr] 70);obtain⟨e0,e1,e2,e3,e4,e5⟩:=h1.cells6;have el:=h1.lt;cases lf with
 |false=>
  have hm:bT (vs++[⟨t,lev,at_,⟨th,H,rg,us,di,fr⟩⟩])=bT vs:=by rw[iy];simp[bT]
  have hfin:N (W.alloc (.cells #[Z th,Z H,D F rg,Z us,Z di,D F fr] 70)) (jT O (vs++[⟨t,lev,at_,⟨th,H,rg,us,di,fr⟩⟩])*P):=by
   refine j4 (A:=A) (c:=c) ?_;rw[hm];exact h1.right
  go_enter func131,ntmps131;go_wp2_with fail
  exact ad (v:= .tuple #[]) (by simp[results,results131]) rfl ⟨rfl,hfin,x1⟩
 |true=>
  obtain⟨k,rfl⟩:=Int.eq_ofNat_of_zero_le l0;have hk3:k≤3:=by omega
  rw[Int.toNat_natCast] at ha4;have hm:=J (show bT (vs++[⟨t,k,at_,⟨th,V,rg,us,di,fr⟩⟩])=bT vs++[aA ⟨th,V,rg,us,di,fr⟩ k (at_*aC k)] by rw[iy];simp[bT]);have HE:=J (kc ⟨th,V,rg,us,di,fr⟩ k (at_*aC k));generalize aA ⟨th,V,rg,us,di,fr⟩ k (at_*aC k)=m at*
  go_enter func131,ntmps131;go_wp2_with fail
  go_loopw [9,14] (fun s9 s14 wr=>∃j:Nat,j≤k∧s14=D F j∧s9=D F (at_*aC j)∧(W.alloc (.cells #[Z th,Z V,D F rg,Z us,Z di,D F fr] 70))=wr) (fun _ s14 _=>k - (intOf s14).toNat)
  case atStart=>exact⟨0,Nat.zero_le _,rfl,by simp[aC],rfl⟩
  case round=>
   obtain⟨j,hj,rfl,rfl,rfl⟩:=hrel;by_cases hlt:j<k
   ·have hpw:at_*aC j*8=at_*aC (j+1):=by rw[dW,Int.mul_assoc,Int.mul_comm (aC j) 8]
    have hle:at_*aC (j+1)≤at_*aC k:=Int.mul_le_mul_of_nonneg_left (qH (by omega)) ha0;have hge:0≤at_*aC (j+1):=Int.mul_nonneg ha0 (Int.le_of_lt (fw _));have hwr:IntKind.i64.wrap (at_*aC j*8)=at_*aC (j+1):=by rw[hpw,IntKind.wrap_i64];omega
    clear hpw hle hge;go_wp2_with fail
    go_roundw
    case rel=>exact⟨j+1,by omega,by go_num,rfl,trivial⟩
    case measure=>simp[intOf];omega
   ·obtain rfl:j=k:=by omega
    have c0:(W.alloc (.cells #[Z th,Z V,D F rg,Z us,Z di,D F fr] 70)).cell? (M O 0 B)=C (.slice A (bT vs).length c):=h1.right.cell 0;generalize at_*aC j=pg at*
    generalize W.alloc _=w4 at*
    generalize W.heap.size=E at*
    go_wp2_with fail
    refine iE (S:=fun L w'=>Till 6 0 (fun w'=>w'.cell? (M O 0 B)=C (.slice A (bT vs).length c)) L w'∧Till 4 1 (fun w'=>w'.cell? (M E 0 B)=C (Z th)∧w'.cell? (M E 1 B)=C (Z V)∧w'.cell? (M E 2 B)=C (D F rg)∧w'.cell? (M E 3 B)=C (Z us)∧w'.cell? (M E 4 B)=C (Z di)∧w'.cell? (M E 5 B)=C (D F fr)) L w') (by kernel_rfl) ⟨Till.start c0,Till.start ⟨e0,e1,e2,e3,e4,e5⟩⟩ (fun hHeld=> ?_);refine aO (i:=0) (v:= ?_) rfl (by kernel_rfl) (by kernel_rfl) (by kernel_rfl) (fun _ _ _ h=>h) (Good.and (Good.till (by decide) ⟨_,⟨0,.data⟩,rfl,by simp,rfl,rfl⟩) (Good.till (by decide) ⟨_,⟨1,.data⟩,rfl,by simp,rfl,rfl⟩)) (Or.inl ⟨by kernel_rfl,?_⟩) hHeld (fun hHeld=> ?_);rotate_left;focus (intro wS hSw;obtain⟨Lx,hLx,hs1,hs2⟩:=hSw;have cS:=hs1.still hLx;go_simp;first|done|with_reducible rfl)
    try go_simp
    refine aO (i:=1) (v:= ?_) rfl (by kernel_rfl) (by kernel_rfl) (by kernel_rfl) (fun _ _ _ h=>h) (Good.and (Good.till (by decide) ⟨_,⟨0,.data⟩,rfl,by simp,rfl,rfl⟩) (Good.till (by decide) ⟨_,⟨1,.data⟩,rfl,by simp,rfl,rfl⟩)) (Or.inl ⟨by kernel_rfl,?_⟩) hHeld (fun hHeld=> ?_);rotate_left;focus (intro wS hSw;obtain⟨Lx,hLx,hs1,hs2⟩:=hSw;obtain⟨s0,s1,s2,s3,s4,s5⟩:=hs2.still hLx;go_simp;first|done|with_reducible rfl)
    try go_simp
    refine aO (i:=2) (v:= ?_) rfl (by kernel_rfl) (by kernel_rfl) (by kernel_rfl) (fun _ _ _ h=>h) (Good.and (Good.till (by decide) ⟨_,⟨0,.data⟩,rfl,by simp,rfl,rfl⟩) (Good.till (by decide) ⟨_,⟨1,.data⟩,rfl,by simp,rfl,rfl⟩)) (Or.inl ⟨by kernel_rfl,?_⟩) hHeld (fun hHeld=> ?_);rotate_left;focus (intro wS hSw;obtain⟨Lx,hLx,hs1,hs2⟩:=hSw;skip;go_simp;first|done|with_reducible rfl)
    try go_simp
    refine aO (i:=3) (v:= ?_) rfl (by kernel_rfl) (by kernel_rfl) (by kernel_rfl) (fun _ _ _ h=>h) (Good.and (Good.till (by decide) ⟨_,⟨0,.data⟩,rfl,by simp,rfl,rfl⟩) (Good.till (by decide) ⟨_,⟨1,.data⟩,rfl,by simp,rfl,rfl⟩)) (Or.inl ⟨by kernel_rfl,?_⟩) hHeld (fun hHeld=> ?_);rotate_left;focus (intro wS hSw;obtain⟨Lx,hLx,hs1,hs2⟩:=hSw;skip;go_simp;first|done|with_reducible rfl)
    try go_simp
    refine aX (rs:=[4]) (by kernel_rfl) (by simp) ?_;refine OneOf.cons rfl (fun K hK=> ?_) OneOf.nil;go_simp;go_wp2_with(refine(HE.out _).mono ?_;rintro e2 w5 ⟨rfl,b5⟩)
    have h5:=(h1.drew.right.below b5);have x5:=x1.drew.below b5;refine hK.out _ _ ⟨⟨fun _=>by kernel_rfl,fun _=>h5.cell 0⟩,⟨fun _=>by kernel_rfl,fun h=>aS (by kernel_rfl) h⟩⟩ (fun hHeld=> ?_);clear hK K;refine aX (rs:=[5]) (by kernel_rfl) (by simp) ?_;refine OneOf.cons rfl (fun K hK=> ?_) OneOf.nil;go_simp;have h6:=(h5.p2).alloc (.cells #[D F m.page,D F m.size,D F m.frame,D F m.rights] 39);refine hK.out _ _ ⟨⟨fun _=>by kernel_rfl,fun _=>h6.right.cell 0⟩,⟨fun _=>by kernel_rfl,fun h=>aS (by kernel_rfl) h⟩⟩ (fun hHeld=> ?_);clear hK K;refine aX (rs:=[6]) (by kernel_rfl) (by simp) ?_;refine OneOf.cons rfl (fun K hK=> ?_) OneOf.nil;refine cg rfl (.tmp 19) (.tmp 24) 44 rfl underlying44 it _ _ _ (by simp[Act.eval]) h6 (M w5.heap.size 0 B) 1 1 m.cells (by simp[Act.eval]) rfl (dx w5 m.cells 39) (jo m) (by unfold maxLen;omega) (by omega) ?_;intro A' c' w7 h7 x7;try go_simp
    refine hK.out _ _ ⟨⟨fun _=>by kernel_rfl,fun h=>aS (by kernel_rfl) h⟩,⟨fun _=>by kernel_rfl,fun h=>aS (by kernel_rfl) h⟩⟩ (fun hHeld=> ?_);clear hK K;have y0:=h7.right.cell 0;have y1:=h7.right.free 0;have yl:=h7.right.lt;refine aX (rs:=[7]) (by kernel_rfl) (by simp) ?_;refine OneOf.cons rfl (fun K hK=> ?_) OneOf.nil;go_simp;refine hK.out _ _ ⟨⟨fun _=>by kernel_rfl,fun h=>aS (by kernel_rfl) h⟩,⟨fun _=>by kernel_rfl,fun h=>aS (by kernel_rfl) h⟩⟩ (fun hHeld=> ?_);clear hK K;refine fj (by kernel_rfl) ?_;have hfin:N (w7.setCell (M O 0 B) (.slice A' ((bT vs).length +1) c')) (jT O (vs++[⟨t,j,at_,⟨th,V,rg,us,di,fr⟩⟩])*P):=by
     refine j4 (A:=A') (c:=c') ?_;unfold bO;rw[hm.out,jn,List.length_append,List.length_singleton];exact h7.p2.set 0 _
    go_wp2_with fail
    exact ad (v:= .tuple #[]) (by simp[results,results131]) rfl ⟨rfl,hfin,((x5.alloc _).trans x7).set _ _⟩
def kM(y:Vs):List Mp:=if y.code=0 then bT y.vs else []
def qg(y:Vs)(R:ab)(w:G)(e:Ending)(w':G):Prop:=
 ∃A c,e= .returned (.tuple #[.slice A (kM y).length c,D F y.code])∧N w' (bO (.slice A (kM y).length c) (kM y)*R)∧Ext w w'
theorem sd(f:Nat)(s:Ms)(root:Int)(R:ab)(w:G)(hs:s.Ok)(h:N w (ai f s*R)):
  T prog 73 #[.pointer (C (M f 0 B)),D F root] w (qg (cC s 3 root 0) (ai f s*R) w):=by
 have hmf:∀(fn:Fn) (first cap:Array U) (w:G),(Instr.makeFunc fn first cap).run prog w= .ok (.func fn first cap) w:=fun _ _ _ _=>rfl;have h1:=h.new #[.slice B 0 0] 44;have h2:N (w.alloc (.cells #[.slice B 0 0] 44)) (jT w.heap.size []*(ai f s*R)):=j4 (A:=B) (c:=0) (Has.p2 (Has.rowNil h1));have x1:=(Y w).alloc (.cells #[.slice B 0 0] 44);have hE:=oU f s hs 131 #[.pointer (C (M w.heap.size 0 B))] (enters_of func131 (by kernel_rfl) rfl) (jT w.heap.size) 5000
  (fun P vs v W hv hl h=>xE w.heap.size P vs v W hv hl h) 3 (by omega) R root 0 [] _ (by omega) (by decide) (by decide) h2
 rw[List.nil_append] at hE;have hln:=J (show(kM (cC s 3 root 0))=if(cC s 3 root 0).code =0 then bT (cC s 3 root 0).vs else [] from rfl);generalize cC s 3 root 0=y at*
 by_cases hc:y.code=0
 ·have hm:kM y=bT y.vs:=by rw[hln.out,if_pos hc]
  have HM:=J hm;clear hm;go_enter func73,ntmps73;go_wp2_with(refine hE.mono ?_;rintro e w2 ⟨rfl,h3,x3⟩;obtain⟨A,c,h4⟩:=lH h3;have c0:=h4.cell 0;have cl:=h4.lt)
  exact ad (v:= .tuple #[.slice A (bT y.vs).length c,D F 0]) (by simp[results,results73]) rfl ⟨A,c,by rw[HM.out,hc],by rw[HM.out];exact h4.right,x1.trans x3⟩
 ·have hm:kM y=[]:=by rw[hln.out,if_neg hc]
  have HM:=J hm;have hn:(y.code !=0)=V:=by simpa using hc
  clear hm;go_enter func73,ntmps73;go_wp2_with(refine hE.mono ?_;rintro e w2 ⟨rfl,h3,x3⟩)
  exact ad (v:= .tuple #[.slice B 0 0,D F y.code]) (by simp[results,results73]) rfl ⟨B,0,by rw[HM.out];rfl,by rw[HM.out];exact Has.rowNil h3.right,x1.trans x3⟩
def dn(f:Nat)(s:Ms):ab:=ex fun s'=>dN (s'.Ok∧Agree s' s)*ai f s'
section
variable {f:Nat} {s:Ms} {R:ab} {w:G}
theorem ga(h:N w (dn f s*R)):∃s',s'.Ok∧Agree s' s∧N w (ai f s'*R):=by
 unfold dn at h;obtain⟨s',h⟩:=aH.1 h;rw[aG] at h;obtain⟨⟨a,b⟩,h⟩:=cH.1 h;exact⟨s',a,b,h⟩
theorem ge{s':Ms}(h:N w (ai f s'*R))(ho:s'.Ok)(ha:Agree s' s):N w (dn f s*R):=by
 unfold dn;refine aH.2 ⟨s',?_⟩;rw[aG];exact cH.2 ⟨⟨ho,ha⟩,h⟩
end
section
variable (f:Nat) (s:Ms) (R:ab) (w:G) (h:N w (dn f s*R))
include h
theorem xG(root:Int)(x:Mp):T prog 97 #[.pointer (C (M f 0 B)),D F root,.agg #[D F x.page,D F x.size,D F x.frame,D F x.rights]] w (cI (D F (cT s root x)) (dn f (dJ s root x)*R) w):=by
 obtain⟨s',ho,ha,h'⟩:=ga h;refine(xR f s' root x R w ho h').mono ?_;rintro e w' ⟨s2,ho2,ha2,he,h2,x2⟩;rw[ha.insC] at he;exact⟨he,ge h2 ho2 (ha2.trans (ha.insS root x)),x2⟩
omit h in
def om(f:Nat)(s:Ms)(r p:Int)(R:ab)(w:G)(e:Ending)(w':G):Prop:=
 ∃A n c,cI (.tuple #[(bK s r p).val,.slice A n c,D F (bw s r p)]) (ao (.slice A n c) (fi s r p)*(dn f (de s r p)*R)) w e w'
theorem xH(root p:Int):T prog 98 #[.pointer (C (M f 0 B)),D F root,D F p] w (om f s root p R w):=by
 obtain⟨s',ho,ha,h'⟩:=ga h;refine(xZ f s' root p R w ho h').mono ?_;rintro e w' ⟨A,n,c,he,h2,x2⟩;obtain⟨ag,eg⟩:=ha.rem root p;rw[ha.findC,ha.findM] at he;rw[eg] at h2;exact⟨A,n,c,he,(ge h2.p2 (tX ho root p) ag).p2,x2⟩
theorem yp(root p ri:Int):T prog 100 #[.pointer (C (M f 0 B)),D F root,D F p,D F ri] w (cI (.tuple #[(ku s root p ri).val,D F (iB s root p ri)]) (dn f (gG s root p ri)*R) w):=by
 obtain⟨s',ho,ha,h'⟩:=ga h;refine(yv f s' root p ri R w ho h').mono ?_;rintro e w' ⟨he,h2,x2⟩;obtain⟨ag,ec,em⟩:=ha.pr root p ri;rw[ec,em] at he;exact⟨he,ge h2 (vq ho root p ri) ag,x2⟩
theorem wu(k:Int):T prog 111 #[.pointer (C (M f 0 B)),.int .i64 k] w (cI (Z (s.has k)) (dn f (s.giveS k)*R) w):=by
 obtain⟨s',ho,ha,h'⟩:=ga h;refine(uH f s' k R w h' ho).mono ?_;rintro e w' ⟨he,h2,x2⟩;rw[ha.has] at he;exact⟨he,ge h2 (ho.giveS k) (ha.giveS k),x2⟩
theorem ww:T prog 52 #[.pointer (C (M f 0 B))] w (cI (D F s.topV) (dn f s.takeS*R) w):=by
 obtain⟨s',ho,ha,h'⟩:=ga h;refine(uG f s' R w h' ho).mono ?_;rintro e w' ⟨he,h2,x2⟩;have:s'.topV=s.topV:=by unfold Ms.topV;rw[ha.top]
 rw[this] at he;exact⟨he,ge h2 ho.takeS ha.takeS,x2⟩
theorem wA:T prog 75 #[.pointer (C (M f 0 B))] w (Same (D F (s.frees.length:Nat)) w):=by
 obtain⟨s',ho,ha,h'⟩:=ga h;have:=wo f s' R w h';rw[ha.fr] at this;exact this
theorem wB(root:Int):T prog 73 #[.pointer (C (M f 0 B)),D F root] w (qg (cC s 3 root 0) (dn f s*R) w):=by
 obtain⟨s',ho,ha,h'⟩:=ga h;have:=sd f s' root R w ho h';rw[ha.eachV] at this;refine this.mono ?_;rintro e w' ⟨A,c,he,h2,x2⟩;exact⟨A,c,he,(ge h2.p2 ho ha).p2,x2⟩
end
section
variable {s:Ms} {r:Int} {gone:List Int} {X:Int→Prop}
theorem mV(s:Ms)(L:Nat)(t a:Int):∀is:List Nat,(∀i∈is,bu (ay s t i) L=0∧((aE (ay s t i) L).there =V∧(aE (ay s t i) L).leaf =H→(gE s L (aE (ay s t i) L).frame (a*8+i)).code =0))→(dg s L t a (gE s L) is).code =0
 | [],_=>rfl
 |i::is,h=>by
  obtain⟨h1,h2⟩:=h i (List.mem_cons_self ..);have ih:=mV s L t a is fun j hj=>h j (List.mem_cons_of_mem _ hj);unfold dg;rw[if_neg (by rw[h1];simp)];dsimp only;by_cases he:(aE (ay s t i) L).there =V∧(aE (ay s t i) L).leaf =H
  ·rw[if_pos he,if_neg (by rw[h2 he];simp)]
   exact ih
  ·rw[if_neg he,if_neg (by simp)]
   exact ih
structure oo (s:Ms) (r:Int) (L:Nat) (t a:Int):Prop where
 code:(cC s L t a).code =0
 maps:∀m∈bT (cC s L t a).vs,MapOk m∧a*aC (L+1)≤m.page∧m.page+bn m.size≤(a+1)*aC (L+1)
 up:(bT (cC s L t a).vs).Pairwise fun x y=>x.page+bn x.size≤y.page
 tabs:∀u,u∈eJ (cC s L t a).vs ↔∃q e,dh q∧q / aC (L+1)=a∧3 - L<e∧e≤3∧bo s r q e=C u
 nd:(eJ (cC s L t a).vs).Nodup
theorem se{q a:Int}{L i:Nat}(hq:dh q)(hL:L≤3)(h:q / aC (L+1)=a)(hi:am q L=i):q / aC L=a*8+i:=by
 have h0:=eP L;rw[dW,Int.mul_comm,←Int.ediv_ediv_of_nonneg (by omega)] at h;unfold am at hi;rw[if_pos ⟨hq.1,hq.2,by omega,by omega⟩,Int.toNat_natCast] at hi;omega
structure wC (s:Ms) (r:Int) (L:Nat) (t a:Int) (i:Nat):Prop where
 code:bu (ay s t i) L=0∧((aE (ay s t i) L).there =V∧(aE (ay s t i) L).leaf =H→(gE s L (aE (ay s t i) L).frame (a*8+i)).code =0)
 maps:∀m∈gj s L t a i,MapOk m∧(a*8+i)*aC L≤m.page∧m.page+bn m.size≤(a*8+i+1)*aC L
 up:(gj s L t a i).Pairwise fun x y=>x.page+bn x.size≤y.page
 tabs:∀u,u∈ey s L t a i↔∃q e,dh q∧q / aC L=a*8+i∧3 - L<e∧e≤3∧bo s r q e=C u
 nd:(ey s L t a i).Nodup
theorem pw{w:Int}{L:Nat}{p:Int}(hp:dh p)(hc:bu w L=0)(hl:(aE w L).leaf =V):MapOk (aA (aE w L) L p)∧aA (aE w L) L p=⟨p / aC L*aC L,L,(aE w L).frame,(aE w L).rights⟩∧L<3:=by
 obtain⟨ht,_,h3,_,hf⟩:=hO hc hl;have h3':L<3:=by omega
 have hs:=eR h3';have e1:=ib hp hf hl hs;have hk:=dB hf ht;have hL:=(hk.leaf hl).2;rw[hs] at hL;have k1:=hk.r0;have k2:=hk.r7;have k3:=hk.f0;have k4:=hk.f1;have hp':0≤p∧p<4096:=hp;refine⟨?_,e1,h3'⟩;rw[e1];refine ep ?_;unfold ba;dsimp only;rw[hs];have h8:=eP L;have hd:L=0∨L=1∨L=2:=by omega
 rw[if_neg (by omega),if_neg,if_neg]
 ·rw[Int.mul_emod_left];omega
 ·generalize (aE w L).rights =ri at*
  generalize (aE w L).frame =fr at*
  clear e1 ht hl hf hk hL hs h8 hc;rcases hd with h|h|h<;>rw[h]<;>simp only[aC]<;>omega
theorem vc(hw:Wf s r gone X){L:Nat}(hL:L≤3){p t a:Int}(hp:dh p)(ht:bo s r p (3 - L)=C t)(ha:p / aC (L+1)=a)(i:Nat)(hi:i<8)
  (ih:∀K,L=K+1→∀{q u:Int},dh q→bo s r q (3 - K)=C u→oo s r K u (q / aC (K+1))):wC s r L t a i:=by
 obtain⟨q,hq,hpre,hix,hmod⟩:=kY hp hL i hi;rw[ha] at hpre;have hq8:=se hq hL hpre hix;have e33:3 - (3 - L)=L:=by omega
 have hqt:bo s r q (3 - L)=C t:=by
  rw[←ht];refine ct s r hq hp (3 - L) (by omega) ?_;rw[show 4 - (3 - L)=L+1 by omega,hpre,ha]
 have hdec:bu (ay s t i) L=0:=by
  have:=hw.dec hq (show 3 - L≤3 by omega) hqt i hi;rw[e33] at this;exact this
 have h0:=eP L;have hqe:q=(a*8+i)*aC L:=by
  have:=Int.mul_ediv_add_emod q (aC L);rw[hq8,hmod] at this;rw[Int.mul_comm];omega
 by_cases hl:(aE (ay s t i) L).leaf =V
 ·obtain⟨m1,m2,h3⟩:=pw hq hdec hl
  have hc:gj s L t a i=[aA (aE (ay s t i) L) L q]:=by
   unfold gj;dsimp only;rw[if_pos hl,hqe]
  have hT:ey s L t a i=[]:=by
   unfold ey;dsimp only;rw[if_neg (by rw[hl];simp)]
  refine⟨⟨hdec,fun h=>by rw[hl] at h;cases h.2⟩,fun m hm=> ?_,?_,fun u=> ?_,by rw[hT];exact List.nodup_nil⟩
  ·rw[hc,List.mem_singleton] at hm
   subst hm;refine⟨m1,?_,?_⟩
   ·rw[m2,hq8];exact Int.le_refl _
   ·rw[m2,hq8]
    dsimp only;rw[eR h3];have:(a*8+(i:Int)+1)*aC L=(a*8+i)*aC L+aC L:=by rw[Int.add_mul (a*8+i) 1,Int.one_mul]
    omega
  ·rw[hc];exact List.pairwise_singleton _ _
  ·rw[hT]
   constructor
   ·intro h;cases h
   ·rintro⟨x,e,hx,hx8,h1,h2,h3⟩
    exfalso;have hxt:bo s r x (3 - L)=C t:=by
     rw[←hqt];refine ct s r hx hq (3 - L) (by omega) ?_;rw[show 4 - (3 - L)=L+1 by omega];exact iz (by omega) (hx8.trans hq8.symm)
    have hxi:am x L=i:=by rw[gP hx hq (hx8.trans hq8.symm)];exact hix
    have hg:ia s x t (3 - (3 - L))=H:=by
     rw[e33];unfold ia cF;rw[hxi,hl];simp
    rw[bH (dy hxt hg) e (by omega)] at h3;cases h3
 ·have hl':(aE (ay s t i) L).leaf =H:=by simpa using hl
  by_cases hth:(aE (ay s t i) L).there =V
  ·
   have hg:ia s q t L=V:=by
    refine jb.2 ⟨(hw.at_ hq (show 3 - L≤3 by omega) hqt).1,by rw[hix];exact hdec,?_,?_⟩
    ·unfold cF;rw[hix];exact hth
    ·unfold cF;rw[hix];exact hl'
   cases L with
   |zero=>
    exfalso;rcases fu hdec with h|h
    ·have h':(aE (ay s t i) (0:Nat)).there =H:=h
     rw[h'] at hth;cases hth
    ·exact hl h
   |succ K=>
    have hv:bo s r q (3 - K)=C (aE (ay s t i) (K+1:Nat)).frame :=by
     rw[show 3 - K=3 - (K+1)+1 by omega];refine fx.2 ⟨t,hqt,by rw[e33];exact hg,?_⟩;rw[e33];unfold cF;rw[hix]
    have hA:=ih K rfl hq hv;rw[hq8] at hA;have hc:gj s (K+1) t a i=bT (cC s K (aE (ay s t i) (K+1:Nat)).frame (a*8+i)).vs :=by
     unfold gj;dsimp only;rw[if_neg hl,if_pos hth];rfl
    have hT:ey s (K+1) t a i=(aE (ay s t i) (K+1:Nat)).frame ::eJ (cC s K (aE (ay s t i) (K+1:Nat)).frame (a*8+i)).vs :=by
     unfold ey;dsimp only;rw[if_pos ⟨hth,hl'⟩];rfl
    refine⟨⟨hdec,fun _=>hA.code⟩,fun m hm=> ?_,by rw[hc];exact hA.up,fun u=> ?_,?_⟩
    ·rw[hc] at hm
     exact hA.maps m hm
    ·rw[hT,List.mem_cons,hA.tabs u]
     constructor
     ·rintro(rfl|⟨x,e,hx,hx8,h1,h2,h3⟩)
      ·exact⟨q,3 - K,hq,hq8,by omega,by omega,hv⟩
      ·exact⟨x,e,hx,hx8,by omega,h2,h3⟩
     ·rintro⟨x,e,hx,hx8,h1,h2,h3⟩
      by_cases he:e=3 - K
      ·subst he
       have:bo s r x (3 - K)=bo s r q (3 - K):=by
        refine ct s r hx hq (3 - K) (by omega) ?_;rw[show 4 - (3 - K)=K+1 by omega];exact hx8.trans hq8.symm
       rw[h3,hv] at this;injection this with this
       exact .inl this
      ·exact .inr ⟨x,e,hx,hx8,by omega,h2,h3⟩
    ·rw[hT,List.nodup_cons]
     refine⟨fun hm=> ?_,hA.nd⟩;obtain⟨x,e,hx,hx8,h1,h2,h3⟩:=(hA.tabs _).1 hm;have:=(hw.inj x q e (3 - K) _ hx hq h2 (by omega) h3 hv).1;omega
  ·
   have hc:gj s L t a i=[]:=by
    unfold gj;dsimp only;rw[if_neg hl,if_neg hth]
   have hT:ey s L t a i=[]:=by
    unfold ey;dsimp only;rw[if_neg (fun h=>hth h.1)]
   refine⟨⟨hdec,fun h=>absurd h.1 hth⟩,fun m hm=>(by rw[hc] at hm;cases hm),(by rw[hc];exact List.Pairwise.nil),fun u=> ?_,(by rw[hT];exact List.nodup_nil)⟩;rw[hT];constructor
   ·intro h;cases h
   ·rintro⟨x,e,hx,hx8,h1,h2,h3⟩
    exfalso;have hxt:bo s r x (3 - L)=C t:=by
     rw[←hqt];refine ct s r hx hq (3 - L) (by omega) ?_;rw[show 4 - (3 - L)=L+1 by omega];exact iz (by omega) (hx8.trans hq8.symm)
    have hxi:am x L=i:=by rw[gP hx hq (hx8.trans hq8.symm)];exact hix
    have hth':(aE (ay s t i) L).there =H:=by simpa using hth
    have hg:ia s x t (3 - (3 - L))=H:=by
     rw[e33];unfold ia cF;rw[hxi,hth'];simp
    rw[bH (dy hxt hg) e (by omega)] at h3;cases h3
theorem oq(hw:Wf s r gone X){L:Nat}(hL:L≤3){p t:Int}(hp:dh p)(ht:bo s r p (3 - L)=C t)
  (ih:∀K,L=K+1→∀{q u:Int},dh q→bo s r q (3 - K)=C u→oo s r K u (q / aC (K+1))):oo s r L t (p / aC (L+1)):=by
 have hone:=fun i hi=>vc hw hL hp ht rfl i hi ih;generalize hpa:p / aC (L+1)=a at*
 have hhas:=(hw.at_ hp (show 3 - L≤3 by omega) ht).1;have hcode:(dg s L t a (gE s L) (List.range 8)).code =0:=mV s L t a _ fun i hi=>(hone i (List.mem_range.1 hi)).code;obtain⟨_,hm,hT⟩:=kX s L t a (List.range 8) hcode;have ee:cC s L t a=dg s L t a (gE s L) (List.range 8):=by rw[iJ,hhas];rfl
 have h8:=eP L;have hexp:a*aC (L+1)=a*8*aC L:=by rw[dW,Int.mul_assoc]
 have hexp1:(a+1)*aC (L+1)=a*8*aC L+8*aC L:=by rw[Int.add_mul,Int.one_mul,hexp,dW]
 have hrg:∀i:Nat,(a*8+(i:Int))*aC L=a*8*aC L+i*aC L:=fun i=>Int.add_mul _ _ _;have hrg1:∀i:Nat,(a*8+(i:Int)+1)*aC L=a*8*aC L+i*aC L+aC L:=fun i=>by rw[Int.add_mul,Int.add_mul,Int.one_mul]
 have hmul:∀i j:Nat,i≤j→(i:Int)*aC L≤j*aC L:=fun i j h=>Int.mul_le_mul_of_nonneg_right (by omega) (by omega);refine⟨by rw[ee];exact hcode,fun m hmm=> ?_,?_,fun u=> ?_,?_⟩
 ·rw[ee,hm] at hmm
  obtain⟨i,hi,hmi⟩:=List.mem_flatMap.1 hmm;have hi8:=List.mem_range.1 hi;obtain⟨c1,c2,c3⟩:=(hone i hi8).maps m hmi;rw[hrg] at c2;rw[hrg1] at c3;have a1:=hmul 0 i (by omega);have a2:=hmul (i+1) 8 (by omega);refine⟨c1,by rw[hexp];simp at a1;omega,?_⟩;rw[hexp1];have e2:((i+1:Nat):Int)*aC L=i*aC L+aC L:=by rw[Int.natCast_add,Int.add_mul];simp
  have e3:((8:Nat):Int)*aC L=8*aC L:=rfl;omega
 ·rw[ee,hm,List.pairwise_flatMap]
  refine⟨fun i hi=>(hone i (List.mem_range.1 hi)).up,?_⟩;rw[List.pairwise_iff_getElem];intro i j hi hj hij x hx y hy;simp only[List.length_range] at hi hj;simp only[List.getElem_range] at hx hy;obtain⟨_,_,c3⟩:=(hone i hi).maps x hx;obtain⟨_,d2,_⟩:=(hone j hj).maps y hy;rw[hrg1] at c3;rw[hrg] at d2;have a2:=hmul (i+1) j (by omega);have e2:((i+1:Nat):Int)*aC L=i*aC L+aC L:=by rw[Int.natCast_add,Int.add_mul];simp
  omega
 ·rw[ee,hT,List.mem_flatMap]
  constructor
  ·rintro⟨i,hi,hu⟩
   obtain⟨q,e,hq,hq8,h1,h2,h3⟩:=((hone i (List.mem_range.1 hi)).tabs u).1 hu;refine⟨q,e,hq,?_,h1,h2,h3⟩;rw[dW,Int.mul_comm,←Int.ediv_ediv_of_nonneg (by omega),hq8];have:=List.mem_range.1 hi;omega
  ·rintro⟨q,e,hq,hq8,h1,h2,h3⟩
   have hi:=ce hq hL;refine⟨(am q L).toNat,List.mem_range.2 (by omega),((hone _ (by omega)).tabs u).2 ⟨q,e,hq,?_,h1,h2,h3⟩⟩;exact se hq hL hq8 (by omega)
 ·rw[ee,hT]
  unfold List.Nodup;rw[List.pairwise_flatMap];refine⟨fun i hi=>(hone i (List.mem_range.1 hi)).nd,?_⟩;rw[List.pairwise_iff_getElem];intro i j hi hj hij x hx y hy hxy;simp only[List.length_range] at hi hj;simp only[List.getElem_range] at hx hy;subst hxy;obtain⟨q,e,hq,hq8,h1,h2,h3⟩:=((hone i hi).tabs x).1 hx;obtain⟨q',e',hq',hq8',h1',h2',h3'⟩:=((hone j hj).tabs x).1 hy;obtain⟨rfl,hpre⟩:=hw.inj q q' e e' x hq hq' h2 h2' h3 h3';have:=iz (show 4 - e≤L by omega) hpre;omega
theorem vd(hw:Wf s r gone X):∀L,L≤3→∀{p t:Int},dh p→bo s r p (3 - L)=C t→oo s r L t (p / aC (L+1)):=by
 intro L;induction L with
 |zero=>intro hL p t hp ht;exact oq hw hL hp ht fun K hK=>by omega
 |succ L ih=>
  intro hL p t hp ht;refine oq hw hL hp ht fun K hK=> ?_;obtain rfl:L=K:=by omega
  exact ih (by omega)
def dr(s:Ms)(r:Int):List Mp:=bT (cC s 3 r 0).vs
def tS(s:Ms)(r:Int):List Int:=r::eJ (cC s 3 r 0).vs
theorem ky(hw:Wf s r gone X):(cC s 3 r 0).code =0∧Lk s r (dr s r)∧(tS s r).Nodup ∧∀t,t∈tS s r↔rz s r t:=by
 have hA:oo s r 3 r ((0:Int) / aC (3+1)):=vd hw 3 (by omega) (show dh 0 from⟨by omega,by omega⟩) rfl;have e0:(0:Int) / aC (3+1)=0:=by decide
 rw[e0] at hA;have htop:∀q,dh q→q / aC (3+1)=0:=fun q hq=>by
  have h4:aC (3+1)=4096:=rfl;rw[h4];have:=hq.1;have:=hq.2;omega
 refine⟨hA.code,⟨⟨fun m hm=>(hA.maps m hm).1,hA.up⟩,fun q hq=> ?_⟩,?_,fun t=> ?_⟩
 ·have hl:=(tm s q hq.1 hq.2 3 (by omega) r 0 [] hA.code (by omega) (by decide)).2 (htop q hq)
  have hwy:bp s r q=cZ s q 3 r []:=by
   unfold bp;rw[if_pos (by unfold cP;rw[decide_eq_true hq.1,decide_eq_true hq.2];rfl)]
  show(bT (cC s 3 r 0).vs).find? (fun m=>over m q)=bv s r q;rw[←List.head?_filter,hl.2.1,←hwy];unfold bv;split<;>rfl
 ·unfold tS
  rw[List.nodup_cons];refine⟨fun hm=> ?_,hA.nd⟩;obtain⟨q,e,hq,_,h1,h2,h3⟩:=(hA.tabs r).1 hm;have:=(hw.inj q q e 0 r hq hq h2 (by omega) h3 rfl).1;omega
 ·unfold tS
  rw[List.mem_cons,hA.tabs t];constructor
  ·rintro(rfl|⟨q,e,hq,_,h1,h2,h3⟩)
   ·exact⟨0,0,⟨by omega,by omega⟩,by omega,rfl⟩
   ·exact⟨q,e,hq,h2,h3⟩
  ·rintro⟨q,e,hq,h2,h3⟩
   cases e with
   |zero=>injection h3 with h3;exact .inl h3.symm
   |succ e=>exact .inr ⟨q,e+1,hq,htop q hq,by omega,h2,h3⟩
end
section
variable (f:Nat) (s:Ms) (gone:List Int) (X:Int→Prop) (hw:Wf s 0 gone X) (R:ab) (w:G) (h:N w (dn f s*R))
include hw h
theorem wD:T prog 73 #[.pointer (C (M f 0 B)),D F 0] w fun e w'=>∃A c,e= .returned (.tuple #[.slice A (dr s 0).length c,D F 0])∧N w' (bO (.slice A (dr s 0).length c) (dr s 0)*(dn f s*R))∧Ext w w':=by
 refine(wB f s R w h 0).mono ?_;have hc:=(ky hw).1;have e1:kM (cC s 3 0 0)=dr s 0:=by unfold kM dr;rw[if_pos hc]
 rintro e w' ⟨A,c,he,h2,x2⟩;rw[e1] at he h2;rw[hc] at he;exact⟨A,c,he,h2,x2⟩
end
@[go_sem] def Ln.val (x:Ln):U:= .agg #[D F x.m.page,D F x.m.size,D F x.m.frame,D F x.m.rights,Z x.dirty]
def lnZero:U:= .agg #[D F 0,D F 0,D F 0,D F 0,Z H]
theorem sf:jh prog 143 lnZero 5 40:=⟨by kernel_rfl,rfl,by omega⟩
theorem gp(x:Ln):x.cells.length=5:=rfl
def gq(v:U)(l:List Ln):ab:=bZ 143 5 v l.length (bV l)
section
variable {w:G} {R:ab} {A:Option af} {n c:Nat} {l:List Ln}
theorem fC(h:N w (gq (.slice A n c) l*R)):n=l.length:=by
 rcases Has.rowCases (e:=143) (size:=5) h with ⟨hv,h0,_⟩|⟨g,cap,cur,hv,_⟩
 ·injection hv with a b
  omega
 ·injection hv
theorem eh(h:N w (gq (.slice A n c) l*R)):n≤9223372036854775807∧n≤c:=by
 obtain rfl:=fC h;refine⟨(Has.rowLens (e:=143) (size:=5) h).2,?_⟩;rcases Has.rowCases (e:=143) (size:=5) h with ⟨hv,h0,_⟩|⟨g,cap,cur,hv,h1,_⟩
 ·injection hv with a b
  omega
 ·injection hv with a b d
  omega
theorem jJ(h:N w (gq (.slice A n c) l*R)){k:Nat}(hk:k<l.length):
  ∃b,A=C (M b 0 B)∧b<w.heap.size∧
   (w.cell? ⟨b,k*5,B⟩=C (D F l[k].m.page)∧w.cell? ⟨b,k*5+1,B⟩=C (D F l[k].m.size)∧w.cell? ⟨b,k*5+2,B⟩=C (D F l[k].m.frame)∧w.cell? ⟨b,k*5+3,B⟩=C (D F l[k].m.rights)∧w.cell? ⟨b,k*5+4,B⟩=C (Z l[k].dirty))∧
   (w.frozen? ⟨b,k*5,B⟩=H∧w.frozen? ⟨b,k*5+1,B⟩=H∧w.frozen? ⟨b,k*5+2,B⟩=H∧w.frozen? ⟨b,k*5+3,B⟩=H∧w.frozen? ⟨b,k*5+4,B⟩=H):=by
 obtain rfl:=fC h;have g:=fun t (ht:t<5)=>Has.rowGet (e:=143) (size:=5) h (i:=k*5+t) (u:=(l[k].cells[t]'(by rw[gp];exact ht))) (by
  have:=lx (cells:=Ln.cells) gp hk ht;rw[I (l:=l[k].cells) (by rw[gp];exact ht)] at this;exact this)
 obtain⟨b,rfl,hb,c0,f0⟩:=g 0 (by omega);obtain⟨b1,e1,_,c1,f1⟩:=g 1 (by omega);obtain⟨b2,e2,_,c2,f2⟩:=g 2 (by omega);obtain⟨b3,e3,_,c3,f3⟩:=g 3 (by omega);obtain⟨b4,e4,_,c4,f4⟩:=g 4 (by omega);injection e1 with e1;injection e1 with e1;subst e1
 injection e2 with e2;injection e2 with e2;subst e2
 injection e3 with e3;injection e3 with e3;subst e3
 injection e4 with e4;injection e4 with e4;subst e4
 exact⟨b,rfl,hb,⟨c0,c1,c2,c3,c4⟩,f0,f1,f2,f3,f4⟩
theorem sg{g:Nat}(h:N w (gq (.slice (C (M g 0 B)) n c) l*R)){k:Nat}(hk:k<l.length)(x:Ln):
  N (((((w.setCell ⟨g,k*5,B⟩ (D F x.m.page)).setCell ⟨g,k*5+1,B⟩ (D F x.m.size)).setCell ⟨g,k*5+2,B⟩ (D F x.m.frame)).setCell ⟨g,k*5+3,B⟩ (D F x.m.rights)).setCell ⟨g,k*5+4,B⟩ (Z x.dirty))
   (gq (.slice (C (M g 0 B)) n c) (l.set k x)*R):=by
 obtain rfl:=fC h;have h1:=Has.rowSetCells (e:=143) (size:=5) x.cells (k*5) h (by rw[gp];omega);rw[gp] at h1;have e1:=rW (cells:=Ln.cells) gp hk x;have e2:(bV l).take (k*5)++(x.cells++(bV l).drop (k*5+5))=bV (l.set k x):=e1;rw[e2] at h1;unfold gq;rw[List.length_set];exact h1
end
def nx(p:Ln→Bool)(l:List Ln):Int:=match l.findIdx? p with|some k=>(k:Int)|none=> -1
theorem lI{p:Ln→Bool}{l:List Ln}{k:Nat}(hk:k<l.length)(h:p l[k]=V)(ha:∀j (hj:j<l.length),j<k→p l[j]=H):nx p l=k:=by
 unfold nx;rw[List.findIdx?_eq_some_iff_getElem.2 ⟨hk,h,fun j hj=>by rw[ha j (by omega) hj];decide⟩]
theorem kz{p:Ln→Bool}{l:List Ln}(ha:∀j (hj:j<l.length),p l[j]=H):nx p l= -1:=by
 unfold nx;rw[List.findIdx?_eq_none_iff.2 fun x hx=>by
  obtain⟨j,hj,rfl⟩:=List.getElem_of_mem hx;exact ha j hj]
theorem py(p:Ln→Bool)(l:List Ln):(nx p l= -1∧∀j (hj:j<l.length),p l[j]=H)∨∃(k:Nat) (h:k<l.length),nx p l=k∧p l[k]=V∧∀j (hj:j<l.length),j<k→p l[j]=H:=by
 cases hf:l.findIdx? p with
 |none=>
  have ha:∀j (hj:j<l.length),p l[j]=H:=fun j hj=>by simpa using List.findIdx?_eq_none_iff.1 hf _ (List.getElem_mem hj)
  exact .inl ⟨kz ha,ha⟩
 |some k=>
  obtain⟨hk,h1,h2⟩:=List.findIdx?_eq_some_iff_getElem.1 hf;have ha:∀j (hj:j<l.length),j<k→p l[j]=H:=fun j hj hjk=>by simpa using h2 j hjk
  exact .inr ⟨k,hk,lI hk h1 ha,h1,ha⟩
theorem kh(l:List Ln)(p:Ln→Bool)(g:Nat)(cap:Array U)(A:Option af)(n c:Nat)(R:ab)(w:G)(h:N w (gq (.slice A n c) l*R))
  (eg:∀args w,(callFunc g args).run prog w= .ok (.enter g args) w)
  (hp:∀x∈l,∀W,N W R→T prog g (#[x.val]++cap) W (al (Z (p x)) W)):
  T prog 159 #[.slice A n c,.func (.func g) #[] cap] w (al (D F (nx p l)) w):=by
 obtain rfl:=fC h;obtain⟨hbig,_⟩:=eh h;have HP:=J hp;clear hp;go_enter func159,ntmps159;go_wp2_with fail
 go_loopw [5,8] (fun _ s8 wr=>∃k:Nat,k≤l.length∧s8=D F k∧Below w.heap.size w wr∧Hid (∀j (hj:j<l.length),j<k→p l[j]=H)) (fun _ s8 _=>l.length - (intOf s8).toNat)
 case atStart=>exact⟨0,Nat.zero_le _,rfl,Below.refl _ _,J fun j _ h=>absurd h (Nat.not_lt_zero _)⟩
 case round=>
  obtain⟨k,hk,rfl,BW,HA⟩:=hrel;by_cases hlt:k<l.length
  ·have h':=h.below BW
   obtain⟨b,rfl,hb,⟨c0,c1,c2,c3,c4⟩,_⟩:=jJ h' hlt;have hc:=HP.out l[k] (List.getElem_mem hlt) wr h'.right;have hz:=J (show(l[k]=l[k]) from rfl);generalize hx:l[k]=x at c0 c1 c2 c3 c4 hc;have HX:=J hx;clear hx hz h';have BW':=J BW;clear BW h;cases hq:p x with
   |true=>
    rw[hq] at hc;go_wp2_with(go_at_fn g;refine hc.mono ?_;rintro e w' ⟨rfl,hb'⟩)
    go_ret;exact⟨by rw[lI hlt (by rw[HX.out];exact hq) HA.out];rfl,BW'.out.trans (hb'.mono BW'.out.size)⟩
   |false=>
    rw[hq] at hc;go_wp2_with(go_at_fn g;refine hc.mono ?_;rintro e w' ⟨rfl,hb'⟩)
    go_roundw
    case rel=>
     refine⟨k+1,by omega,by go_num,BW'.out.trans (hb'.mono BW'.out.size),J fun j hj hjk=> ?_⟩;by_cases e:j=k
     ·subst e;rw[HX.out];exact hq
     ·exact HA.out j hj (by omega)
    case measure=>simp[intOf];omega
  ·have:k=l.length:=by omega
   subst this;go_wp2_with fail
   go_ret;exact⟨by rw[kz fun j hj=>HA.out j hj hj];rfl,BW⟩
theorem qh:∀w,(zeroValue 143).run prog w= .ok lnZero w:=Tryz.zeroValue143
section
variable {w:G} {R:ab} {n c:Nat} {l:List Ln}
theorem pz{g i:Nat}(h:N w (gq (.slice (C (M g 0 B)) n c) l*R))(hi:i<n):∀ty,(Builtin.clear_ #[61] ty #[.slice (C ⟨g,i*5,B⟩) (n - i) (c - i)]).run prog w= .ok (.tuple #[]) (w.setCells g (i*5) (Builtin.zeroCells lnZero.cells (n - i)).toList):=by
 intro ty;have hl:=fC h;subst hl;have hg:∀j,j< (l.length - i)*5→(w.cell? ⟨g,i*5+j,B⟩).isSome =V∧w.frozen? ⟨g,i*5+j,B⟩=H:=fun j hj=>by
  obtain⟨b,hb,_,hc,hf⟩:=Has.rowGet (e:=143) (size:=5) h (i:=i*5+j) (u:=(bV l)[i*5+j]'(by rw[i7];omega)) (I _);injection hb with hb
  injection hb with hb
  subst hb;exact⟨by rw[hc];rfl,hf⟩
 exact gm w _ _ ty lnZero 5 underlying61 qh rfl (by intro v hv;simp[lnZero,Value.cells] at hv;rcases hv with rfl|rfl<;>rfl) g (i*5) _ _ (by omega) (by omega) (fun j hj=>(hg j hj).1) (fun j hj=>(hg j hj).2)
theorem si{g i:Nat}(h:N w (gq (.slice (C (M g 0 B)) n c) l*R))(hi:i≤n)(zs:List U):N (w.setCells g (i*5) zs) (gq (.slice (C (M g 0 B)) i c) (l.take i)*R):=by
 have hl:=fC h;subst hl;have h1:=Has.rowCut (e:=143) (size:=5) h hi;have h2:=Has.rowSpareCells zs (i*5) h1 (Nat.le_refl _);unfold gq;rw[List.length_take,Nat.min_eq_left hi];rw[show(bV l).take (i*5)=bV (l.take i) from fM gp l i] at h2;exact h2
end
theorem Ext.setCells{w0:G}(b:Nat):∀(vs:List U) (o:Nat) {w:G},Ext w0 w→Ext w0 (w.setCells b o vs)
 | [],_,_,h=>h
 |_::r,o,_,h=>Ext.setCells b r (o+1) (h.set _ _)
theorem jp{p:Ln→Bool}{l:List Ln}{j:Nat}(hj:j<l.length):(l.take (j+1)).filter p=(l.take j).filter p++(if p l[j] then [l[j]] else []):=by
 rw[List.take_succ_eq_append_getElem hj,List.filter_append];cases hq:p l[j]<;>simp[hq]
theorem mC(l:List Ln)(p:Ln→Bool)(g:Nat)(cap:Array U)(A:Option af)(n c:Nat)(R:ab)(w:G)(h:N w (gq (.slice A n c) l*R))
  (eg:∀args w,(callFunc g args).run prog w= .ok (.enter g args) w)
  (hp:∀x∈l,∀W,N W R→T prog g (#[x.val]++cap) W (al (Z (p x)) W)):
  T prog 185 #[.slice A n c,.func (.func g) #[] cap] w
   (cI (.slice A (l.filter fun x=> !p x).length c) (gq (.slice A (l.filter fun x=> !p x).length c) (l.filter fun x=> !p x)*R) w):=by
 have hI:=kh l p g cap A n c R w h eg hp;obtain rfl:=fC h;obtain⟨hbig,hnc⟩:=eh h;have HP:=J hp;clear hp;rcases py p l with ⟨e1,hall⟩|⟨k0,hk0,e1,ht,hall⟩
 ·rw[e1] at hI
  have hf:(l.filter fun x=> !p x)=l:=List.filter_eq_self.2 fun x hx=>by
   obtain⟨j,hj,rfl⟩:=List.getElem_of_mem hx;rw[hall j hj];rfl
  rw[hf];clear hall e1 hf;go_enter func185,ntmps185;go_wp2_with(refine hI.mono ?_;rintro e w2 ⟨rfl,b2⟩)
  go_ret;exact⟨rfl,h.below b2,(Y w).below b2⟩
 ·rw[e1] at hI
  have hne:((k0:Int)== -1)=H:=beq_eq_false_iff_ne.2 (by omega);have hA:=h;obtain⟨b,rfl,_⟩:=jJ hA hk0;clear hA;have HK:=J (show l.take k0=(l.take (k0+1)).filter fun x=> !p x by
   rw[jp hk0,ht];simp only[Bool.not_true,Bool.false_eq_true,if_false,List.append_nil];exact(List.filter_eq_self.2 fun x hx=>by
    obtain⟨j,hj,rfl⟩:=List.getElem_of_mem hx;rw[List.length_take] at hj;rw[List.getElem_take,hall j (by omega) (by omega)];rfl).symm)
  clear hall ht e1;go_enter func185,ntmps185;go_wp2_with(refine hI.mono ?_;rintro e w2 ⟨rfl,b2⟩)
  have h2:=h.below b2;have x2:=(Y w).below b2;clear h hI;go_loopw [5,6,7] (fun s5 s6 _ wr=>∃(i j:Nat) (dk:List Ln),s5=D F i∧s6=D F j∧i<j∧j≤l.length∧dk.length=l.length∧Hid (dk.take i=(l.take j).filter fun x=> !p x)∧Hid (dk.drop j=l.drop j)∧N wr (gq (.slice (C (M b 0 B)) l.length c) dk*R)∧Ext w wr) (fun _ s6 _ _=>l.length - (intOf s6).toNat)
  case atStart=>exact⟨k0,k0+1,l,rfl,by go_num,by omega,by omega,rfl,HK,J rfl,h2,x2⟩
  case round=>
   clear h2 x2 b2 HK;obtain⟨i,j,dk,rfl,rfl,hij,hjl,hdl,HT,HD,hr,hx⟩:=hrel;by_cases hlt:j<l.length
   ·have hj:j<dk.length:=by omega
    have hxj:dk[j]=l[j]:=by
     have e1:(dk.drop j)[0]? =(l.drop j)[0]? :=by rw[HD.out]
     simp only[List.getElem?_drop,Nat.add_zero] at e1;rw[I hj,I hlt] at e1;injection e1
    obtain⟨b',hb',hb,⟨c0,c1,c2,c3,c4⟩,_⟩:=jJ hr hj;injection hb' with hb'
    injection hb' with hb'
    subst hb';rw[hxj] at c0 c1 c2 c3 c4;have HX:=J (show l[j]∈l from List.getElem_mem hlt);have HN:=J (jp (p:=fun x=> !p x) hlt);have HDN:=J (show dk.drop (j+1)=l.drop (j+1) by
     have:=HD.out;rw[←List.drop_drop (j:=j) (i:=1),←List.drop_drop (j:=j) (i:=1),this])
    clear hxj;generalize l[j]=x at c0 c1 c2 c3 c4 HX HN;have h3:=hr.new #[D F x.m.page,D F x.m.size,D F x.m.frame,D F x.m.rights,Z x.dirty] 143;have x3:=hx.alloc (.cells #[D F x.m.page,D F x.m.size,D F x.m.frame,D F x.m.rights,Z x.dirty] 143);have hc:=HP.out x HX.out _ h3.right.right;clear hr hx;cases hq:p x with
    |true=>
     rw[hq] at hc;go_wp2_with(refine hc.mono ?_;rintro e w' ⟨rfl,b4⟩)
     have h4:=(h3.below b4).right;have x4:=x3.below b4;go_roundw
     case rel=>exact⟨i,j+1,dk,rfl,by go_num,by omega,by omega,hdl,J (by rw[HT.out,HN.out,hq];simp),HDN,h4,x4⟩
     case measure=>simp[intOf];omega
    |false=>
     rw[hq] at hc;have hi:i<dk.length:=by omega
     go_wp2_with(refine hc.mono ?_;rintro e w' ⟨rfl,b4⟩;have h4:=h3.below b4;obtain⟨a0,a1,a2,a3,a4⟩:=h4.cells5;obtain⟨b',hb',gb,⟨g0,g1,g2,g3,g4⟩,f0,f1,f2,f3,f4⟩:=jJ h4.right hi;injection hb' with hb';injection hb' with hb';subst hb')
     have h5:=sg h4.right hi x;go_roundw
     case rel=>
      refine⟨i+1,j+1,dk.set i x,by go_num,by go_num,by omega,by omega,by rw[List.length_set];exact hdl,J ?_,J ?_,h5,((((((x3.below b4).set _ _).set _ _).set _ _).set _ _).set _ _)⟩
      ·rw[HN.out,hq,←HT.out,List.take_succ_eq_append_getElem (by rw[List.length_set];exact hi),List.getElem_set_self,List.take_set_of_le (Nat.le_refl i)]
       simp
      ·rw[List.drop_set_of_lt (by omega),HDN.out]
     case measure=>simp[intOf];omega
   ·have hje:j=l.length:=by omega
    subst hje;obtain⟨zs,hcl⟩:∃zs,∀ty,(Builtin.clear_ #[61] ty #[.slice (C ⟨b,i*5,B⟩) (l.length - i) (c - i)]).run prog wr= .ok (.tuple #[]) (wr.setCells b (i*5) zs):=⟨_,pz hr hij⟩;have hci:¬l.length≤i:=by omega
    have hfin:=si hr (Nat.le_of_lt hij) zs;have hf:dk.take i=l.filter fun x=> !p x:=by rw[HT.out,List.take_length]
    have hfl:(l.filter fun x=> !p x).length =i:=by rw[←hf,List.length_take];omega
    have hF:=J hf;have hFL:=J hfl;clear hf hfl hr;go_wp2_with fail
    go_ret;rw[hFL.out,←hF.out];exact⟨rfl,hfin,Ext.setCells _ _ _ hx⟩
theorem tT:(prog.info? 143).map (fun i=>(i.zero,i.size,i.bytes))=C (C lnZero,5,40):=by kernel_rfl
theorem sj{l:List Ln}:∀u∈bV l,u.oneCell'=V:=by
 intro u hu;obtain⟨x,_,hx⟩:=List.mem_flatMap.1 hu;simp[Ln.cells] at hx;rcases hx with rfl|rfl|rfl|rfl|rfl<;>rfl
theorem qI{w:G}{R:ab}{g n c:Nat}{l:List Ln}(h:N w (gq (.slice (C (M g 0 B)) n c) l*R))(k:Nat):
  ∀j u,((bV l).drop (k*5))[j]? =C u→w.cell? ⟨g,k*5+j,B⟩=C u:=by
 intro j u hu;rw[List.getElem?_drop] at hu;obtain rfl:=fC h;obtain⟨b,hb,_,hc,_⟩:=Has.rowGet (e:=143) (size:=5) h hu;injection hb with hb
 injection hb with hb
 subst hb;exact hc
theorem qJ(l:List Ln)(i j g n c:Nat)(R:ab)(w:G)(hij:i<j)(hj:j≤n)(h:N w (gq (.slice (C (M g 0 B)) n c) l*R)):
  T prog 112 #[.slice (C (M g 0 B)) n c,.int .i64 i,.int .i64 j] w
   (cI (.slice (C (M g 0 B)) (i+(n - j)) c) (gq (.slice (C (M g 0 B)) (i+(n - j)) c) (l.take i++l.drop j)*R) w):=by
 obtain rfl:=fC h;obtain⟨hbig,hnc⟩:=eh h;obtain⟨i0,hi0,hz0,hz1,hz2⟩:=info_parts tT;obtain⟨A,hA,hnews⟩:∃A:af,(if c=j then C ((M g 0 B):af) else C ⟨g,j*5,B⟩)=C A∧Hid (∀t u,((bV l).drop (j*5))[t]? =C u→w.drew.cell? (A.add t)=C u):=by
  by_cases hc:c=j
  ·refine⟨(M g 0 B),by simp[hc],fun t u hu=> ?_⟩
   rw[List.drop_eq_nil_of_le (by rw[i7];omega)] at hu;simp at hu
  ·refine⟨⟨g,j*5,B⟩,by simp[hc],fun t u hu=> ?_⟩
   rw[Addr.add_lit];exact qI h j t u hu
 have s1:Hid (((bV l).drop (j*5)).length =(l.length - j)*5):=by rw[List.length_drop,i7];show _=_;omega
 have s2:Hid (∀u∈(bV l).drop (j*5),u.oneCell'=V):=fun u hu=>sj u (List.mem_of_mem_drop hu);have s3:Hid (∀t,t< ((bV l).drop (j*5)).length →(w.drew.cell? ⟨g,0+i*5+t,B⟩).isSome =V∧w.drew.frozen? ⟨g,0+i*5+t,B⟩=H):=by
  intro t ht;rw[s1.out] at ht;obtain⟨b,hb,_,hc,hf⟩:=Has.rowGet (e:=143) (size:=5) h (i:=i*5+t) (u:=(bV l)[i*5+t]'(by rw[i7];omega)) (I _);injection hb with hb
  injection hb with hb
  subst hb;rw[Nat.zero_add];exact⟨by show(w.cell? _).isSome =V;rw[hc];rfl,hf⟩
 have hic:i≤c:=by omega
 have hne:((i:Int)==(j:Int))=H:=beq_eq_false_iff_ne.2 (by omega);go_enter func112,ntmps112;go_wp2_with fail
 go_region_law (refine step_append_room rfl (.tmp 22) (.tmp 25) 61 rfl 143 i0 5 underlying61 hi0 hz1 g 0 i c (by simp[Act.eval,Act.put]) A (l.length - j) (c - j) ((bV l).drop (j*5)) (by simp[Act.eval,Act.put]) s1.out hnews.out s2.out (by omega) s3.out ?_)
 have hn':i+(l.length - j)<l.length:=by omega
 have h1:=Has.rowSetCells (e:=143) (size:=5) ((bV l).drop (j*5)) (i*5) h.drew (by rw[s1.out];omega);have hz:(l.take i++l.drop j).length =i+(l.length - j):=by simp;omega
 obtain⟨zs,hcl⟩:∃zs,∀ty,(Builtin.clear_ #[61] ty #[.slice (C ⟨g,(i+(l.length - j))*5,B⟩) (l.length - (i+(l.length - j))) (c - (i+(l.length - j)))]).run prog (w.drew.setCells g (i*5) ((bV l).drop (j*5)))= .ok (.tuple #[]) ((w.drew.setCells g (i*5) ((bV l).drop (j*5))).setCells g ((i+(l.length - j))*5) zs):=by
  refine⟨_,fun ty=>gm _ _ _ ty lnZero 5 underlying61 qh rfl (by intro v hv;simp[lnZero,Value.cells] at hv;rcases hv with rfl|rfl<;>rfl) g _ _ _ (by omega) (by omega) (fun t ht=> ?_) (fun t ht=> ?_)⟩
  all_goals
   obtain⟨b,hb,_,hc,hf⟩:=Has.rowGet (e:=143) (size:=5) h1 (i:=(i+(l.length - j))*5+t) (I (by rw[h1.rowLens.1];omega));injection hb with hb
   injection hb with hb
   subst hb
  ·rw[hc];rfl
  ·exact hf
 have hfin:N ((w.drew.setCells g (i*5) ((bV l).drop (j*5))).setCells g ((i+(l.length - j))*5) zs) (gq (.slice (C (M g 0 B)) (i+(l.length - j)) c) (l.take i++l.drop j)*R):=by
  have:=Has.rowDelete (e:=143) (size:=5) (i:=i) (j:=j) h.drew (by omega) hj zs;unfold gq;rw[hz,fT];have e1:(bV l).take (i*5)=bV (l.take i):=fM gp l i;have e2:(bV l).drop (j*5)=bV (l.drop j):=fL gp l j;rw[←e1,←e2];exact this
 have hx:Ext w ((w.drew.setCells g (i*5) ((bV l).drop (j*5))).setCells g ((i+(l.length - j))*5) zs):=Ext.setCells _ _ _ (Ext.setCells _ _ _ (Y w).drew);clear h1 s1 s2 s3 hnews hA h hz;generalize (w.drew.setCells g (i*5) ((bV l).drop (j*5)))=w1 at*
 generalize i+(l.length - j)=n' at*
 have hcn:¬c≤n':=by omega
 have hnn:(n':Int)≤(l.length:Int):=by omega
 go_wp2_with fail
 go_ret;exact⟨rfl,hfin,hx⟩
theorem mW{w:G}{R:ab}{b:Nat}{v0 v1 v2 v3 v4:U}(h:N w (aa b #[v0,v1,v2,v3,v4] 143*R)):(loadVar 143 (M b 0 B)).run prog w= .ok (.agg #[v0,v1,v2,v3,v4]) w:=
 run_loadVar_row w b 143 143 _ _ _ h.heap underlying143 rfl (by kernel_rfl)
theorem Has.set5{w:G}{R:ab}{b:Nat}{v0 v1 v2 v3 v4:U}{t:TypeId}(h:N w (aa b #[v0,v1,v2,v3,v4] t*R))(u0 u1 u2 u3 u4:U):
  N (((((w.setCell (M b 0 B) u0).setCell (M b 1 B) u1).setCell (M b 2 B) u2).setCell (M b 3 B) u3).setCell (M b 4 B) u4) (aa b #[u0,u1,u2,u3,u4] t*R):=
 ((((h.set 0 u0).set 1 u1).set 2 u2).set 3 u3).set 4 u4
theorem Has.frees5{w:G}{R:ab}{b:Nat}{v0 v1 v2 v3 v4:U}{t:TypeId}(h:N w (aa b #[v0,v1,v2,v3,v4] t*R)):
  w.frozen? (M b 0 B)=H∧w.frozen? (M b 1 B)=H∧w.frozen? (M b 2 B)=H∧w.frozen? (M b 3 B)=H∧w.frozen? (M b 4 B)=H:=
 ⟨h.free 0,h.free 1,h.free 2,h.free 3,h.free 4⟩
def ki(p:Nat)(A:Option af)(c:Nat)(l:List Ln)(R:ab):ab:=aa p #[.slice A l.length c] 189*(gq (.slice A l.length c) l*R)
def bY(p:Nat)(l:List Ln):ab:=ex fun A=>ex fun c=>ki p A c l (dN True)
theorem jK(R:ab):dN True*R=R:=by
 funext h
 apply propext;constructor
 ·rintro⟨h1,h2,d,rfl,⟨_,rfl⟩,q⟩
  have:Hpm.union Hpm.emp h2=h2:=by funext b;simp[Hpm.union,Hpm.emp]
  rw[this];exact q
 ·intro q
  exact⟨Hpm.emp,h,fun b=> .inl rfl,by funext b;simp[Hpm.union,Hpm.emp],⟨trivial,rfl⟩,q⟩
theorem eY{p:Nat}{l:List Ln}{R:ab}{w:G}(h:N w (bY p l*R)):∃A c,N w (ki p A c l R):=by
 unfold bY at h;obtain⟨g,h⟩:=aH.1 h;obtain⟨vf,h⟩:=aH.1 h;refine⟨g,vf,?_⟩;unfold ki at h⊢;simpa only[aG,jK] using h
theorem gT{p c:Nat}{A:Option af}{l:List Ln}{R:ab}{w:G}(h:N w (ki p A c l R)):N w (bY p l*R):=by
 unfold bY;refine aH.2 ⟨A,aH.2 ⟨c,?_⟩⟩;unfold ki at h⊢;simpa only[aG,jK] using h
def wE(l:List Ln):Prop:=∀x∈l,cL x.m.page
theorem xI(R:ab)(w:G)(h:N w R):T prog 95 #[] w fun e w'=>∃p,cI (.pointer (C (M p 0 B))) (bY p []*R) w e w':=by
 have h1:=h.new #[.slice B 0 0] 189;have h2:N (w.alloc (.cells #[.slice B 0 0] 189)) (ki w.heap.size B 0 [] R):=(Has.rowNil h1).p2;go_enter func95,ntmps95;go_wp2;go_ret;exact⟨_,rfl,gT h2,(Y w).alloc _⟩
theorem ny(x:Ln)(k:Int)(X:Nat)(R:ab)(w:G)(hx:cL x.m.page)(hk:cL k)(h:N w (aa X #[D F k] 3*R)):
  T prog 160 #[x.val,.pointer (C (M X 0 B))] w (al (Z (over x.m k)) w):=by
 have h1:=h.new #[D F x.m.page,D F x.m.size,D F x.m.frame,D F x.m.rights,Z x.dirty] 143;have bl:=(Below.refl w.heap.size w).alloc (Nat.le_refl _) (.cells #[D F x.m.page,D F x.m.size,D F x.m.frame,D F x.m.rights,Z x.dirty] 143);have c0:=h1.right.cell 0;have hX:=h1.right.lt;obtain⟨d0,d1,d2,d3,d4⟩:=h1.cells5;go_enter func160,ntmps160;go_wp2_with(refine(jF x.m k _ hx hk).mono ?_;rintro e w2 ⟨rfl,b2⟩)
 go_ret;exact⟨rfl,bl.trans (b2.mono bl.size)⟩
theorem nz(x:Ln)(m:Mp)(X:Nat)(R:ab)(w:G)(hx:cL x.m.page)(hm:cL m.page)(h:N w (aa X #[D F m.page,D F m.size,D F m.frame,D F m.rights] 39*R)):
  T prog 186 #[x.val,.pointer (C (M X 0 B))] w (al (Z (du x.m m)) w):=by
 have h1:=h.new #[D F x.m.page,D F x.m.size,D F x.m.frame,D F x.m.rights,Z x.dirty] 143;have bl:=(Below.refl w.heap.size w).alloc (Nat.le_refl _) (.cells #[D F x.m.page,D F x.m.size,D F x.m.frame,D F x.m.rights,Z x.dirty] 143);obtain⟨c0,c1,c2,c3⟩:=h1.right.cells4;have hX:=h1.right.lt;obtain⟨d0,d1,d2,d3,d4⟩:=h1.cells5;go_enter func186,ntmps186;go_wp2_with(refine(oe x.m m _ hx hm).mono ?_;rintro e w2 ⟨rfl,b2⟩)
 go_ret;exact⟨rfl,bl.trans (b2.mono bl.size)⟩
theorem sk(p:Nat)(R:ab)(w:G)(h:N w (bY p []*R)):
  T prog 64 #[.pointer (C (M p 0 B))] w (cI (Z H) (bY p []*R) w):=by
 obtain⟨A,c,h⟩:=eY h;have c0:w.cell? (M p 0 B)=C (.slice A 0 c):=h.cell 0;have hp:=h.lt;go_enter func64,ntmps64;go_wp2_with fail
 go_ret;exact⟨rfl,gT h,Y _⟩
theorem mX(p:Nat)(l:List Ln)(R:ab)(w:G)(hl:0<l.length)(h:N w (bY p l*R)):
  T prog 64 #[.pointer (C (M p 0 B))] w (cI (Z V) (bY p l.tail*R) w):=by
 obtain⟨A,c,h⟩:=eY h;obtain⟨g,rfl,_⟩:=jJ (k:=0) h.right hl;have hC:=qJ l 0 1 g l.length c _ w (by omega) (by omega) h.p2;have hne:((l.length:Int)==0)=H:=beq_eq_false_iff_ne.2 (by omega);have e1:l.take 0++l.drop 1=l.tail:=by simp
 have e2:0+(l.length - 1)=l.tail.length:=by simp
 rw[e1,e2] at hC;clear e1 e2;have c0:w.cell? (M p 0 B)=C (.slice (C (M g 0 B)) l.length c):=h.cell 0;have hp:=h.lt;have hbig:=(eh h.right).1;clear h;generalize l.tail=l' at*
 go_enter func64,ntmps64;go_wp2_with(refine hC.mono ?_;rintro e w2 ⟨rfl,h2,x2⟩;have d0:=h2.right.lt;have d1:=h2.right.free 0;have d2:=h2.right.cell 0)
 go_ret;exact⟨rfl,gT (h2.p2.set 0 _),x2.set _ _⟩
theorem uK(p:Nat)(l:List Ln)(m:Mp)(R:ab)(w:G)(hok:wE l)(hm:cL m.page)(h:N w (bY p l*R)):
  T prog 168 #[.pointer (C (M p 0 B)),.agg #[D F m.page,D F m.size,D F m.frame,D F m.rights]] w (cI (D F ((l.length:Int) - (Tl.drop l m).length)) (bY p (Tl.drop l m)*R) w):=by
 have hmf:∀(fn:Fn) (first cap:Array U) (w:G),(Instr.makeFunc fn first cap).run prog w= .ok (.func fn first cap) w:=fun _ _ _ _=>rfl;obtain⟨A,c,h⟩:=eY h;have h1:=h.new #[D F m.page,D F m.size,D F m.frame,D F m.rights] 39;have x1:=(Y w).alloc (.cells #[D F m.page,D F m.size,D F m.frame,D F m.rights] 39);have hbig:=(eh h.right).1;have c0:=h1.right.cell 0;have hp:=h1.right.lt;have h2:N (w.alloc (.cells #[D F m.page,D F m.size,D F m.frame,D F m.rights] 39)) (gq (.slice A l.length c) l*(aa w.heap.size #[D F m.page,D F m.size,D F m.frame,D F m.rights] 39*(aa p #[.slice A l.length c] 189*R))):=h1.eq (by unfold ki;(simp only[aG,ar,bj]));have hC:=mC l (fun x=>du x.m m) 186 #[.pointer (C (M w.heap.size 0 B))] A l.length c _ _ h2 (enters_of func186 (by kernel_rfl) rfl) (fun x hx W hW=>nz x m _ _ W (hok x hx) hm hW);have hle:(Tl.drop l m).length ≤l.length:=List.length_filter_le _ _;have hC2:T prog 185 #[.slice A l.length c,.func (.func 186) #[] #[.pointer (C (M w.heap.size 0 B))]] (w.alloc (.cells #[D F m.page,D F m.size,D F m.frame,D F m.rights] 39))
   (cI (.slice A (Tl.drop l m).length c) (gq (.slice A (Tl.drop l m).length c) (Tl.drop l m)*(aa w.heap.size #[D F m.page,D F m.size,D F m.frame,D F m.rights] 39*(aa p #[.slice A l.length c] 189*R))) (w.alloc (.cells #[D F m.page,D F m.size,D F m.frame,D F m.rights] 39))):=hC
 clear hC h2 h1 h;generalize Tl.drop l m=l' at*
 go_enter func168,ntmps168;go_wp2_with(refine hC2.mono ?_;rintro e w2 ⟨rfl,h2,x2⟩;have d0:=h2.right.right.lt;have d1:=h2.right.right.free 0;have d2:=h2.right.right.cell 0)
 have h3:N w2 (aa p #[.slice A l.length c] 189*(gq (.slice A l'.length c) l'*R)):=h2.p2.right.p2;go_ret;exact⟨by go_num,gT (h3.set 0 _),(x1.trans x2).set _ _⟩
def wF:Option Ln→U
 |none=>lnZero
 |some x=>x.val
theorem wG(p:Nat)(l:List Ln)(k:Int)(R:ab)(w:G)(hok:wE l)(hk:cL k)(h:N w (bY p l*R)):
  T prog 102 #[.pointer (C (M p 0 B)),.int .i64 k] w (al (.tuple #[wF (Tl.find l k),Z (Tl.find l k).isSome]) w):=by
 have hmf:∀(fn:Fn) (first cap:Array U) (w:G),(Instr.makeFunc fn first cap).run prog w= .ok (.func fn first cap) w:=fun _ _ _ _=>rfl;obtain⟨A,c,h⟩:=eY h;have h1:=h.new #[D F k] 3;have h2:=h1.new #[D F 0,D F 0,D F 0,D F 0,Z H] 143;have H2:=((aT w).new #[D F k] 3).new #[D F 0,D F 0,D F 0,D F 0,Z H] 143;have x2:=((Y w).alloc (.cells #[D F k] 3)).alloc (.cells #[D F 0,D F 0,D F 0,D F 0,Z H] 143);simp only[World.size_alloc] at h2 H2;have hbig:=(eh h.right).1;have hL:N ((w.alloc (.cells #[D F k] 3)).alloc (.cells #[D F 0,D F 0,D F 0,D F 0,Z H] 143)) (gq (.slice A l.length c) l*(aa w.heap.size #[D F k] 3*(aa (w.heap.size+1) #[D F 0,D F 0,D F 0,D F 0,Z H] 143*(aa p #[.slice A l.length c] 189*R)))):=h2.eq (by unfold ki;(simp only[aG,ar,bj]));have hC:=kh l (fun x=>over x.m k) 160 #[.pointer (C (M w.heap.size 0 B))] A l.length c _ _ hL (enters_of func160 (by kernel_rfl) rfl) (fun x hx W hW=>ny x k _ _ W (hok x hx) hk hW);have c0:=h2.right.right.cell 0;have hp:=h2.right.right.lt;have he:nx (fun x=>over x.m k) l=Tl.idx l k:=rfl;rw[he] at hC;clear he h h1 h2;rcases Tl.idx_find l k with ⟨e1,e2⟩|⟨j,hj,e1,e2,_⟩
 ·rw[e1]
  rw[e2] at hC;clear e1 e2;go_enter func102,ntmps102;go_wp2_with(refine hC.mono ?_;rintro e w2 ⟨rfl,b2⟩;have H3:=H2.below b2;have x3:=x2.below b2;obtain⟨d0,d1,d2,d3,d4⟩:=H3.cells5;obtain⟨f0,f1,f2,f3,f4⟩:=H3.frees5;have fl:=H3.lt)
  refine ak (fun wz=>N wz (aa (w.heap.size+1) #[D F 0,D F 0,D F 0,D F 0,Z H] 143*(aa w.heap.size #[D F k] 3*bS w w.heap.size))∧Ext w wz) ⟨H3.set5 _ _ _ _ _,ah⟩ ?_;rintro wz ⟨hz,xz⟩;exact ad (av results102 rfl rfl (mW hz)) rfl ⟨rfl,aq hz.right.right xz⟩
 ·rw[e2]
  rw[e1] at hC;clear e1 e2;go_enter func102,ntmps102;go_wp2_with(refine hC.mono ?_;rintro e w2 ⟨rfl,b2⟩;have H3:=H2.below b2;have x3:=x2.below b2;obtain⟨d0,d1,d2,d3,d4⟩:=H3.cells5;obtain⟨f0,f1,f2,f3,f4⟩:=H3.frees5;have fl:=H3.lt;have k0:=(hL.below b2).right.right.right.cell 0;have kp:=(hL.below b2).right.right.right.lt;obtain⟨g,rfl,gb,⟨g0,g1,g2,g3,g4⟩,_⟩:=jJ (hL.below b2) hj)
  generalize l[j]=x at*
  refine ak (fun wz=>N wz (aa (w.heap.size+1) #[D F x.m.page,D F x.m.size,D F x.m.frame,D F x.m.rights,Z x.dirty] 143*(aa w.heap.size #[D F k] 3*bS w w.heap.size))∧Ext w wz) ⟨H3.set5 _ _ _ _ _,ah⟩ ?_;rintro wz ⟨hz,xz⟩;exact ad (av results102 rfl rfl (mW hz)) rfl ⟨rfl,aq hz.right.right xz⟩
theorem jq(x:Ln):∀u∈x.cells,u.oneCell'=V:=by
 intro u hx;simp[Ln.cells] at hx;rcases hx with rfl|rfl|rfl|rfl|rfl<;>rfl
theorem ot{p c X:Nat}{A:Option af}{l:List Ln}{x:Ln}{cs:Array U}{t:TypeId}{R:ab}{w:G}(h:N w (aa p #[.slice A (l.length+1) c] 189*(bZ 143 5 (.slice A (l.length+1) c) (l.length+1) (bV l++x.cells)*(aa X cs t*R)))):
  N w (bY p (l++[x])*R):=by
 have h1:=h.drop3;refine gT (A:=A) (c:=c) ?_;unfold ki gq;rw[show(l++[x]).length =l.length+1 by simp,fT,show bV [x]=x.cells by simp[bV]];exact h1
theorem vg(p:Nat)(l:List Ln)(x:Ln)(R:ab)(w:G)(hc:ba x.m≠0)(h:N w (bY p l*R)):
  T prog 107 #[.pointer (C (M p 0 B)),.agg #[D F x.m.page,D F x.m.size,D F x.m.frame,D F x.m.rights,Z x.dirty]] w (cI (Z H) (bY p l*R) w):=by
 have h1:=h.new #[D F x.m.page,D F x.m.size,D F x.m.frame,D F x.m.rights,Z x.dirty] 143;have x1:=(Y w).alloc (.cells #[D F x.m.page,D F x.m.size,D F x.m.frame,D F x.m.rights,Z x.dirty] 143);obtain⟨d0,d1,d2,d3,d4⟩:=h1.cells5;have hn:(ba x.m !=0)=V:=by simpa using hc
 have HC:=J (jG x.m);generalize ba x.m=k at*
 go_enter func107,ntmps107;go_wp2_with(refine(HC.out _).mono ?_;rintro e w2 ⟨rfl,b2⟩)
 go_ret;exact⟨rfl,h1.right.below b2,x1.below b2⟩
theorem tU(p:Nat)(l:List Ln)(x:Ln)(R:ab)(w:G)(hok:wE l)(hx:cL x.m.page)(hl:l.length≤1000)(hc:ba x.m=0)(h:N w (bY p l*R)):
  T prog 107 #[.pointer (C (M p 0 B)),.agg #[D F x.m.page,D F x.m.size,D F x.m.frame,D F x.m.rights,Z x.dirty]] w (cI (Z V) (bY p (Tl.room (Tl.drop l x.m)++[x])*R) w):=by
 have h1:=h.new #[D F x.m.page,D F x.m.size,D F x.m.frame,D F x.m.rights,Z x.dirty] 143;have x1:=(Y w).alloc (.cells #[D F x.m.page,D F x.m.size,D F x.m.frame,D F x.m.rights,Z x.dirty] 143);obtain⟨d0,d1,d2,d3,d4⟩:=h1.cells5;have HC:=J (jG x.m);rw[hc] at HC;have HD:=J (fun R w h=>uK p l x.m R w hok hx h);have hle:(Tl.drop l x.m).length ≤l.length:=List.length_filter_le _ _;clear hc;generalize Tl.drop l x.m=l1 at*
 by_cases h6:l1.length=6
 ·have hr:Tl.room l1=l1.tail:=by unfold Tl.room;rw[if_pos h6]
  rw[hr];go_enter func107,ntmps107;go_wp2_with fail
  refine(HC.out _).mono ?_;rintro e w2 ⟨rfl,b2⟩;have h2:=h1.below b2;have x2:=x1.below b2;clear d0 d1 d2 d3 d4;obtain⟨d0,d1,d2,d3,d4⟩:=h2.cells5;go_wp2_with fail
  refine(HD.out _ _ h2.p2).mono ?_;rintro e w3 ⟨rfl,h3,x3⟩;have x3:=x2.trans x3;obtain⟨A,c,h3o⟩:=eY h3;have c0:w3.cell? (M p 0 B)=C (.slice A l1.length c):=h3o.cell 0;rw[h6] at c0;have cp:=h3o.lt;clear d0 d1 d2 d3 d4 h1 h2 x1 x2 h HC HD;go_wp2_with fail
  refine(mX p l1 _ _ (by omega) h3).mono ?_;rintro e wz ⟨rfl,h4,x4⟩;have hl':l1.tail.length≤1000:=by simp[h6]
  generalize l1.tail=l2 at*
  have x4:=x3.trans x4;obtain⟨A,c,h4⟩:=eY h4;clear c0 cp h3o h3 hle h6 hr x3;go_wp2_with fail
  have hsm:=(eh h4.right).1;have c0:=h4.cell 0;have cp:=h4.lt;have cf:=h4.free 0;obtain⟨d0,d1,d2,d3,d4⟩:=h4.right.right.cells5;have dl:=h4.right.right.lt;have hrow:=(h4.drew.p2).alloc (.cells #[D F x.m.page,D F x.m.size,D F x.m.frame,D F x.m.rights,Z x.dirty] 143);go_region_law (refine cg rfl (.tmp 25) (.tmp 27) 61 rfl underlying61 sf _ _ _ (by simp[Act.eval]) hrow (M wz.heap.size 0 B) 1 1 x.cells (by simp[Act.eval]) rfl (dx wz.drew x.cells 143) (jq x) (by unfold maxLen;omega) (by omega) ?_;intro A' c' w5 h5 x5;have g0:=h5.right.lt;have g1:=h5.right.free 0;have g2:=h5.right.cell 0)
  all_goals
   go_wp2_with fail
   go_ret;exact⟨rfl,ot (h5.p2.set 0 _),((x4.drew.alloc _).trans x5).set _ _⟩
 ·have hr:Tl.room l1=l1:=by unfold Tl.room;rw[if_neg h6]
  rw[hr];have h6':((l1.length:Int)==6)=H:=beq_eq_false_iff_ne.2 (by omega);clear hr h6;go_enter func107,ntmps107;go_wp2_with fail
  refine(HC.out _).mono ?_;rintro e w2 ⟨rfl,b2⟩;have h2:=h1.below b2;have x2:=x1.below b2;clear d0 d1 d2 d3 d4;obtain⟨d0,d1,d2,d3,d4⟩:=h2.cells5;go_wp2_with fail
  refine(HD.out _ _ h2.p2).mono ?_;rintro e wz ⟨rfl,h3,x3⟩;have x4:=x2.trans x3;obtain⟨A,c,h4⟩:=eY h3;clear d0 d1 d2 d3 d4 h1 h2 x1 x2 h HC HD h3;have hl':l1.length≤1000:=by omega
  clear hle;have c0:wz.cell? (M p 0 B)=C (.slice A l1.length c):=h4.cell 0;have cp:=h4.lt;go_wp2_with fail
  have hsm:=(eh h4.right).1;have c0:=h4.cell 0;have cp:=h4.lt;have cf:=h4.free 0;obtain⟨d0,d1,d2,d3,d4⟩:=h4.right.right.cells5;have dl:=h4.right.right.lt;have hrow:=(h4.drew.p2).alloc (.cells #[D F x.m.page,D F x.m.size,D F x.m.frame,D F x.m.rights,Z x.dirty] 143);go_region_law (refine cg rfl (.tmp 25) (.tmp 27) 61 rfl underlying61 sf _ _ _ (by simp[Act.eval]) hrow (M wz.heap.size 0 B) 1 1 x.cells (by simp[Act.eval]) rfl (dx wz.drew x.cells 143) (jq x) (by unfold maxLen;omega) (by omega) ?_;intro A' c' w5 h5 x5;have g0:=h5.right.lt;have g1:=h5.right.free 0;have g2:=h5.right.cell 0)
  all_goals
   go_wp2_with fail
   go_ret;exact⟨rfl,ot (h5.p2.set 0 _),((x4.drew.alloc _).trans x5).set _ _⟩
theorem Tl.Ok.lok{l:List Ln}(h:Tl.Ok l):wE l:=fun x hx=>by
 have hm:=ep (h.chk x hx);have:=hm.p0;have:=hm.p1;have:=hm.sp;exact⟨by omega,by omega⟩
theorem xJ(p:Nat)(l:List Ln)(x:Ln)(R:ab)(w:G)(hl:Tl.Ok l)(hx:cL x.m.page)(h:N w (bY p l*R)):
  T prog 107 #[.pointer (C (M p 0 B)),.agg #[D F x.m.page,D F x.m.size,D F x.m.frame,D F x.m.rights,Z x.dirty]] w (cI (Z (decide (ba x.m=0))) (bY p (Tl.put l x)*R) w):=by
 unfold Tl.put;by_cases hc:ba x.m=0
 ·rw[if_pos hc,decide_eq_true hc]
  exact tU p l x R w hl.lok hx (Nat.le_trans hl.len (by omega)) hc h
 ·rw[if_neg hc,decide_eq_false hc]
  exact vg p l x R w hc h
theorem vh(p:Nat)(l:List Ln)(R:ab)(w:G)(h:N w (bY p l*R)):
  T prog 64 #[.pointer (C (M p 0 B))] w (cI (Z (decide (0<l.length))) (bY p (Tl.evict l)*R) w):=by
 unfold Tl.evict;cases l with
 |nil=>exact sk p R w h
 |cons x l=>exact mX p (x::l) R w (by simp) h
end Go.Proofs.YtmfheghbgihdmaaGreat
