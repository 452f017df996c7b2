/- Rows of mappings; append of a row onto a row; SameMaps. -/
import Derived.Test.YtmfheghbgihdmaaGreatFrames3
import Derived.Test.YtmfheghbgihdmaaGreatSep
import Derived.Test.YtmfheghbgihdmaaGreatTblM3
import Derived.Lib.Hide
import Derived.Lib.SliceRun
import Derived.Laws.OwnMore
import Derived.Outline
import Derived.BigQuiet
import Derived.Deep.LoopGhost
import Derived.Shelf.Abstract
import Derived.Test.YtmfheghbgihdmaaGreatTabL
import Derived.Test.YtmfheghbgihdmaaGreatWkr
import Derived.Test.YtmfheghbgihdmaaGreatRowsO
import Derived.Test.YtmfheghbgihdmaaGreatRefEnt5
import Derived.Test.YtmfheghbgihdmaaGreatRefPage
namespace Go.Proofs.YtmfheghbgihdmaaGreat
open Go.Value renaming bool→vB
open Option renaming none→C,some→D
open Go renaming World→F,bodyPost_ret→U,Calls→V,Value→ad,Addr→af
open Go.Value renaming int→G
open Go.IntKind renaming i64→H
open Bool renaming false→I,true→Y
open Go.Lib renaming hid→J
open List renaming getElem?_eq_getElem→M,length_append→an
open Go.Proofs.YtmfheghbgihdmaaGreat renaming Has→N,Ext→ax,Pure→a5
open Go.Addr renaming mk→T
open Go.Proofs.YtmfheghbgihdmaaGreat.Ext renaming refl→Z
open Go.World renaming size_alloc→al
open Tryz
open Go.RowKit
set_option maxRecDepth 100000
def mpZero:ad:= .agg #[G H 0,G H 0,G H 0,G H 0]
theorem iK:jp prog 39 mpZero 4 32:=⟨by kernel_rfl,rfl,by omega⟩
theorem iL(x:Mp):x.cells.length=4:=rfl
def a8(l:List Mp):List ad:=fZ Mp.cells l
theorem dR(l:List Mp):(a8 l).length =l.length*4:=pv iL l
theorem jE(l:List Mp)(m:Mp):a8 (l++[m])=a8 l++m.cells:=by unfold a8;rw[iC];simp[fZ]
def bh(v:ad)(l:List Mp):ae:=cj 39 4 v l.length (a8 l)
theorem jF(x:Mp):∀u∈x.cells,u.oneCell'=Y:=by
 intro u hx;simp[Mp.cells] at hx;rcases hx with rfl|rfl|rfl|rfl<;>rfl
theorem kV{P:Program}{w:F}{R:ae}{ops:Array Oper}{rest:List Oper}{o:Oper}{a:Act}{Q:Exit→Act→F→Prop}(hgd:o.guard=C)(s x:Operand)(t:TypeId)
  (ho:o.op= .call {callee:= .builtin .append,args:= #[s,x],argTypes:= #[t,t]}) {e:TypeId} {z:ad} {size bytes:Nat} (hT:P.underlying t=D (.slice e)) (hE:jp P e z size bytes)
  (v:ad) (n:Nat) (xs:List ad) (hs:a.eval s=v) (u:ad) (m:Nat) (ys:List ad) (hx:a.eval x=u) (h:N w (cj e size v n xs*(cj e size u m ys*R))) (h1:∀y∈ys,y.oneCell'=Y)
  (h63:n+m≤maxLen) (hbytes:(n+m)*bytes≤140737488355328)
  (hk:∀A c w',N w' (cj e size (.slice A (n+m) c) (n+m) (xs++ys)*(cj e size u m ys*R))→ax w w'→wpList P ops Q rest (a.put o.dst (.slice A (n+m) c)) w'):wpList P ops Q (o::rest) a w:=by
 rcases h.p2.rowCases with ⟨rfl,rfl,rfl,_⟩|⟨g,cap,cur,rfl,_⟩
 ·obtain⟨i,hi,_,hsz,_⟩:=info_parts hE.info
  obtain⟨A,c,rfl⟩:=h.rowForm;refine wpList_plain hgd fun _ hK=> ?_;have hrun:=run_append_owned_none (P:=P) (w:=w) 0 t o.type e i size hT hi (.slice A n c) n xs h.ownsRow;unfold Oper.wp;simp[execOp,ho,resolve,invoke,builtin,hs,hx,hrun,Result.andThen];exact hK _ _ (hk A c w (by simpa using h) (Z w))
 ·have hget:=fun j y (hy:ys[j]? =D y)=>h.p2.rowGet hy
  have hl:=h.p2.rowLens.1;refine aN hgd s x t ho hT hE v n xs hs h (T g 0 C) m cap ys hx hl (fun j y hy=> ?_) h1 h63 hbytes fun v' w' h2 x2=> ?_
  ·obtain⟨g',hg',_,hc,_⟩:=hget j y hy
   injection hg' with hg'
   injection hg' with hg'
   subst hg';rw[Addr.add_lit,Nat.zero_add];exact hc
  ·have hf:∃A c,v'= .slice A (n+m) c:=by
    rcases h2.rowCases with ⟨hv,hn,_,_⟩|⟨g,cap,cur,hv,_⟩
    ·exact⟨C,0,by rw[hv,hn]⟩
    ·exact⟨_,_,hv⟩
   obtain⟨A,c,rfl⟩:=hf;exact hk A c w' h2 x2
theorem il(l:List Mp):∀u∈a8 l,u.oneCell'=Y:=by
 intro u hu;unfold a8 fZ at hu;obtain⟨x,_,hx⟩:=List.mem_flatMap.1 hu;exact jF x u hx
theorem fi(a b:List Mp):a8 (a++b)=a8 a++a8 b:=iC a b
theorem dB{w:F}{R:ae}{A:Option af}{n c:Nat}{l:List Mp}(h:N w (bh (.slice A n c) l*R)):n=l.length:=by
 rcases(Has.rowCases (e:=39) (size:=4) h) with ⟨hv,h0,_⟩|⟨g,cap,cur,hv,_⟩
 ·injection hv with a b
  omega
 ·injection hv
theorem gm{w:F}{R:ae}{A:Option af}{n c:Nat}{l:List Mp}(h:N w (bh (.slice A n c) l*R)):n≤9223372036854775807:=by
 obtain rfl:=dB h;exact(Has.rowLens (e:=39) (size:=4) h).2
theorem dF{w:F}{R:ae}{A:Option af}{n c:Nat}{l:List Mp}(h:N w (bh (.slice A n c) l*R)){k:Nat}(hk:k<l.length):
  ∃b,A=D (T b 0 C)∧b<w.heap.size∧
   (w.cell? ⟨b,k*4,C⟩=D (G H l[k].page)∧w.cell? ⟨b,k*4+1,C⟩=D (G H l[k].size)∧w.cell? ⟨b,k*4+2,C⟩=D (G H l[k].frame)∧w.cell? ⟨b,k*4+3,C⟩=D (G H l[k].rights)):=by
 obtain rfl:=dB h;have g:=fun t (ht:t<4)=>Has.rowGet (e:=39) (size:=4) h (i:=k*4+t) (u:=(l[k].cells[t]'(by rw[iL];exact ht))) (by
  have:=kU (cells:=Mp.cells) iL hk ht;rw[M (l:=l[k].cells) (by rw[iL];exact ht)] at this;exact this)
 obtain⟨b,rfl,hb,c0,_⟩:=g 0 (by omega);obtain⟨b1,e1,_,c1,_⟩:=g 1 (by omega);obtain⟨b2,e2,_,c2,_⟩:=g 2 (by omega);obtain⟨b3,e3,_,c3,_⟩:=g 3 (by omega);injection e1 with e1;injection e1 with e1;subst e1
 injection e2 with e2;injection e2 with e2;subst e2
 injection e3 with e3;injection e3 with e3;subst e3
 exact⟨b,rfl,hb,c0,c1,c2,c3⟩
theorem jn(l:List Mp)(A B:Option af)(n c n' c':Nat)(R:ae)(w:F)(h:N w (bh (.slice A n c) l*(bh (.slice B n' c') l*R))):
  V prog 20 #[.slice A n c,.slice B n' c'] w (a5 (vB Y) w):=by
 have hn:=dB h;have hn':=dB h.right;subst hn;subst hn';have hbig:=gm h;go_enter func20,ntmps20;go_wp2_with fail
 go_loopw [5] (fun s5 wr=>∃i:Nat,i≤l.length∧s5=G H i∧Below w.heap.size w wr) (fun s5 _=>l.length - (intOf s5).toNat)
 case atStart=>exact⟨0,Nat.zero_le _,rfl,Below.refl _ _⟩
 case round=>
  obtain⟨i,hi,rfl,BW⟩:=hrel;have h':=h.below BW;clear h;have BW':=J BW;clear BW;by_cases hlt:i<l.length
  ·obtain⟨b,rfl,hb,c0,c1,c2,c3⟩:=dF h' hlt
   obtain⟨b',rfl,hb',d0,d1,d2,d3⟩:=dF h'.right hlt;clear h';generalize l[i]=x at c0 c1 c2 c3 d0 d1 d2 d3;have v0:=ab c0;have v1:=ab c1;have v2:=ab c2;have v3:=ab c3;have u0:=ab d0;have u1:=ab d1;have u2:=ab d2;have u3:=ab d3;clear c0 c1 c2 c3 d0 d1 d2 d3;go_wp2_with fail
   refine aq (by kernel_rfl) (by kernel_rfl) ?_;repeat(first|go_big_quiet_step (fail)|quiet_step (fail))
   refine wpQuiet_nil ?_;intro _ hw';obtain⟨uq,hw''⟩:=hw';subst hw'';go_wp2_with fail
   go_roundw
   case rel=>exact⟨i+1,by omega,by go_num,BW'.out.trans ((aA _ _).mono BW'.out.size)⟩
   case measure=>simp[intOf];omega
  ·go_wp2_with fail
   go_ret;exact⟨rfl,BW'.out⟩
def kq(O:Nat)(vs:List lC):ae:=ex fun A=>ex fun c=>aa O #[.slice A (bY vs).length c] 44*bh (.slice A (bY vs).length c) (bY vs)
theorem mE{O:Nat}{vs:List lC}{P:ae}{w:F}(h:N w (kq O vs*P)):∃A c,N w (aa O #[.slice A (bY vs).length c] 44*(bh (.slice A (bY vs).length c) (bY vs)*P)):=by
 unfold kq at h;obtain⟨A,h⟩:=aG.1 h;obtain⟨c,h⟩:=aG.1 h;exact⟨A,c,h.a1⟩
theorem kE{O c:Nat}{A:Option af}{vs:List lC}{P:ae}{w:F}(h:N w (aa O #[.slice A (bY vs).length c] 44*(bh (.slice A (bY vs).length c) (bY vs)*P))):N w (kq O vs*P):=by
 unfold kq;exact aG.2 ⟨A,aG.2 ⟨c,h.a2⟩⟩
theorem qw(vs:List lC):(bY vs).length ≤vs.length:=List.length_filterMap_le _ _
theorem qx(vs:List lC):(cg vs).length ≤vs.length:=List.length_filterMap_le _ _
theorem rX{i j:Nat}(h:i≤j):aE i≤aE j:=by
 induction h with
 |refl=>exact Int.le_refl _
 |step _ ih=>rw[eC];have:=fL i;omega
set_option maxHeartbeats 2000000 in
theorem zF(O:Nat)(P:ae)(vs:List lC)(v:lC)(W:F)(hv:zr v)(hl:vs.length<5000)(h:N W (kq O vs*P)):
  V prog 131 #[G H v.t,G H v.lev,G H v.at_,.agg #[vB v.e.there,vB v.e.leaf,G H v.e.rights,vB v.e.used,vB v.e.dirty,G H v.e.frame],.pointer (D (T O 0 C))] W (cN (.tuple #[]) (kq O (vs++[v])*P) W):=by
 obtain⟨A,c,h⟩:=mE h;have hml:=qw vs;obtain⟨t,lev,at_,⟨th,lf,rg,us,di,fr⟩⟩:=v;obtain⟨l0,l3,ha0,ha4⟩:=hv;dsimp only at*
 have h1:=h.new #[vB th,vB lf,G H rg,vB us,vB di,G H fr] 70;have x1:=(Z W).alloc (.cells #[vB th,vB lf,G H rg,vB us,vB di,G H fr] 70);obtain⟨e0,e1,e2,e3,e4,e5⟩:=h1.cells6;have el:=h1.lt;cases lf with
 |false=>
  have hm:bY (vs++[⟨t,lev,at_,⟨th,I,rg,us,di,fr⟩⟩])=bY vs:=by rw[iO];simp[bY]
  have hfin:N (W.alloc (.cells #[vB th,vB I,G H rg,vB us,vB di,G H fr] 70)) (kq O (vs++[⟨t,lev,at_,⟨th,I,rg,us,di,fr⟩⟩])*P):=by
   refine kE (A:=A) (c:=c) ?_;rw[hm];exact h1.right
  go_enter func131,ntmps131;go_wp2_with fail
  exact U (v:= .tuple #[]) (by simp[results,results131]) rfl ⟨rfl,hfin,x1⟩
 |true=>
  obtain⟨k,rfl⟩:=Int.eq_ofNat_of_zero_le l0;have hk3:k≤3:=by omega
  rw[Int.toNat_natCast] at ha4;have hm:=J (show bY (vs++[⟨t,k,at_,⟨th,Y,rg,us,di,fr⟩⟩])=bY vs++[aC ⟨th,Y,rg,us,di,fr⟩ k (at_*aE k)] by rw[iO];simp[bY]);have HE:=J (kP ⟨th,Y,rg,us,di,fr⟩ k (at_*aE k));generalize aC ⟨th,Y,rg,us,di,fr⟩ k (at_*aE k)=m at*
  go_enter func131,ntmps131;go_wp2_with fail
  go_loopw [9,14] (fun s9 s14 wr=>∃j:Nat,j≤k∧s14=G H j∧s9=G H (at_*aE j)∧(W.alloc (.cells #[vB th,vB Y,G H rg,vB us,vB di,G H fr] 70))=wr) (fun _ s14 _=>k - (intOf s14).toNat)
  case atStart=>exact⟨0,Nat.zero_le _,rfl,by simp[aE],rfl⟩
  case round=>
   obtain⟨j,hj,rfl,rfl,rfl⟩:=hrel;by_cases hlt:j<k
   ·have hpw:at_*aE j*8=at_*aE (j+1):=by rw[eC,Int.mul_assoc,Int.mul_comm (aE j) 8]
    have hle:at_*aE (j+1)≤at_*aE k:=Int.mul_le_mul_of_nonneg_left (rX (by omega)) ha0;have hge:0≤at_*aE (j+1):=Int.mul_nonneg ha0 (Int.le_of_lt (fL _));have hwr:IntKind.i64.wrap (at_*aE j*8)=at_*aE (j+1):=by rw[hpw,IntKind.wrap_i64];omega
    clear hpw hle hge;go_wp2_with fail
    go_roundw
    case rel=>exact⟨j+1,by omega,by go_num,rfl,trivial⟩
    case measure=>simp[intOf];omega
   ·obtain rfl:j=k:=by omega
    have c0:(W.alloc (.cells #[vB th,vB Y,G H rg,vB us,vB di,G H fr] 70)).cell? (T O 0 C)=D (.slice A (bY vs).length c):=h1.right.cell 0;generalize at_*aE j=pg at*
    generalize W.alloc _=w4 at*
    generalize W.heap.size=E at*
    go_wp2_with fail
    refine iU (S:=fun L w'=>Till 6 0 (fun w'=>w'.cell? (T O 0 C)=D (.slice A (bY vs).length c)) L w'∧Till 4 1 (fun w'=>w'.cell? (T E 0 C)=D (vB th)∧w'.cell? (T E 1 C)=D (vB Y)∧w'.cell? (T E 2 C)=D (G H rg)∧w'.cell? (T E 3 C)=D (vB us)∧w'.cell? (T E 4 C)=D (vB di)∧w'.cell? (T E 5 C)=D (G H fr)) L w') (by kernel_rfl) ⟨Till.start c0,Till.start ⟨e0,e1,e2,e3,e4,e5⟩⟩ (fun hHeld=> ?_);refine aR (i:=0) (v:= ?_) rfl (by kernel_rfl) (by kernel_rfl) (by kernel_rfl) (fun _ _ _ h=>h) (Good.and (Good.till (by decide) ⟨_,⟨0,.data⟩,rfl,by simp,rfl,rfl⟩) (Good.till (by decide) ⟨_,⟨1,.data⟩,rfl,by simp,rfl,rfl⟩)) (Or.inl ⟨by kernel_rfl,?_⟩) hHeld (fun hHeld=> ?_);rotate_left;focus (intro wS hSw;obtain⟨Lx,hLx,hs1,hs2⟩:=hSw;have cS:=hs1.still hLx;go_simp;first|done|with_reducible rfl)
    try go_simp
    refine aR (i:=1) (v:= ?_) rfl (by kernel_rfl) (by kernel_rfl) (by kernel_rfl) (fun _ _ _ h=>h) (Good.and (Good.till (by decide) ⟨_,⟨0,.data⟩,rfl,by simp,rfl,rfl⟩) (Good.till (by decide) ⟨_,⟨1,.data⟩,rfl,by simp,rfl,rfl⟩)) (Or.inl ⟨by kernel_rfl,?_⟩) hHeld (fun hHeld=> ?_);rotate_left;focus (intro wS hSw;obtain⟨Lx,hLx,hs1,hs2⟩:=hSw;obtain⟨s0,s1,s2,s3,s4,s5⟩:=hs2.still hLx;go_simp;first|done|with_reducible rfl)
    try go_simp
    refine aR (i:=2) (v:= ?_) rfl (by kernel_rfl) (by kernel_rfl) (by kernel_rfl) (fun _ _ _ h=>h) (Good.and (Good.till (by decide) ⟨_,⟨0,.data⟩,rfl,by simp,rfl,rfl⟩) (Good.till (by decide) ⟨_,⟨1,.data⟩,rfl,by simp,rfl,rfl⟩)) (Or.inl ⟨by kernel_rfl,?_⟩) hHeld (fun hHeld=> ?_);rotate_left;focus (intro wS hSw;obtain⟨Lx,hLx,hs1,hs2⟩:=hSw;skip;go_simp;first|done|with_reducible rfl)
    try go_simp
    refine aR (i:=3) (v:= ?_) rfl (by kernel_rfl) (by kernel_rfl) (by kernel_rfl) (fun _ _ _ h=>h) (Good.and (Good.till (by decide) ⟨_,⟨0,.data⟩,rfl,by simp,rfl,rfl⟩) (Good.till (by decide) ⟨_,⟨1,.data⟩,rfl,by simp,rfl,rfl⟩)) (Or.inl ⟨by kernel_rfl,?_⟩) hHeld (fun hHeld=> ?_);rotate_left;focus (intro wS hSw;obtain⟨Lx,hLx,hs1,hs2⟩:=hSw;skip;go_simp;first|done|with_reducible rfl)
    try go_simp
    refine aZ (rs:=[4]) (by kernel_rfl) (by simp) ?_;refine OneOf.cons rfl (fun K hK=> ?_) OneOf.nil;go_simp;go_wp2_with(refine(HE.out _).mono ?_;rintro e2 w5 ⟨rfl,b5⟩)
    have h5:=(h1.drew.right.below b5);have x5:=x1.drew.below b5;refine hK.out _ _ ⟨⟨fun _=>by kernel_rfl,fun _=>h5.cell 0⟩,⟨fun _=>by kernel_rfl,fun h=>aW (by kernel_rfl) h⟩⟩ (fun hHeld=> ?_);clear hK K;refine aZ (rs:=[5]) (by kernel_rfl) (by simp) ?_;refine OneOf.cons rfl (fun K hK=> ?_) OneOf.nil;go_simp;have h6:=(h5.p2).alloc (.cells #[G H m.page,G H m.size,G H m.frame,G H m.rights] 39);refine hK.out _ _ ⟨⟨fun _=>by kernel_rfl,fun _=>h6.right.cell 0⟩,⟨fun _=>by kernel_rfl,fun h=>aW (by kernel_rfl) h⟩⟩ (fun hHeld=> ?_);clear hK K;refine aZ (rs:=[6]) (by kernel_rfl) (by simp) ?_;refine OneOf.cons rfl (fun K hK=> ?_) OneOf.nil;refine cr rfl (.tmp 19) (.tmp 24) 44 rfl underlying44 iK _ _ _ (by simp[Act.eval]) h6 (T w5.heap.size 0 C) 1 1 m.cells (by simp[Act.eval]) rfl (dq w5 m.cells 39) (jF m) (by unfold maxLen;omega) (by omega) ?_;intro A' c' w7 h7 x7;try go_simp
    refine hK.out _ _ ⟨⟨fun _=>by kernel_rfl,fun h=>aW (by kernel_rfl) h⟩,⟨fun _=>by kernel_rfl,fun h=>aW (by kernel_rfl) h⟩⟩ (fun hHeld=> ?_);clear hK K;have y0:=h7.right.cell 0;have y1:=h7.right.free 0;have yl:=h7.right.lt;refine aZ (rs:=[7]) (by kernel_rfl) (by simp) ?_;refine OneOf.cons rfl (fun K hK=> ?_) OneOf.nil;go_simp;refine hK.out _ _ ⟨⟨fun _=>by kernel_rfl,fun h=>aW (by kernel_rfl) h⟩,⟨fun _=>by kernel_rfl,fun h=>aW (by kernel_rfl) h⟩⟩ (fun hHeld=> ?_);clear hK K;refine fC (by kernel_rfl) ?_;have hfin:N (w7.setCell (T O 0 C) (.slice A' ((bY vs).length +1) c')) (kq O (vs++[⟨t,j,at_,⟨th,Y,rg,us,di,fr⟩⟩])*P):=by
     refine kE (A:=A') (c:=c') ?_;unfold bh;rw[hm.out,jE,an,List.length_singleton];exact h7.p2.set 0 _
    go_wp2_with fail
    exact U (v:= .tuple #[]) (by simp[results,results131]) rfl ⟨rfl,hfin,((x5.alloc _).trans x7).set _ _⟩
def lN(y:Vs):List Mp:=if y.code=0 then bY y.vs else []
def ru(y:Vs)(R:ae)(w:F)(e:Ending)(w':F):Prop:=
 ∃A c,e= .returned (.tuple #[.slice A (lN y).length c,G H y.code])∧N w' (bh (.slice A (lN y).length c) (lN y)*R)∧ax w w'
theorem tL(f:Nat)(s:Ms)(root:Int)(R:ae)(w:F)(hs:s.Ok)(h:N w (aj f s*R)):
  V prog 73 #[.pointer (D (T f 0 C)),G H root] w (ru (cB s 3 root 0) (aj f s*R) w):=by
 have hmf:∀(fn:Fn) (first cap:Array ad) (w:F),(Instr.makeFunc fn first cap).run prog w= .ok (.func fn first cap) w:=fun _ _ _ _=>rfl;have h1:=h.new #[.slice C 0 0] 44;have h2:N (w.alloc (.cells #[.slice C 0 0] 44)) (kq w.heap.size []*(aj f s*R)):=kE (A:=C) (c:=0) (Has.p2 (Has.rowNil h1));have x1:=(Z w).alloc (.cells #[.slice C 0 0] 44);have hE:=m9 f s hs 131 #[.pointer (D (T w.heap.size 0 C))] (enters_of func131 (by kernel_rfl) rfl) (kq w.heap.size) 5000
  (fun P vs v W hv hl h=>zF w.heap.size P vs v W hv hl h) 3 (by omega) R root 0 [] _ (by omega) (by decide) (by decide) h2
 rw[List.nil_append] at hE;have hln:=J (show(lN (cB s 3 root 0))=if(cB s 3 root 0).code =0 then bY (cB s 3 root 0).vs else [] from rfl);generalize cB s 3 root 0=y at*
 by_cases hc:y.code=0
 ·have hm:lN y=bY y.vs:=by rw[hln.out,if_pos hc]
  have HM:=J hm;clear hm;go_enter func73,ntmps73;go_wp2_with(refine hE.mono ?_;rintro e w2 ⟨rfl,h3,x3⟩;obtain⟨A,c,h4⟩:=mE h3;have c0:=h4.cell 0;have cl:=h4.lt)
  exact U (v:= .tuple #[.slice A (bY y.vs).length c,G H 0]) (by simp[results,results73]) rfl ⟨A,c,by rw[HM.out,hc],by rw[HM.out];exact h4.right,x1.trans x3⟩
 ·have hm:lN y=[]:=by rw[hln.out,if_neg hc]
  have HM:=J hm;have hn:(y.code !=0)=Y:=by simpa using hc
  clear hm;go_enter func73,ntmps73;go_wp2_with(refine hE.mono ?_;rintro e w2 ⟨rfl,h3,x3⟩)
  exact U (v:= .tuple #[.slice C 0 0,G H y.code]) (by simp[results,results73]) rfl ⟨C,0,by rw[HM.out];rfl,by rw[HM.out];exact Has.rowNil h3.right,x1.trans x3⟩
def kr(O:Nat)(root:Int)(vs:List lC):ae:=ex fun A=>ex fun c=>aa O #[.slice A (root::cg vs).length c] 45*am (.slice A (root::cg vs).length c) (root::cg vs)
theorem mF{O:Nat}{root:Int}{vs:List lC}{P:ae}{w:F}(h:N w (kr O root vs*P)):∃A c,N w (aa O #[.slice A (root::cg vs).length c] 45*(am (.slice A (root::cg vs).length c) (root::cg vs)*P)):=by
 unfold kr at h;obtain⟨A,h⟩:=aG.1 h;obtain⟨c,h⟩:=aG.1 h;exact⟨A,c,h.a1⟩
theorem kF{O c:Nat}{root:Int}{A:Option af}{vs:List lC}{P:ae}{w:F}(h:N w (aa O #[.slice A (root::cg vs).length c] 45*(am (.slice A (root::cg vs).length c) (root::cg vs)*P))):N w (kr O root vs*P):=by
 unfold kr;exact aG.2 ⟨A,aG.2 ⟨c,h.a2⟩⟩
theorem zG(O:Nat)(root:Int)(P:ae)(vs:List lC)(v:lC)(W:F)(_:zr v)(hl:vs.length<5000)(h:N W (kr O root vs*P)):
  V prog 133 #[G H v.t,G H v.lev,G H v.at_,.agg #[vB v.e.there,vB v.e.leaf,G H v.e.rights,vB v.e.used,vB v.e.dirty,G H v.e.frame],.pointer (D (T O 0 C))] W (cN (.tuple #[]) (kr O root (vs++[v])*P) W):=by
 obtain⟨A,c,h⟩:=mF h;have hml:=qx vs;obtain⟨t,lev,at_,⟨th,lf,rg,us,di,fr⟩⟩:=v;dsimp only at*
 have h1:=h.new #[vB th,vB lf,G H rg,vB us,vB di,G H fr] 70;have x1:=(Z W).alloc (.cells #[vB th,vB lf,G H rg,vB us,vB di,G H fr] 70);obtain⟨e0,e1,e2,e3,e4,e5⟩:=h1.cells6;have el:=h1.lt;by_cases hn:th=Y∧lf=I
 ·obtain⟨rfl,rfl⟩:=hn
  have hm:=J (show root::cg (vs++[⟨t,lev,at_,⟨Y,I,rg,us,di,fr⟩⟩])=(root::cg vs)++[fr] by rw[iP];simp[cg]);have c0:=h1.right.cell 0;have f0:=h1.right.free 0;have cl:=h1.right.lt;have hrow:N ((W.alloc (.cells #[vB Y,vB I,G H rg,vB us,vB di,G H fr] 70)).alloc (.cells #[G H fr] 3)) (cj 3 1 (.slice A ((cg vs).length +1) c) ((cg vs).length +1) ((root::cg vs).map (G H))*(aa O #[.slice A (root::cg vs).length c] 45*P)):=h1.right.p2.alloc (.cells #[G H fr] 3);have hnw:=eM (W.alloc (.cells #[vB Y,vB I,G H rg,vB us,vB di,G H fr] 70)) (G H fr) 3;simp only[al] at hnw;have HNW:=J hnw;clear hnw;go_enter func133,ntmps133;go_wp2_with(at_builtin;(refine aN rfl _ _ 45 rfl underlying45 gF _ _ _ rfl hrow ⟨W.heap.size+1,0,C⟩ 1 1 [G H fr] rfl rfl HNW.out ?k1 ?k2 ?k3 ?_))
  case k1=>exact iB fr
  case k2=>unfold maxLen;omega
  case k3=>omega
  intro v' w7 h7 x7;obtain⟨A',c',rfl⟩:=h7.rowForm;have y0:=h7.right.cell 0;have y1:=h7.right.free 0;have yl:=h7.right.lt;have hfin:N (w7.setCell (T O 0 C) (.slice A' ((cg vs).length +1+1) c')) (kr O root (vs++[⟨t,lev,at_,⟨Y,I,rg,us,di,fr⟩⟩])*P):=by
   refine kF (A:=A') (c:=c') ?_;unfold am;rw[hm.out,an,List.length_singleton,List.map_append];exact h7.p2.set 0 _
  go_wp2_with fail
  exact U (v:= .tuple #[]) (by simp[results,results133]) rfl ⟨rfl,hfin,((x1.alloc _).trans x7).set _ _⟩
 ·have hm:cg (vs++[⟨t,lev,at_,⟨th,lf,rg,us,di,fr⟩⟩])=cg vs:=by
   rw[iP];unfold cg;rw[List.filterMap_cons];dsimp only;rw[if_neg hn];simp
  have hfin:N (W.alloc (.cells #[vB th,vB lf,G H rg,vB us,vB di,G H fr] 70)) (kr O root (vs++[⟨t,lev,at_,⟨th,lf,rg,us,di,fr⟩⟩])*P):=by
   refine kF (A:=A) (c:=c) ?_;rw[hm];exact h1.right
  cases th with
  |false=>
   go_enter func133,ntmps133;go_wp2_with fail
   exact U (v:= .tuple #[]) (by simp[results,results133]) rfl ⟨rfl,hfin,x1⟩
  |true=>
   cases lf with
   |false=>exact absurd ⟨rfl,rfl⟩ hn
   |true=>
    go_enter func133,ntmps133;go_wp2_with fail
    exact U (v:= .tuple #[]) (by simp[results,results133]) rfl ⟨rfl,hfin,x1⟩
def jG(y:Vs)(root:Int):List Int:=if y.code=0 then root::cg y.vs else []
def rv(y:Vs)(root:Int)(R:ae)(w:F)(e:Ending)(w':F):Prop:=
 ∃A c,e= .returned (.tuple #[.slice A (jG y root).length c,G H y.code])∧N w' (am (.slice A (jG y root).length c) (jG y root)*R)∧ax w w'
theorem qy(f:Nat)(s:Ms)(root:Int)(R:ae)(w:F)(hs:s.Ok)(h:N w (aj f s*R)):
  V prog 74 #[.pointer (D (T f 0 C)),G H root] w (rv (cB s 3 root 0) root (aj f s*R) w):=by
 have hmf:∀(fn:Fn) (first cap:Array ad) (w:F),(Instr.makeFunc fn first cap).run prog w= .ok (.func fn first cap) w:=fun _ _ _ _=>rfl;have h0:=h.new #[G H root] 3;have h1:=h0.new #[.slice (D (T w.heap.size 0 C)) 1 1] 45;simp only[al] at h1;have h2:N ((w.alloc (.cells #[G H root] 3)).alloc (.cells #[.slice (D (T w.heap.size 0 C)) 1 1] 45)) (kr (w.heap.size+1) root []*(aj f s*R)):=
  kF (A:=D (T w.heap.size 0 C)) (c:=1) (Has.p2 (Has.rowOf (xs:=[G H root]) (n:=1) (size:=1) (Has.p2 h1) rfl (Nat.le_refl 1) (by unfold maxLen;omega) rfl rfl))
 have x1:=((Z w).alloc (.cells #[G H root] 3)).alloc (.cells #[.slice (D (T w.heap.size 0 C)) 1 1] 45);have hE:=m9 f s hs 133 #[.pointer (D ⟨w.heap.size+1,0,C⟩)] (enters_of func133 (by kernel_rfl) rfl) (kr (w.heap.size+1) root) 5000
  (fun P vs v W hv hl h=>zG (w.heap.size+1) root P vs v W hv hl h) 3 (by omega) R root 0 [] _ (by omega) (by decide) (by decide) h2
 rw[List.nil_append] at hE;have hln:=J (show jG (cB s 3 root 0) root=if(cB s 3 root 0).code =0 then root::cg (cB s 3 root 0).vs else [] from rfl);generalize cB s 3 root 0=y at*
 by_cases hc:y.code=0
 ·have hm:jG y root=root::cg y.vs:=by rw[hln.out,if_pos hc]
  have HM:=J hm;clear hm;go_enter func74,ntmps74;go_wp2_with(refine hE.mono ?_;rintro e w2 ⟨rfl,h3,x3⟩;obtain⟨A,c,h4⟩:=mF h3;have c0:=h4.cell 0;have cl:=h4.lt)
  exact U (v:= .tuple #[.slice A (root::cg y.vs).length c,G H 0]) (by simp[results,results74]) rfl ⟨A,c,by rw[HM.out,hc],by rw[HM.out];exact h4.right,x1.trans x3⟩
 ·have hm:jG y root=[]:=by rw[hln.out,if_neg hc]
  have HM:=J hm;have hn:(y.code !=0)=Y:=by simpa using hc
  clear hm;go_enter func74,ntmps74;go_wp2_with(refine hE.mono ?_;rintro e w2 ⟨rfl,h3,x3⟩)
  exact U (v:= .tuple #[.slice C 0 0,G H y.code]) (by simp[results,results74]) rfl ⟨C,0,by rw[HM.out];rfl,by rw[HM.out];exact Has.rowNil h3.right,x1.trans x3⟩
def dA(f:Nat)(s:Ms):ae:=ex fun s'=>ei (s'.Ok∧Agree s' s)*aj f s'
section
variable {f:Nat} {s:Ms} {R:ae} {w:F}
theorem fR(h:N w (dA f s*R)):∃s',s'.Ok∧Agree s' s∧N w (aj f s'*R):=by
 unfold dA at h;obtain⟨s',h⟩:=aG.1 h;rw[aI] at h;obtain⟨⟨a,b⟩,h⟩:=cU.1 h;exact⟨s',a,b,h⟩
theorem fS{s':Ms}(h:N w (aj f s'*R))(ho:s'.Ok)(ha:Agree s' s):N w (dA f s*R):=by
 unfold dA;refine aG.2 ⟨s',?_⟩;rw[aI];exact cU.2 ⟨⟨ho,ha⟩,h⟩
end
section
variable (f:Nat) (s:Ms) (R:ae) (w:F) (h:N w (dA f s*R))
include h
theorem zH(root:Int)(x:Mp):V prog 97 #[.pointer (D (T f 0 C)),G H root,.agg #[G H x.page,G H x.size,G H x.frame,G H x.rights]] w (cN (G H (dd s root x)) (dA f (dQ s root x)*R) w):=by
 obtain⟨s',ho,ha,h'⟩:=fR h;refine(zN f s' root x R w ho h').mono ?_;rintro e w' ⟨s2,ho2,ha2,he,h2,x2⟩;rw[ha.insC] at he;exact⟨he,fS h2 ho2 (ha2.trans (ha.insS root x)),x2⟩
omit h in
def py(f:Nat)(s:Ms)(r p:Int)(R:ae)(w:F)(e:Ending)(w':F):Prop:=
 ∃A n c,cN (.tuple #[(bR s r p).val,.slice A n c,G H (bH s r p)]) (am (.slice A n c) (fA s r p)*(dA f (dr s r p)*R)) w e w'
theorem zI(root p:Int):V prog 98 #[.pointer (D (T f 0 C)),G H root,G H p] w (py f s root p R w):=by
 obtain⟨s',ho,ha,h'⟩:=fR h;refine(zS f s' root p R w ho h').mono ?_;rintro e w' ⟨A,n,c,he,h2,x2⟩;obtain⟨ag,eg⟩:=ha.rem root p;rw[ha.findC,ha.findM] at he;rw[eg] at h2;exact⟨A,n,c,he,(fS h2.p2 (vr ho root p) ag).p2,x2⟩
theorem Ag(root p ri:Int):V prog 100 #[.pointer (D (T f 0 C)),G H root,G H p,G H ri] w (cN (.tuple #[(li s root p ri).val,G H (iS s root p ri)]) (dA f (gV s root p ri)*R) w):=by
 obtain⟨s',ho,ha,h'⟩:=fR h;refine(Ah f s' root p ri R w ho h').mono ?_;rintro e w' ⟨he,h2,x2⟩;obtain⟨ag,ec,em⟩:=ha.pr root p ri;rw[ec,em] at he;exact⟨he,fS h2 (xa ho root p ri) ag,x2⟩
theorem yB(k:Int):V prog 111 #[.pointer (D (T f 0 C)),.int .i64 k] w (cN (vB (s.has k)) (dA f (s.giveS k)*R) w):=by
 obtain⟨s',ho,ha,h'⟩:=fR h;refine(wn f s' k R w h' ho).mono ?_;rintro e w' ⟨he,h2,x2⟩;rw[ha.has] at he;exact⟨he,fS h2 (ho.giveS k) (ha.giveS k),x2⟩
theorem yC:V prog 52 #[.pointer (D (T f 0 C))] w (cN (G H s.topV) (dA f s.takeS*R) w):=by
 obtain⟨s',ho,ha,h'⟩:=fR h;refine(wm f s' R w h' ho).mono ?_;rintro e w' ⟨he,h2,x2⟩;have:s'.topV=s.topV:=by unfold Ms.topV;rw[ha.top]
 rw[this] at he;exact⟨he,fS h2 ho.takeS ha.takeS,x2⟩
theorem yD:V prog 75 #[.pointer (D (T f 0 C))] w (Same (G H (s.frees.length:Nat)) w):=by
 obtain⟨s',ho,ha,h'⟩:=fR h;have:=yx f s' R w h';rw[ha.fr] at this;exact this
theorem yE(root:Int):V prog 73 #[.pointer (D (T f 0 C)),G H root] w (ru (cB s 3 root 0) (dA f s*R) w):=by
 obtain⟨s',ho,ha,h'⟩:=fR h;have:=tL f s' root R w ho h';rw[ha.eachV] at this;refine this.mono ?_;rintro e w' ⟨A,c,he,h2,x2⟩;exact⟨A,c,he,(fS h2.p2 ho ha).p2,x2⟩
theorem vj(root:Int):V prog 74 #[.pointer (D (T f 0 C)),G H root] w (rv (cB s 3 root 0) root (dA f s*R) w):=by
 obtain⟨s',ho,ha,h'⟩:=fR h;have:=qy f s' root R w ho h';rw[ha.eachV] at this;refine this.mono ?_;rintro e w' ⟨A,c,he,h2,x2⟩;exact⟨A,c,he,(fS h2.p2 ho ha).p2,x2⟩
end
section
variable {s:Ms} {r:Int} {gone:List Int} {X:Int→Prop}
theorem nR(s:Ms)(L:Nat)(t a:Int):∀is:List Nat,(∀i∈is,bC (az s t i) L=0∧((aF (az s t i) L).there =Y∧(aF (az s t i) L).leaf =I→(gT s L (aF (az s t i) L).frame (a*8+i)).code =0))→(du s L t a (gT s L) is).code =0
 | [],_=>rfl
 |i::is,h=>by
  obtain⟨h1,h2⟩:=h i (List.mem_cons_self ..);have ih:=nR s L t a is fun j hj=>h j (List.mem_cons_of_mem _ hj);unfold du;rw[if_neg (by rw[h1];simp)];dsimp only;by_cases he:(aF (az s t i) L).there =Y∧(aF (az s t i) L).leaf =I
  ·rw[if_pos he,if_neg (by rw[h2 he];simp)]
   exact ih
  ·rw[if_neg he,if_neg (by simp)]
   exact ih
structure pz (s:Ms) (r:Int) (L:Nat) (t a:Int):Prop where
 code:(cB s L t a).code =0
 maps:∀m∈bY (cB s L t a).vs,MapOk m∧a*aE (L+1)≤m.page∧m.page+br m.size≤(a+1)*aE (L+1)
 up:(bY (cB s L t a).vs).Pairwise fun x y=>x.page+br x.size≤y.page
 tabs:∀u,u∈cg (cB s L t a).vs ↔∃q e,dv q∧q / aE (L+1)=a∧3 - L<e∧e≤3∧bu s r q e=D u
 nd:(cg (cB s L t a).vs).Nodup
theorem tM{q a:Int}{L i:Nat}(hq:dv q)(hL:L≤3)(h:q / aE (L+1)=a)(hi:au q L=i):q / aE L=a*8+i:=by
 have h0:=fo L;rw[eC,Int.mul_comm,←Int.ediv_ediv_of_nonneg (by omega)] at h;unfold au at hi;rw[if_pos ⟨hq.1,hq.2,by omega,by omega⟩,Int.toNat_natCast] at hi;omega
structure yF (s:Ms) (r:Int) (L:Nat) (t a:Int) (i:Nat):Prop where
 code:bC (az s t i) L=0∧((aF (az s t i) L).there =Y∧(aF (az s t i) L).leaf =I→(gT s L (aF (az s t i) L).frame (a*8+i)).code =0)
 maps:∀m∈gI s L t a i,MapOk m∧(a*8+i)*aE L≤m.page∧m.page+br m.size≤(a*8+i+1)*aE L
 up:(gI s L t a i).Pairwise fun x y=>x.page+br x.size≤y.page
 tabs:∀u,u∈eT s L t a i↔∃q e,dv q∧q / aE L=a*8+i∧3 - L<e∧e≤3∧bu s r q e=D u
 nd:(eT s L t a i).Nodup
theorem qz{w:Int}{L:Nat}{p:Int}(hp:dv p)(hc:bC w L=0)(hl:(aF w L).leaf =Y):MapOk (aC (aF w L) L p)∧aC (aF w L) L p=⟨p / aE L*aE L,L,(aF w L).frame,(aF w L).rights⟩∧L<3:=by
 obtain⟨ht,_,h3,_,hf⟩:=iv hc hl;have h3':L<3:=by omega
 have hs:=fp h3';have e1:=iy hp hf hl hs;have hk:=dM hf ht;have hL:=(hk.leaf hl).2;rw[hs] at hL;have k1:=hk.r0;have k2:=hk.r7;have k3:=hk.f0;have k4:=hk.f1;have hp':0≤p∧p<4096:=hp;refine⟨?_,e1,h3'⟩;rw[e1];refine eN ?_;unfold bg;dsimp only;rw[hs];have h8:=fo L;have hd:L=0∨L=1∨L=2:=by omega
 rw[if_neg (by omega),if_neg,if_neg]
 ·rw[Int.mul_emod_left];omega
 ·generalize (aF w L).rights =ri at*
  generalize (aF w L).frame =fr at*
  clear e1 ht hl hf hk hL hs h8 hc;rcases hd with h|h|h<;>rw[h]<;>simp only[aE]<;>omega
theorem wT(hw:Wf s r gone X){L:Nat}(hL:L≤3){p t a:Int}(hp:dv p)(ht:bu s r p (3 - L)=D t)(ha:p / aE (L+1)=a)(i:Nat)(hi:i<8)
  (ih:∀K,L=K+1→∀{q u:Int},dv q→bu s r q (3 - K)=D u→pz s r K u (q / aE (K+1))):yF s r L t a i:=by
 obtain⟨q,hq,hpre,hix,hmod⟩:=ma hp hL i hi;rw[ha] at hpre;have hq8:=tM hq hL hpre hix;have e33:3 - (3 - L)=L:=by omega
 have hqt:bu s r q (3 - L)=D t:=by
  rw[←ht];refine cH s r hq hp (3 - L) (by omega) ?_;rw[show 4 - (3 - L)=L+1 by omega,hpre,ha]
 have hdec:bC (az s t i) L=0:=by
  have:=hw.dec hq (show 3 - L≤3 by omega) hqt i hi;rw[e33] at this;exact this
 have h0:=fo L;have hqe:q=(a*8+i)*aE L:=by
  have:=Int.mul_ediv_add_emod q (aE L);rw[hq8,hmod] at this;rw[Int.mul_comm];omega
 by_cases hl:(aF (az s t i) L).leaf =Y
 ·obtain⟨m1,m2,h3⟩:=qz hq hdec hl
  have hc:gI s L t a i=[aC (aF (az s t i) L) L q]:=by
   unfold gI;dsimp only;rw[if_pos hl,hqe]
  have hT:eT s L t a i=[]:=by
   unfold eT;dsimp only;rw[if_neg (by rw[hl];simp)]
  refine⟨⟨hdec,fun h=>by rw[hl] at h;cases h.2⟩,fun m hm=> ?_,?_,fun u=> ?_,by rw[hT];exact List.nodup_nil⟩
  ·rw[hc,List.mem_singleton] at hm
   subst hm;refine⟨m1,?_,?_⟩
   ·rw[m2,hq8];exact Int.le_refl _
   ·rw[m2,hq8]
    dsimp only;rw[fp h3];have:(a*8+(i:Int)+1)*aE L=(a*8+i)*aE L+aE L:=by rw[Int.add_mul (a*8+i) 1,Int.one_mul]
    omega
  ·rw[hc];exact List.pairwise_singleton _ _
  ·rw[hT]
   constructor
   ·intro h;cases h
   ·rintro⟨x,e,hx,hx8,h1,h2,h3⟩
    exfalso;have hxt:bu s r x (3 - L)=D t:=by
     rw[←hqt];refine cH s r hx hq (3 - L) (by omega) ?_;rw[show 4 - (3 - L)=L+1 by omega];exact iQ (by omega) (hx8.trans hq8.symm)
    have hxi:au x L=i:=by rw[ib hx hq (hx8.trans hq8.symm)];exact hix
    have hg:iw s x t (3 - (3 - L))=I:=by
     rw[e33];unfold iw cT;rw[hxi,hl];simp
    rw[bO (dJ hxt hg) e (by omega)] at h3;cases h3
 ·have hl':(aF (az s t i) L).leaf =I:=by simpa using hl
  by_cases hth:(aF (az s t i) L).there =Y
  ·
   have hg:iw s q t L=Y:=by
    refine js.2 ⟨(hw.at_ hq (show 3 - L≤3 by omega) hqt).1,by rw[hix];exact hdec,?_,?_⟩
    ·unfold cT;rw[hix];exact hth
    ·unfold cT;rw[hix];exact hl'
   cases L with
   |zero=>
    exfalso;rcases fI hdec with h|h
    ·have h':(aF (az s t i) (0:Nat)).there =I:=h
     rw[h'] at hth;cases hth
    ·exact hl h
   |succ K=>
    have hv:bu s r q (3 - K)=D (aF (az s t i) (K+1:Nat)).frame :=by
     rw[show 3 - K=3 - (K+1)+1 by omega];refine fM.2 ⟨t,hqt,by rw[e33];exact hg,?_⟩;rw[e33];unfold cT;rw[hix]
    have hA:=ih K rfl hq hv;rw[hq8] at hA;have hc:gI s (K+1) t a i=bY (cB s K (aF (az s t i) (K+1:Nat)).frame (a*8+i)).vs :=by
     unfold gI;dsimp only;rw[if_neg hl,if_pos hth];rfl
    have hT:eT s (K+1) t a i=(aF (az s t i) (K+1:Nat)).frame ::cg (cB s K (aF (az s t i) (K+1:Nat)).frame (a*8+i)).vs :=by
     unfold eT;dsimp only;rw[if_pos ⟨hth,hl'⟩];rfl
    refine⟨⟨hdec,fun _=>hA.code⟩,fun m hm=> ?_,by rw[hc];exact hA.up,fun u=> ?_,?_⟩
    ·rw[hc] at hm
     exact hA.maps m hm
    ·rw[hT,List.mem_cons,hA.tabs u]
     constructor
     ·rintro(rfl|⟨x,e,hx,hx8,h1,h2,h3⟩)
      ·exact⟨q,3 - K,hq,hq8,by omega,by omega,hv⟩
      ·exact⟨x,e,hx,hx8,by omega,h2,h3⟩
     ·rintro⟨x,e,hx,hx8,h1,h2,h3⟩
      by_cases he:e=3 - K
      ·subst he
       have:bu s r x (3 - K)=bu s r q (3 - K):=by
        refine cH s r hx hq (3 - K) (by omega) ?_;rw[show 4 - (3 - K)=K+1 by omega];exact hx8.trans hq8.symm
       rw[h3,hv] at this;injection this with this
       exact .inl this
      ·exact .inr ⟨x,e,hx,hx8,by omega,h2,h3⟩
    ·rw[hT,List.nodup_cons]
     refine⟨fun hm=> ?_,hA.nd⟩;obtain⟨x,e,hx,hx8,h1,h2,h3⟩:=(hA.tabs _).1 hm;have:=(hw.inj x q e (3 - K) _ hx hq h2 (by omega) h3 hv).1;omega
  ·
   have hc:gI s L t a i=[]:=by
    unfold gI;dsimp only;rw[if_neg hl,if_neg hth]
   have hT:eT s L t a i=[]:=by
    unfold eT;dsimp only;rw[if_neg (fun h=>hth h.1)]
   refine⟨⟨hdec,fun h=>absurd h.1 hth⟩,fun m hm=>(by rw[hc] at hm;cases hm),(by rw[hc];exact List.Pairwise.nil),fun u=> ?_,(by rw[hT];exact List.nodup_nil)⟩;rw[hT];constructor
   ·intro h;cases h
   ·rintro⟨x,e,hx,hx8,h1,h2,h3⟩
    exfalso;have hxt:bu s r x (3 - L)=D t:=by
     rw[←hqt];refine cH s r hx hq (3 - L) (by omega) ?_;rw[show 4 - (3 - L)=L+1 by omega];exact iQ (by omega) (hx8.trans hq8.symm)
    have hxi:au x L=i:=by rw[ib hx hq (hx8.trans hq8.symm)];exact hix
    have hth':(aF (az s t i) L).there =I:=by simpa using hth
    have hg:iw s x t (3 - (3 - L))=I:=by
     rw[e33];unfold iw cT;rw[hxi,hth'];simp
    rw[bO (dJ hxt hg) e (by omega)] at h3;cases h3
theorem pA(hw:Wf s r gone X){L:Nat}(hL:L≤3){p t:Int}(hp:dv p)(ht:bu s r p (3 - L)=D t)
  (ih:∀K,L=K+1→∀{q u:Int},dv q→bu s r q (3 - K)=D u→pz s r K u (q / aE (K+1))):pz s r L t (p / aE (L+1)):=by
 have hone:=fun i hi=>wT hw hL hp ht rfl i hi ih;generalize hpa:p / aE (L+1)=a at*
 have hhas:=(hw.at_ hp (show 3 - L≤3 by omega) ht).1;have hcode:(du s L t a (gT s L) (List.range 8)).code =0:=nR s L t a _ fun i hi=>(hone i (List.mem_range.1 hi)).code;obtain⟨_,hm,hT⟩:=l9 s L t a (List.range 8) hcode;have ee:cB s L t a=du s L t a (gT s L) (List.range 8):=by rw[i7,hhas];rfl
 have h8:=fo L;have hexp:a*aE (L+1)=a*8*aE L:=by rw[eC,Int.mul_assoc]
 have hexp1:(a+1)*aE (L+1)=a*8*aE L+8*aE L:=by rw[Int.add_mul,Int.one_mul,hexp,eC]
 have hrg:∀i:Nat,(a*8+(i:Int))*aE L=a*8*aE L+i*aE L:=fun i=>Int.add_mul _ _ _;have hrg1:∀i:Nat,(a*8+(i:Int)+1)*aE L=a*8*aE L+i*aE L+aE L:=fun i=>by rw[Int.add_mul,Int.add_mul,Int.one_mul]
 have hmul:∀i j:Nat,i≤j→(i:Int)*aE L≤j*aE L:=fun i j h=>Int.mul_le_mul_of_nonneg_right (by omega) (by omega);refine⟨by rw[ee];exact hcode,fun m hmm=> ?_,?_,fun u=> ?_,?_⟩
 ·rw[ee,hm] at hmm
  obtain⟨i,hi,hmi⟩:=List.mem_flatMap.1 hmm;have hi8:=List.mem_range.1 hi;obtain⟨c1,c2,c3⟩:=(hone i hi8).maps m hmi;rw[hrg] at c2;rw[hrg1] at c3;have a1:=hmul 0 i (by omega);have a2:=hmul (i+1) 8 (by omega);refine⟨c1,by rw[hexp];simp at a1;omega,?_⟩;rw[hexp1];have e2:((i+1:Nat):Int)*aE L=i*aE L+aE L:=by rw[Int.natCast_add,Int.add_mul];simp
  have e3:((8:Nat):Int)*aE L=8*aE L:=rfl;omega
 ·rw[ee,hm,List.pairwise_flatMap]
  refine⟨fun i hi=>(hone i (List.mem_range.1 hi)).up,?_⟩;rw[List.pairwise_iff_getElem];intro i j hi hj hij x hx y hy;simp only[List.length_range] at hi hj;simp only[List.getElem_range] at hx hy;obtain⟨_,_,c3⟩:=(hone i hi).maps x hx;obtain⟨_,d2,_⟩:=(hone j hj).maps y hy;rw[hrg1] at c3;rw[hrg] at d2;have a2:=hmul (i+1) j (by omega);have e2:((i+1:Nat):Int)*aE L=i*aE L+aE L:=by rw[Int.natCast_add,Int.add_mul];simp
  omega
 ·rw[ee,hT,List.mem_flatMap]
  constructor
  ·rintro⟨i,hi,hu⟩
   obtain⟨q,e,hq,hq8,h1,h2,h3⟩:=((hone i (List.mem_range.1 hi)).tabs u).1 hu;refine⟨q,e,hq,?_,h1,h2,h3⟩;rw[eC,Int.mul_comm,←Int.ediv_ediv_of_nonneg (by omega),hq8];have:=List.mem_range.1 hi;omega
  ·rintro⟨q,e,hq,hq8,h1,h2,h3⟩
   have hi:=cq hq hL;refine⟨(au q L).toNat,List.mem_range.2 (by omega),((hone _ (by omega)).tabs u).2 ⟨q,e,hq,?_,h1,h2,h3⟩⟩;exact tM hq hL hq8 (by omega)
 ·rw[ee,hT]
  unfold List.Nodup;rw[List.pairwise_flatMap];refine⟨fun i hi=>(hone i (List.mem_range.1 hi)).nd,?_⟩;rw[List.pairwise_iff_getElem];intro i j hi hj hij x hx y hy hxy;simp only[List.length_range] at hi hj;simp only[List.getElem_range] at hx hy;subst hxy;obtain⟨q,e,hq,hq8,h1,h2,h3⟩:=((hone i hi).tabs x).1 hx;obtain⟨q',e',hq',hq8',h1',h2',h3'⟩:=((hone j hj).tabs x).1 hy;obtain⟨rfl,hpre⟩:=hw.inj q q' e e' x hq hq' h2 h2' h3 h3';have:=iQ (show 4 - e≤L by omega) hpre;omega
theorem wU(hw:Wf s r gone X):∀L,L≤3→∀{p t:Int},dv p→bu s r p (3 - L)=D t→pz s r L t (p / aE (L+1)):=by
 intro L;induction L with
 |zero=>intro hL p t hp ht;exact pA hw hL hp ht fun K hK=>by omega
 |succ L ih=>
  intro hL p t hp ht;refine pA hw hL hp ht fun K hK=> ?_;obtain rfl:L=K:=by omega
  exact ih (by omega)
def bE(s:Ms)(r:Int):List Mp:=bY (cB s 3 r 0).vs
def cR(s:Ms)(r:Int):List Int:=r::cg (cB s 3 r 0).vs
theorem j9(hw:Wf s r gone X):(cB s 3 r 0).code =0∧Lk s r (bE s r)∧(cR s r).Nodup ∧∀t,t∈cR s r↔sR s r t:=by
 have hA:pz s r 3 r ((0:Int) / aE (3+1)):=wU hw 3 (by omega) (show dv 0 from⟨by omega,by omega⟩) rfl;have e0:(0:Int) / aE (3+1)=0:=by decide
 rw[e0] at hA;have htop:∀q,dv q→q / aE (3+1)=0:=fun q hq=>by
  have h4:aE (3+1)=4096:=rfl;rw[h4];have:=hq.1;have:=hq.2;omega
 refine⟨hA.code,⟨⟨fun m hm=>(hA.maps m hm).1,hA.up⟩,fun q hq=> ?_⟩,?_,fun t=> ?_⟩
 ·have hl:=(uR s q hq.1 hq.2 3 (by omega) r 0 [] hA.code (by omega) (by decide)).2 (htop q hq)
  have hwy:bv s r q=dm s q 3 r []:=by
   unfold bv;rw[if_pos (by unfold cZ;rw[decide_eq_true hq.1,decide_eq_true hq.2];rfl)]
  show(bY (cB s 3 r 0).vs).find? (fun m=>over m q)=bF s r q;rw[←List.head?_filter,hl.2.1,←hwy];unfold bF;split<;>rfl
 ·unfold cR
  rw[List.nodup_cons];refine⟨fun hm=> ?_,hA.nd⟩;obtain⟨q,e,hq,_,h1,h2,h3⟩:=(hA.tabs r).1 hm;have:=(hw.inj q q e 0 r hq hq h2 (by omega) h3 rfl).1;omega
 ·unfold cR
  rw[List.mem_cons,hA.tabs t];constructor
  ·rintro(rfl|⟨q,e,hq,_,h1,h2,h3⟩)
   ·exact⟨0,0,⟨by omega,by omega⟩,by omega,rfl⟩
   ·exact⟨q,e,hq,h2,h3⟩
  ·rintro⟨q,e,hq,h2,h3⟩
   cases e with
   |zero=>injection h3 with h3;exact .inl h3.symm
   |succ e=>exact .inr ⟨q,e+1,hq,htop q hq,by omega,h2,h3⟩
end
section
variable (f:Nat) (s:Ms) (gone:List Int) (X:Int→Prop) (hw:Wf s 0 gone X) (R:ae) (w:F) (h:N w (dA f s*R))
include hw h
theorem yH:V prog 73 #[.pointer (D (T f 0 C)),G H 0] w fun e w'=>∃A c,e= .returned (.tuple #[.slice A (bE s 0).length c,G H 0])∧N w' (bh (.slice A (bE s 0).length c) (bE s 0)*(dA f s*R))∧ax w w':=by
 refine(yE f s R w h 0).mono ?_;have hc:=(j9 hw).1;have e1:lN (cB s 3 0 0)=bE s 0:=by unfold lN bE;rw[if_pos hc]
 rintro e w' ⟨A,c,he,h2,x2⟩;rw[e1] at he h2;rw[hc] at he;exact⟨A,c,he,h2,x2⟩
theorem vm:V prog 74 #[.pointer (D (T f 0 C)),G H 0] w fun e w'=>∃A c,e= .returned (.tuple #[.slice A (cR s 0).length c,G H 0])∧N w' (am (.slice A (cR s 0).length c) (cR s 0)*(dA f s*R))∧ax w w':=by
 refine(vj f s R w h 0).mono ?_;have hc:=(j9 hw).1;have e1:jG (cB s 3 0 0) 0=cR s 0:=by unfold jG cR;rw[if_pos hc]
 rintro e w' ⟨A,c,he,h2,x2⟩;rw[e1] at he h2;rw[hc] at he;exact⟨A,c,he,h2,x2⟩
end
@[go_sem] def Ln.val (x:Ln):ad:= .agg #[G H x.m.page,G H x.m.size,G H x.m.frame,G H x.m.rights,vB x.dirty]
def lnZero:ad:= .agg #[G H 0,G H 0,G H 0,G H 0,vB I]
theorem qA:jp prog 143 lnZero 5 40:=⟨by kernel_rfl,rfl,by omega⟩
theorem gK(x:Ln):x.cells.length=5:=rfl
def dC(v:ad)(l:List Ln):ae:=cj 143 5 v l.length (bT l)
section
variable {w:F} {R:ae} {A:Option af} {n c:Nat} {l:List Ln}
theorem eI(h:N w (dC (.slice A n c) l*R)):n=l.length:=by
 rcases Has.rowCases (e:=143) (size:=5) h with ⟨hv,h0,_⟩|⟨g,cap,cur,hv,_⟩
 ·injection hv with a b
  omega
 ·injection hv
theorem eJ(h:N w (dC (.slice A n c) l*R)):n≤9223372036854775807∧n≤c:=by
 obtain rfl:=eI h;refine⟨(Has.rowLens (e:=143) (size:=5) h).2,?_⟩;rcases Has.rowCases (e:=143) (size:=5) h with ⟨hv,h0,_⟩|⟨g,cap,cur,hv,h1,_⟩
 ·injection hv with a b
  omega
 ·injection hv with a b d
  omega
theorem ka(h:N w (dC (.slice A n c) l*R)){k:Nat}(hk:k<l.length):
  ∃b,A=D (T b 0 C)∧b<w.heap.size∧
   (w.cell? ⟨b,k*5,C⟩=D (G H l[k].m.page)∧w.cell? ⟨b,k*5+1,C⟩=D (G H l[k].m.size)∧w.cell? ⟨b,k*5+2,C⟩=D (G H l[k].m.frame)∧w.cell? ⟨b,k*5+3,C⟩=D (G H l[k].m.rights)∧w.cell? ⟨b,k*5+4,C⟩=D (vB l[k].dirty))∧
   (w.frozen? ⟨b,k*5,C⟩=I∧w.frozen? ⟨b,k*5+1,C⟩=I∧w.frozen? ⟨b,k*5+2,C⟩=I∧w.frozen? ⟨b,k*5+3,C⟩=I∧w.frozen? ⟨b,k*5+4,C⟩=I):=by
 obtain rfl:=eI h;have g:=fun t (ht:t<5)=>Has.rowGet (e:=143) (size:=5) h (i:=k*5+t) (u:=(l[k].cells[t]'(by rw[gK];exact ht))) (by
  have:=kU (cells:=Ln.cells) gK hk ht;rw[M (l:=l[k].cells) (by rw[gK];exact ht)] at this;exact this)
 obtain⟨b,rfl,hb,c0,f0⟩:=g 0 (by omega);obtain⟨b1,e1,_,c1,f1⟩:=g 1 (by omega);obtain⟨b2,e2,_,c2,f2⟩:=g 2 (by omega);obtain⟨b3,e3,_,c3,f3⟩:=g 3 (by omega);obtain⟨b4,e4,_,c4,f4⟩:=g 4 (by omega);injection e1 with e1;injection e1 with e1;subst e1
 injection e2 with e2;injection e2 with e2;subst e2
 injection e3 with e3;injection e3 with e3;subst e3
 injection e4 with e4;injection e4 with e4;subst e4
 exact⟨b,rfl,hb,⟨c0,c1,c2,c3,c4⟩,f0,f1,f2,f3,f4⟩
theorem tN{g:Nat}(h:N w (dC (.slice (D (T g 0 C)) n c) l*R)){k:Nat}(hk:k<l.length)(x:Ln):
  N (((((w.setCell ⟨g,k*5,C⟩ (G H x.m.page)).setCell ⟨g,k*5+1,C⟩ (G H x.m.size)).setCell ⟨g,k*5+2,C⟩ (G H x.m.frame)).setCell ⟨g,k*5+3,C⟩ (G H x.m.rights)).setCell ⟨g,k*5+4,C⟩ (vB x.dirty))
   (dC (.slice (D (T g 0 C)) n c) (l.set k x)*R):=by
 obtain rfl:=eI h;have h1:=Has.rowSetCells (e:=143) (size:=5) x.cells (k*5) h (by rw[gK];omega);rw[gK] at h1;have e1:=tE (cells:=Ln.cells) gK hk x;have e2:(bT l).take (k*5)++(x.cells++(bT l).drop (k*5+5))=bT (l.set k x):=e1;rw[e2] at h1;unfold dC;rw[List.length_set];exact h1
end
def oz(p:Ln→Bool)(l:List Ln):Int:=match l.findIdx? p with|some k=>(k:Int)|none=> -1
theorem mG{p:Ln→Bool}{l:List Ln}{k:Nat}(hk:k<l.length)(h:p l[k]=Y)(ha:∀j (hj:j<l.length),j<k→p l[j]=I):oz p l=k:=by
 unfold oz;rw[List.findIdx?_eq_some_iff_getElem.2 ⟨hk,h,fun j hj=>by rw[ha j (by omega) hj];decide⟩]
theorem lq{p:Ln→Bool}{l:List Ln}(ha:∀j (hj:j<l.length),p l[j]=I):oz p l= -1:=by
 unfold oz;rw[List.findIdx?_eq_none_iff.2 fun x hx=>by
  obtain⟨j,hj,rfl⟩:=List.getElem_of_mem hx;exact ha j hj]
theorem qB(p:Ln→Bool)(l:List Ln):(oz p l= -1∧∀j (hj:j<l.length),p l[j]=I)∨∃(k:Nat) (h:k<l.length),oz p l=k∧p l[k]=Y∧∀j (hj:j<l.length),j<k→p l[j]=I:=by
 cases hf:l.findIdx? p with
 |none=>
  have ha:∀j (hj:j<l.length),p l[j]=I:=fun j hj=>by simpa using List.findIdx?_eq_none_iff.1 hf _ (List.getElem_mem hj)
  exact .inl ⟨lq ha,ha⟩
 |some k=>
  obtain⟨hk,h1,h2⟩:=List.findIdx?_eq_some_iff_getElem.1 hf;have ha:∀j (hj:j<l.length),j<k→p l[j]=I:=fun j hj hjk=>by simpa using h2 j hjk
  exact .inr ⟨k,hk,mG hk h1 ha,h1,ha⟩
theorem kW(l:List Ln)(p:Ln→Bool)(g:Nat)(cap:Array ad)(A:Option af)(n c:Nat)(R:ae)(w:F)(h:N w (dC (.slice A n c) l*R))
  (eg:∀args w,(callFunc g args).run prog w= .ok (.enter g args) w)
  (hp:∀x∈l,∀W,N W R→V prog g (#[x.val]++cap) W (a5 (vB (p x)) W)):
  V prog 159 #[.slice A n c,.func (.func g) #[] cap] w (a5 (G H (oz p l)) w):=by
 obtain rfl:=eI h;obtain⟨hbig,_⟩:=eJ h;have HP:=J hp;clear hp;go_enter func159,ntmps159;go_wp2_with fail
 go_loopw [5,8] (fun _ s8 wr=>∃k:Nat,k≤l.length∧s8=G H k∧Below w.heap.size w wr∧Hid (∀j (hj:j<l.length),j<k→p l[j]=I)) (fun _ s8 _=>l.length - (intOf s8).toNat)
 case atStart=>exact⟨0,Nat.zero_le _,rfl,Below.refl _ _,J fun j _ h=>absurd h (Nat.not_lt_zero _)⟩
 case round=>
  obtain⟨k,hk,rfl,BW,HA⟩:=hrel;by_cases hlt:k<l.length
  ·have h':=h.below BW
   obtain⟨b,rfl,hb,⟨c0,c1,c2,c3,c4⟩,_⟩:=ka h' hlt;have hc:=HP.out l[k] (List.getElem_mem hlt) wr h'.right;have hz:=J (show(l[k]=l[k]) from rfl);generalize hx:l[k]=x at c0 c1 c2 c3 c4 hc;have HX:=J hx;clear hx hz h';have BW':=J BW;clear BW h;cases hq:p x with
   |true=>
    rw[hq] at hc;go_wp2_with(go_at_fn g;refine hc.mono ?_;rintro e w' ⟨rfl,hb'⟩)
    go_ret;exact⟨by rw[mG hlt (by rw[HX.out];exact hq) HA.out];rfl,BW'.out.trans (hb'.mono BW'.out.size)⟩
   |false=>
    rw[hq] at hc;go_wp2_with(go_at_fn g;refine hc.mono ?_;rintro e w' ⟨rfl,hb'⟩)
    go_roundw
    case rel=>
     refine⟨k+1,by omega,by go_num,BW'.out.trans (hb'.mono BW'.out.size),J fun j hj hjk=> ?_⟩;by_cases e:j=k
     ·subst e;rw[HX.out];exact hq
     ·exact HA.out j hj (by omega)
    case measure=>simp[intOf];omega
  ·have:k=l.length:=by omega
   subst this;go_wp2_with fail
   go_ret;exact⟨by rw[lq fun j hj=>HA.out j hj hj];rfl,BW⟩
theorem rx:∀w,(zeroValue 143).run prog w= .ok lnZero w:=Tryz.zeroValue143
section
variable {w:F} {R:ae} {n c:Nat} {l:List Ln}
theorem qC{g i:Nat}(h:N w (dC (.slice (D (T g 0 C)) n c) l*R))(hi:i<n):∀ty,(Builtin.clear_ #[61] ty #[.slice (D ⟨g,i*5,C⟩) (n - i) (c - i)]).run prog w= .ok (.tuple #[]) (w.setCells g (i*5) (Builtin.zeroCells lnZero.cells (n - i)).toList):=by
 intro ty;have hl:=eI h;subst hl;have hg:∀j,j< (l.length - i)*5→(w.cell? ⟨g,i*5+j,C⟩).isSome =Y∧w.frozen? ⟨g,i*5+j,C⟩=I:=fun j hj=>by
  obtain⟨b,hb,_,hc,hf⟩:=Has.rowGet (e:=143) (size:=5) h (i:=i*5+j) (u:=(bT l)[i*5+j]'(by rw[ir];omega)) (M _);injection hb with hb
  injection hb with hb
  subst hb;exact⟨by rw[hc];rfl,hf⟩
 exact gJ w _ _ ty lnZero 5 underlying61 rx rfl (by intro v hv;simp[lnZero,Value.cells] at hv;rcases hv with rfl|rfl<;>rfl) g (i*5) _ _ (by omega) (by omega) (fun j hj=>(hg j hj).1) (fun j hj=>(hg j hj).2)
theorem tO{g i:Nat}(h:N w (dC (.slice (D (T g 0 C)) n c) l*R))(hi:i≤n)(zs:List ad):N (w.setCells g (i*5) zs) (dC (.slice (D (T g 0 C)) i c) (l.take i)*R):=by
 have hl:=eI h;subst hl;have h1:=Has.rowCut (e:=143) (size:=5) h hi;have h2:=Has.rowSpareCells zs (i*5) h1 (Nat.le_refl _);unfold dC;rw[List.length_take,Nat.min_eq_left hi];rw[show(bT l).take (i*5)=bT (l.take i) from gk gK l i] at h2;exact h2
end
theorem Ext.setCells{w0:F}(b:Nat):∀(vs:List ad) (o:Nat) {w:F},ax w0 w→ax w0 (w.setCells b o vs)
 | [],_,_,h=>h
 |_::r,o,_,h=>Ext.setCells b r (o+1) (h.set _ _)
theorem jH{p:Ln→Bool}{l:List Ln}{j:Nat}(hj:j<l.length):(l.take (j+1)).filter p=(l.take j).filter p++(if p l[j] then [l[j]] else []):=by
 rw[List.take_succ_eq_append_getElem hj,List.filter_append];cases hq:p l[j]<;>simp[hq]
theorem ny(l:List Ln)(p:Ln→Bool)(g:Nat)(cap:Array ad)(A:Option af)(n c:Nat)(R:ae)(w:F)(h:N w (dC (.slice A n c) l*R))
  (eg:∀args w,(callFunc g args).run prog w= .ok (.enter g args) w)
  (hp:∀x∈l,∀W,N W R→V prog g (#[x.val]++cap) W (a5 (vB (p x)) W)):
  V prog 185 #[.slice A n c,.func (.func g) #[] cap] w
   (cN (.slice A (l.filter fun x=> !p x).length c) (dC (.slice A (l.filter fun x=> !p x).length c) (l.filter fun x=> !p x)*R) w):=by
 have hI:=kW l p g cap A n c R w h eg hp;obtain rfl:=eI h;obtain⟨hbig,hnc⟩:=eJ h;have HP:=J hp;clear hp;rcases qB p l with ⟨e1,hall⟩|⟨k0,hk0,e1,ht,hall⟩
 ·rw[e1] at hI
  have hf:(l.filter fun x=> !p x)=l:=List.filter_eq_self.2 fun x hx=>by
   obtain⟨j,hj,rfl⟩:=List.getElem_of_mem hx;rw[hall j hj];rfl
  rw[hf];clear hall e1 hf;go_enter func185,ntmps185;go_wp2_with(refine hI.mono ?_;rintro e w2 ⟨rfl,b2⟩)
  go_ret;exact⟨rfl,h.below b2,(Z w).below b2⟩
 ·rw[e1] at hI
  have hne:((k0:Int)== -1)=I:=beq_eq_false_iff_ne.2 (by omega);have hA:=h;obtain⟨b,rfl,_⟩:=ka hA hk0;clear hA;have HK:=J (show l.take k0=(l.take (k0+1)).filter fun x=> !p x by
   rw[jH hk0,ht];simp only[Bool.not_true,Bool.false_eq_true,if_false,List.append_nil];exact(List.filter_eq_self.2 fun x hx=>by
    obtain⟨j,hj,rfl⟩:=List.getElem_of_mem hx;rw[List.length_take] at hj;rw[List.getElem_take,hall j (by omega) (by omega)];rfl).symm)
  clear hall ht e1;go_enter func185,ntmps185;go_wp2_with(refine hI.mono ?_;rintro e w2 ⟨rfl,b2⟩)
  have h2:=h.below b2;have x2:=(Z w).below b2;clear h hI;go_loopw [5,6,7] (fun s5 s6 _ wr=>∃(i j:Nat) (dk:List Ln),s5=G H i∧s6=G H j∧i<j∧j≤l.length∧dk.length=l.length∧Hid (dk.take i=(l.take j).filter fun x=> !p x)∧Hid (dk.drop j=l.drop j)∧N wr (dC (.slice (D (T b 0 C)) l.length c) dk*R)∧ax w wr) (fun _ s6 _ _=>l.length - (intOf s6).toNat)
  case atStart=>exact⟨k0,k0+1,l,rfl,by go_num,by omega,by omega,rfl,HK,J rfl,h2,x2⟩
  case round=>
   clear h2 x2 b2 HK;obtain⟨i,j,dk,rfl,rfl,hij,hjl,hdl,HT,HD,hr,hx⟩:=hrel;by_cases hlt:j<l.length
   ·have hj:j<dk.length:=by omega
    have hxj:dk[j]=l[j]:=by
     have e1:(dk.drop j)[0]? =(l.drop j)[0]? :=by rw[HD.out]
     simp only[List.getElem?_drop,Nat.add_zero] at e1;rw[M hj,M hlt] at e1;injection e1
    obtain⟨b',hb',hb,⟨c0,c1,c2,c3,c4⟩,_⟩:=ka hr hj;injection hb' with hb'
    injection hb' with hb'
    subst hb';rw[hxj] at c0 c1 c2 c3 c4;have HX:=J (show l[j]∈l from List.getElem_mem hlt);have HN:=J (jH (p:=fun x=> !p x) hlt);have HDN:=J (show dk.drop (j+1)=l.drop (j+1) by
     have:=HD.out;rw[←List.drop_drop (j:=j) (i:=1),←List.drop_drop (j:=j) (i:=1),this])
    clear hxj;generalize l[j]=x at c0 c1 c2 c3 c4 HX HN;have h3:=hr.new #[G H x.m.page,G H x.m.size,G H x.m.frame,G H x.m.rights,vB x.dirty] 143;have x3:=hx.alloc (.cells #[G H x.m.page,G H x.m.size,G H x.m.frame,G H x.m.rights,vB x.dirty] 143);have hc:=HP.out x HX.out _ h3.right.right;clear hr hx;cases hq:p x with
    |true=>
     rw[hq] at hc;go_wp2_with(refine hc.mono ?_;rintro e w' ⟨rfl,b4⟩)
     have h4:=(h3.below b4).right;have x4:=x3.below b4;go_roundw
     case rel=>exact⟨i,j+1,dk,rfl,by go_num,by omega,by omega,hdl,J (by rw[HT.out,HN.out,hq];simp),HDN,h4,x4⟩
     case measure=>simp[intOf];omega
    |false=>
     rw[hq] at hc;have hi:i<dk.length:=by omega
     go_wp2_with(refine hc.mono ?_;rintro e w' ⟨rfl,b4⟩;have h4:=h3.below b4;obtain⟨a0,a1,a2,a3,a4⟩:=h4.cells5;obtain⟨b',hb',gb,⟨g0,g1,g2,g3,g4⟩,f0,f1,f2,f3,f4⟩:=ka h4.right hi;injection hb' with hb';injection hb' with hb';subst hb')
     have h5:=tN h4.right hi x;go_roundw
     case rel=>
      refine⟨i+1,j+1,dk.set i x,by go_num,by go_num,by omega,by omega,by rw[List.length_set];exact hdl,J ?_,J ?_,h5,((((((x3.below b4).set _ _).set _ _).set _ _).set _ _).set _ _)⟩
      ·rw[HN.out,hq,←HT.out,List.take_succ_eq_append_getElem (by rw[List.length_set];exact hi),List.getElem_set_self,List.take_set_of_le (Nat.le_refl i)]
       simp
      ·rw[List.drop_set_of_lt (by omega),HDN.out]
     case measure=>simp[intOf];omega
   ·have hje:j=l.length:=by omega
    subst hje;obtain⟨zs,hcl⟩:∃zs,∀ty,(Builtin.clear_ #[61] ty #[.slice (D ⟨b,i*5,C⟩) (l.length - i) (c - i)]).run prog wr= .ok (.tuple #[]) (wr.setCells b (i*5) zs):=⟨_,qC hr hij⟩;have hci:¬l.length≤i:=by omega
    have hfin:=tO hr (Nat.le_of_lt hij) zs;have hf:dk.take i=l.filter fun x=> !p x:=by rw[HT.out,List.take_length]
    have hfl:(l.filter fun x=> !p x).length =i:=by rw[←hf,List.length_take];omega
    have hF:=J hf;have hFL:=J hfl;clear hf hfl hr;go_wp2_with fail
    go_ret;rw[hFL.out,←hF.out];exact⟨rfl,hfin,Ext.setCells _ _ _ hx⟩
theorem vo:(prog.info? 143).map (fun i=>(i.zero,i.size,i.bytes))=D (D lnZero,5,40):=by kernel_rfl
theorem pB{l:List Ln}:∀u∈bT l,u.oneCell'=Y:=by
 intro u hu;obtain⟨x,_,hx⟩:=List.mem_flatMap.1 hu;simp[Ln.cells] at hx;rcases hx with rfl|rfl|rfl|rfl|rfl<;>rfl
theorem nS{w:F}{R:ae}{g n c:Nat}{l:List Ln}(h:N w (dC (.slice (D (T g 0 C)) n c) l*R))(k:Nat):
  ∀j u,((bT l).drop (k*5))[j]? =D u→w.cell? ⟨g,k*5+j,C⟩=D u:=by
 intro j u hu;rw[List.getElem?_drop] at hu;obtain rfl:=eI h;obtain⟨b,hb,_,hc,_⟩:=Has.rowGet (e:=143) (size:=5) h hu;injection hb with hb
 injection hb with hb
 subst hb;exact hc
theorem rY(l:List Ln)(i j g n c:Nat)(R:ae)(w:F)(hij:i<j)(hj:j≤n)(h:N w (dC (.slice (D (T g 0 C)) n c) l*R)):
  V prog 112 #[.slice (D (T g 0 C)) n c,.int .i64 i,.int .i64 j] w
   (cN (.slice (D (T g 0 C)) (i+(n - j)) c) (dC (.slice (D (T g 0 C)) (i+(n - j)) c) (l.take i++l.drop j)*R) w):=by
 obtain rfl:=eI h;obtain⟨hbig,hnc⟩:=eJ h;obtain⟨i0,hi0,hz0,hz1,hz2⟩:=info_parts vo;obtain⟨A,hA,hnews⟩:∃A:af,(if c=j then D ((T g 0 C):af) else D ⟨g,j*5,C⟩)=D A∧Hid (∀t u,((bT l).drop (j*5))[t]? =D u→w.drew.cell? (A.add t)=D u):=by
  by_cases hc:c=j
  ·refine⟨(T g 0 C),by simp[hc],fun t u hu=> ?_⟩
   rw[List.drop_eq_nil_of_le (by rw[ir];omega)] at hu;simp at hu
  ·refine⟨⟨g,j*5,C⟩,by simp[hc],fun t u hu=> ?_⟩
   rw[Addr.add_lit];exact nS h j t u hu
 have s1:Hid (((bT l).drop (j*5)).length =(l.length - j)*5):=by rw[List.length_drop,ir];show _=_;omega
 have s2:Hid (∀u∈(bT l).drop (j*5),u.oneCell'=Y):=fun u hu=>pB u (List.mem_of_mem_drop hu);have s3:Hid (∀t,t< ((bT l).drop (j*5)).length →(w.drew.cell? ⟨g,0+i*5+t,C⟩).isSome =Y∧w.drew.frozen? ⟨g,0+i*5+t,C⟩=I):=by
  intro t ht;rw[s1.out] at ht;obtain⟨b,hb,_,hc,hf⟩:=Has.rowGet (e:=143) (size:=5) h (i:=i*5+t) (u:=(bT l)[i*5+t]'(by rw[ir];omega)) (M _);injection hb with hb
  injection hb with hb
  subst hb;rw[Nat.zero_add];exact⟨by show(w.cell? _).isSome =Y;rw[hc];rfl,hf⟩
 have hic:i≤c:=by omega
 have hne:((i:Int)==(j:Int))=I:=beq_eq_false_iff_ne.2 (by omega);go_enter func112,ntmps112;go_wp2_with fail
 go_region_law (refine step_append_room rfl (.tmp 22) (.tmp 25) 61 rfl 143 i0 5 underlying61 hi0 hz1 g 0 i c (by simp[Act.eval,Act.put]) A (l.length - j) (c - j) ((bT l).drop (j*5)) (by simp[Act.eval,Act.put]) s1.out hnews.out s2.out (by omega) s3.out ?_)
 have hn':i+(l.length - j)<l.length:=by omega
 have h1:=Has.rowSetCells (e:=143) (size:=5) ((bT l).drop (j*5)) (i*5) h.drew (by rw[s1.out];omega);have hz:(l.take i++l.drop j).length =i+(l.length - j):=by simp;omega
 obtain⟨zs,hcl⟩:∃zs,∀ty,(Builtin.clear_ #[61] ty #[.slice (D ⟨g,(i+(l.length - j))*5,C⟩) (l.length - (i+(l.length - j))) (c - (i+(l.length - j)))]).run prog (w.drew.setCells g (i*5) ((bT l).drop (j*5)))= .ok (.tuple #[]) ((w.drew.setCells g (i*5) ((bT l).drop (j*5))).setCells g ((i+(l.length - j))*5) zs):=by
  refine⟨_,fun ty=>gJ _ _ _ ty lnZero 5 underlying61 rx rfl (by intro v hv;simp[lnZero,Value.cells] at hv;rcases hv with rfl|rfl<;>rfl) g _ _ _ (by omega) (by omega) (fun t ht=> ?_) (fun t ht=> ?_)⟩
  all_goals
   obtain⟨b,hb,_,hc,hf⟩:=Has.rowGet (e:=143) (size:=5) h1 (i:=(i+(l.length - j))*5+t) (M (by rw[h1.rowLens.1];omega));injection hb with hb
   injection hb with hb
   subst hb
  ·rw[hc];rfl
  ·exact hf
 have hfin:N ((w.drew.setCells g (i*5) ((bT l).drop (j*5))).setCells g ((i+(l.length - j))*5) zs) (dC (.slice (D (T g 0 C)) (i+(l.length - j)) c) (l.take i++l.drop j)*R):=by
  have:=Has.rowDelete (e:=143) (size:=5) (i:=i) (j:=j) h.drew (by omega) hj zs;unfold dC;rw[hz,gu];have e1:(bT l).take (i*5)=bT (l.take i):=gk gK l i;have e2:(bT l).drop (j*5)=bT (l.drop j):=gj gK l j;rw[←e1,←e2];exact this
 have hx:ax w ((w.drew.setCells g (i*5) ((bT l).drop (j*5))).setCells g ((i+(l.length - j))*5) zs):=Ext.setCells _ _ _ (Ext.setCells _ _ _ (Z w).drew);clear h1 s1 s2 s3 hnews hA h hz;generalize (w.drew.setCells g (i*5) ((bT l).drop (j*5)))=w1 at*
 generalize i+(l.length - j)=n' at*
 have hcn:¬c≤n':=by omega
 have hnn:(n':Int)≤(l.length:Int):=by omega
 go_wp2_with fail
 go_ret;exact⟨rfl,hfin,hx⟩
def tP(l:List Ln)(w:F)(e:Ending)(w':F):Prop:=∃A n c,e= .returned (.slice A n c)∧N w' (dC (.slice A n c) l*a9 w w.heap.size)∧ax w w'
theorem tQ(l:List Ln)(A:Option af)(n c:Nat)(R:ae)(w:F)(hs:l.length≤1000000)(h:N w (dC (.slice A n c) l*R)):
  V prog 134 #[.slice A n c] w (tP l w):=by
 have q22:∀(w:F) (a:Option af) (n c n' c':Nat),(binOp .eql 61 (.slice a n c) (.slice C n' c')).run prog w= .ok (.bool a.isNone) w:=fun w a n c n' c'=>Lib.run_eql_slice_nil w _ _ a n c n' c' underlying61;have hl0:=eI h;subst hl0;cases A with
 |none=>
  have h0:l=[]∧c=0:=by
   rcases Has.rowCases (e:=143) (size:=5) h with ⟨hv,h0,_⟩|⟨g,cap,cur,hv,_⟩
   ·injection hv with a b d
    exact⟨List.eq_nil_of_length_eq_zero h0,d⟩
   ·injection hv with a
    cases a
  obtain⟨rfl,rfl⟩:=h0;go_enter func134,ntmps134;go_wp2_with fail
  go_ret;exact⟨C,0,0,rfl,Has.rowNil (aM w),Z _⟩
 |some a=>
  have h0:∃g,a=(T g 0 C):=by
   rcases Has.rowCases (e:=143) (size:=5) h with ⟨hv,h0,_⟩|⟨g,cap,cur,hv,_⟩
   ·injection hv with a b d
    cases a
   ·injection hv with a
    injection a with a
    exact⟨g,a⟩
  obtain⟨g,rfl⟩:=h0;have h1:=(aM w).new #[] 143;have hrow:N (w.alloc (.cells #[] 143)) (cj 143 5 (.slice (D (T w.heap.size 0 C)) 0 0) 0 []*a9 w w.heap.size):=h1.rowOf rfl (Nat.le_refl _) (by unfold maxLen;omega) rfl rfl;have hn:=nS (h.alloc (.cells #[] 143)) 0;have hne:Hid (∀j u,(bT l)[j]? =D u→(w.alloc (.cells #[] 143)).cell? (((T g 0 C):af).add j)=D u):=fun j u hu=>by
   rw[Addr.add_lit];exact hn j u (by simpa using hu)
  have x1:=(Z w).alloc (.cells #[] 143);clear hn h1 h;go_enter func134,ntmps134;go_wp2_with(at_builtin;refine aN rfl _ _ 61 rfl underlying61 qA _ _ _ rfl hrow (T g 0 C) l.length c (bT l) rfl (ir l) hne.out pB ?c2 ?c3 ?_)
  case c2=>unfold maxLen;omega
  case c3=>omega
  intro v' w2 h' x';obtain⟨A',c',rfl⟩:=h'.rowForm;go_wp2_with fail
  go_ret;exact⟨A',_,c',rfl,h',x1.trans x'⟩
theorem nT{w:F}{R:ae}{b:Nat}{v0 v1 v2 v3 v4:ad}(h:N w (aa b #[v0,v1,v2,v3,v4] 143*R)):(loadVar 143 (T b 0 C)).run prog w= .ok (.agg #[v0,v1,v2,v3,v4]) w:=
 run_loadVar_row w b 143 143 _ _ _ h.heap underlying143 rfl (by kernel_rfl)
theorem Has.set5{w:F}{R:ae}{b:Nat}{v0 v1 v2 v3 v4:ad}{t:TypeId}(h:N w (aa b #[v0,v1,v2,v3,v4] t*R))(u0 u1 u2 u3 u4:ad):
  N (((((w.setCell (T b 0 C) u0).setCell (T b 1 C) u1).setCell (T b 2 C) u2).setCell (T b 3 C) u3).setCell (T b 4 C) u4) (aa b #[u0,u1,u2,u3,u4] t*R):=
 ((((h.set 0 u0).set 1 u1).set 2 u2).set 3 u3).set 4 u4
theorem Has.frees5{w:F}{R:ae}{b:Nat}{v0 v1 v2 v3 v4:ad}{t:TypeId}(h:N w (aa b #[v0,v1,v2,v3,v4] t*R)):
  w.frozen? (T b 0 C)=I∧w.frozen? (T b 1 C)=I∧w.frozen? (T b 2 C)=I∧w.frozen? (T b 3 C)=I∧w.frozen? (T b 4 C)=I:=
 ⟨h.free 0,h.free 1,h.free 2,h.free 3,h.free 4⟩
def kX(p:Nat)(A:Option af)(c:Nat)(l:List Ln)(R:ae):ae:=aa p #[.slice A l.length c] 189*(dC (.slice A l.length c) l*R)
def cm(p:Nat)(l:List Ln):ae:=ex fun A=>ex fun c=>kX p A c l (ei True)
theorem kb(R:ae):ei True*R=R:=by
 funext h
 apply propext;constructor
 ·rintro⟨h1,h2,d,rfl,⟨_,rfl⟩,q⟩
  have:Hpm.union Hpm.emp h2=h2:=by funext b;simp[Hpm.union,Hpm.emp]
  rw[this];exact q
 ·intro q
  exact⟨Hpm.emp,h,fun b=> .inl rfl,by funext b;simp[Hpm.union,Hpm.emp],⟨trivial,rfl⟩,q⟩
theorem eK{p:Nat}{l:List Ln}{R:ae}{w:F}(h:N w (cm p l*R)):∃A c,N w (kX p A c l R):=by
 unfold cm at h;obtain⟨g,h⟩:=aG.1 h;obtain⟨vf,h⟩:=aG.1 h;refine⟨g,vf,?_⟩;unfold kX at h⊢;simpa only[aI,kb] using h
theorem im{p c:Nat}{A:Option af}{l:List Ln}{R:ae}{w:F}(h:N w (kX p A c l R)):N w (cm p l*R):=by
 unfold cm;refine aG.2 ⟨A,aG.2 ⟨c,?_⟩⟩;unfold kX at h⊢;simpa only[aI,kb] using h
def yI(l:List Ln):Prop:=∀x∈l,cy x.m.page
theorem zJ(R:ae)(w:F)(h:N w R):V prog 95 #[] w fun e w'=>∃p,cN (.pointer (D (T p 0 C))) (cm p []*R) w e w':=by
 have h1:=h.new #[.slice C 0 0] 189;have h2:N (w.alloc (.cells #[.slice C 0 0] 189)) (kX w.heap.size C 0 [] R):=(Has.rowNil h1).p2;go_enter func95,ntmps95;go_wp2;go_ret;exact⟨_,rfl,im h2,(Z w).alloc _⟩
theorem oA(x:Ln)(k:Int)(X:Nat)(R:ae)(w:F)(hx:cy x.m.page)(hk:cy k)(h:N w (aa X #[G H k] 3*R)):
  V prog 160 #[x.val,.pointer (D (T X 0 C))] w (a5 (vB (over x.m k)) w):=by
 have h1:=h.new #[G H x.m.page,G H x.m.size,G H x.m.frame,G H x.m.rights,vB x.dirty] 143;have bl:=(Below.refl w.heap.size w).alloc (Nat.le_refl _) (.cells #[G H x.m.page,G H x.m.size,G H x.m.frame,G H x.m.rights,vB x.dirty] 143);have c0:=h1.right.cell 0;have hX:=h1.right.lt;obtain⟨d0,d1,d2,d3,d4⟩:=h1.cells5;go_enter func160,ntmps160;go_wp2_with(refine(j3 x.m k _ hx hk).mono ?_;rintro e w2 ⟨rfl,b2⟩)
 go_ret;exact⟨rfl,bl.trans (b2.mono bl.size)⟩
theorem oB(x:Ln)(m:Mp)(X:Nat)(R:ae)(w:F)(hx:cy x.m.page)(hm:cy m.page)(h:N w (aa X #[G H m.page,G H m.size,G H m.frame,G H m.rights] 39*R)):
  V prog 186 #[x.val,.pointer (D (T X 0 C))] w (a5 (vB (dH x.m m)) w):=by
 have h1:=h.new #[G H x.m.page,G H x.m.size,G H x.m.frame,G H x.m.rights,vB x.dirty] 143;have bl:=(Below.refl w.heap.size w).alloc (Nat.le_refl _) (.cells #[G H x.m.page,G H x.m.size,G H x.m.frame,G H x.m.rights,vB x.dirty] 143);obtain⟨c0,c1,c2,c3⟩:=h1.right.cells4;have hX:=h1.right.lt;obtain⟨d0,d1,d2,d3,d4⟩:=h1.cells5;go_enter func186,ntmps186;go_wp2_with(refine(pq x.m m _ hx hm).mono ?_;rintro e w2 ⟨rfl,b2⟩)
 go_ret;exact⟨rfl,bl.trans (b2.mono bl.size)⟩
theorem yJ(p:Nat)(l:List Ln)(R:ae)(w:F)(hs:l.length≤1000000)(h:N w (cm p l*R)):
  V prog 77 #[.pointer (D (T p 0 C))] w (tP l w):=by
 obtain⟨A,c,h⟩:=eK h;have hC:=tQ l A l.length c _ w hs h.p2;have c0:=h.cell 0;have hp:=h.lt;go_enter func77,ntmps77;go_wp2_with(refine hC.mono ?_;rintro e w2 ⟨A',n',c',rfl,h2,x2⟩)
 go_ret;exact⟨A',n',c',rfl,h2,x2⟩
theorem tR(p:Nat)(R:ae)(w:F)(h:N w (cm p []*R)):
  V prog 64 #[.pointer (D (T p 0 C))] w (cN (vB I) (cm p []*R) w):=by
 obtain⟨A,c,h⟩:=eK h;have c0:w.cell? (T p 0 C)=D (.slice A 0 c):=h.cell 0;have hp:=h.lt;go_enter func64,ntmps64;go_wp2_with fail
 go_ret;exact⟨rfl,im h,Z _⟩
theorem nU(p:Nat)(l:List Ln)(R:ae)(w:F)(hl:0<l.length)(h:N w (cm p l*R)):
  V prog 64 #[.pointer (D (T p 0 C))] w (cN (vB Y) (cm p l.tail*R) w):=by
 obtain⟨A,c,h⟩:=eK h;obtain⟨g,rfl,_⟩:=ka (k:=0) h.right hl;have hC:=rY l 0 1 g l.length c _ w (by omega) (by omega) h.p2;have hne:((l.length:Int)==0)=I:=beq_eq_false_iff_ne.2 (by omega);have e1:l.take 0++l.drop 1=l.tail:=by simp
 have e2:0+(l.length - 1)=l.tail.length:=by simp
 rw[e1,e2] at hC;clear e1 e2;have c0:w.cell? (T p 0 C)=D (.slice (D (T g 0 C)) l.length c):=h.cell 0;have hp:=h.lt;have hbig:=(eJ h.right).1;clear h;generalize l.tail=l' at*
 go_enter func64,ntmps64;go_wp2_with(refine hC.mono ?_;rintro e w2 ⟨rfl,h2,x2⟩;have d0:=h2.right.lt;have d1:=h2.right.free 0;have d2:=h2.right.cell 0)
 go_ret;exact⟨rfl,im (h2.p2.set 0 _),x2.set _ _⟩
theorem wu(p:Nat)(l:List Ln)(m:Mp)(R:ae)(w:F)(hok:yI l)(hm:cy m.page)(h:N w (cm p l*R)):
  V prog 168 #[.pointer (D (T p 0 C)),.agg #[G H m.page,G H m.size,G H m.frame,G H m.rights]] w (cN (G H ((l.length:Int) - (Tl.drop l m).length)) (cm p (Tl.drop l m)*R) w):=by
 have hmf:∀(fn:Fn) (first cap:Array ad) (w:F),(Instr.makeFunc fn first cap).run prog w= .ok (.func fn first cap) w:=fun _ _ _ _=>rfl;obtain⟨A,c,h⟩:=eK h;have h1:=h.new #[G H m.page,G H m.size,G H m.frame,G H m.rights] 39;have x1:=(Z w).alloc (.cells #[G H m.page,G H m.size,G H m.frame,G H m.rights] 39);have hbig:=(eJ h.right).1;have c0:=h1.right.cell 0;have hp:=h1.right.lt;have h2:N (w.alloc (.cells #[G H m.page,G H m.size,G H m.frame,G H m.rights] 39)) (dC (.slice A l.length c) l*(aa w.heap.size #[G H m.page,G H m.size,G H m.frame,G H m.rights] 39*(aa p #[.slice A l.length c] 189*R))):=h1.eq (by unfold kX;(simp only[aI,av,bo]));have hC:=ny l (fun x=>dH x.m m) 186 #[.pointer (D (T w.heap.size 0 C))] A l.length c _ _ h2 (enters_of func186 (by kernel_rfl) rfl) (fun x hx W hW=>oB x m _ _ W (hok x hx) hm hW);have hle:(Tl.drop l m).length ≤l.length:=List.length_filter_le _ _;have hC2:V prog 185 #[.slice A l.length c,.func (.func 186) #[] #[.pointer (D (T w.heap.size 0 C))]] (w.alloc (.cells #[G H m.page,G H m.size,G H m.frame,G H m.rights] 39))
   (cN (.slice A (Tl.drop l m).length c) (dC (.slice A (Tl.drop l m).length c) (Tl.drop l m)*(aa w.heap.size #[G H m.page,G H m.size,G H m.frame,G H m.rights] 39*(aa p #[.slice A l.length c] 189*R))) (w.alloc (.cells #[G H m.page,G H m.size,G H m.frame,G H m.rights] 39))):=hC
 clear hC h2 h1 h;generalize Tl.drop l m=l' at*
 go_enter func168,ntmps168;go_wp2_with(refine hC2.mono ?_;rintro e w2 ⟨rfl,h2,x2⟩;have d0:=h2.right.right.lt;have d1:=h2.right.right.free 0;have d2:=h2.right.right.cell 0)
 have h3:N w2 (aa p #[.slice A l.length c] 189*(dC (.slice A l'.length c) l'*R)):=h2.p2.right.p2;go_ret;exact⟨by go_num,im (h3.set 0 _),(x1.trans x2).set _ _⟩
def yK:Option Ln→ad
 |none=>lnZero
 |some x=>x.val
theorem yM(p:Nat)(l:List Ln)(k:Int)(R:ae)(w:F)(hok:yI l)(hk:cy k)(h:N w (cm p l*R)):
  V prog 102 #[.pointer (D (T p 0 C)),.int .i64 k] w (a5 (.tuple #[yK (Tl.find l k),vB (Tl.find l k).isSome]) w):=by
 have hmf:∀(fn:Fn) (first cap:Array ad) (w:F),(Instr.makeFunc fn first cap).run prog w= .ok (.func fn first cap) w:=fun _ _ _ _=>rfl;obtain⟨A,c,h⟩:=eK h;have h1:=h.new #[G H k] 3;have h2:=h1.new #[G H 0,G H 0,G H 0,G H 0,vB I] 143;have H2:=((aM w).new #[G H k] 3).new #[G H 0,G H 0,G H 0,G H 0,vB I] 143;have x2:=((Z w).alloc (.cells #[G H k] 3)).alloc (.cells #[G H 0,G H 0,G H 0,G H 0,vB I] 143);simp only[al] at h2 H2;have hbig:=(eJ h.right).1;have hL:N ((w.alloc (.cells #[G H k] 3)).alloc (.cells #[G H 0,G H 0,G H 0,G H 0,vB I] 143)) (dC (.slice A l.length c) l*(aa w.heap.size #[G H k] 3*(aa (w.heap.size+1) #[G H 0,G H 0,G H 0,G H 0,vB I] 143*(aa p #[.slice A l.length c] 189*R)))):=h2.eq (by unfold kX;(simp only[aI,av,bo]));have hC:=kW l (fun x=>over x.m k) 160 #[.pointer (D (T w.heap.size 0 C))] A l.length c _ _ hL (enters_of func160 (by kernel_rfl) rfl) (fun x hx W hW=>oA x k _ _ W (hok x hx) hk hW);have c0:=h2.right.right.cell 0;have hp:=h2.right.right.lt;have he:oz (fun x=>over x.m k) l=Tl.idx l k:=rfl;rw[he] at hC;clear he h h1 h2;rcases Tl.idx_find l k with ⟨e1,e2⟩|⟨j,hj,e1,e2,_⟩
 ·rw[e1]
  rw[e2] at hC;clear e1 e2;go_enter func102,ntmps102;go_wp2_with(refine hC.mono ?_;rintro e w2 ⟨rfl,b2⟩;have H3:=H2.below b2;have x3:=x2.below b2;obtain⟨d0,d1,d2,d3,d4⟩:=H3.cells5;obtain⟨f0,f1,f2,f3,f4⟩:=H3.frees5;have fl:=H3.lt)
  refine ao (fun wz=>N wz (aa (w.heap.size+1) #[G H 0,G H 0,G H 0,G H 0,vB I] 143*(aa w.heap.size #[G H k] 3*a9 w w.heap.size))∧ax w wz) ⟨H3.set5 _ _ _ _ _,ai⟩ ?_;rintro wz ⟨hz,xz⟩;exact U (ay results102 rfl rfl (nT hz)) rfl ⟨rfl,ap hz.right.right xz⟩
 ·rw[e2]
  rw[e1] at hC;clear e1 e2;go_enter func102,ntmps102;go_wp2_with(refine hC.mono ?_;rintro e w2 ⟨rfl,b2⟩;have H3:=H2.below b2;have x3:=x2.below b2;obtain⟨d0,d1,d2,d3,d4⟩:=H3.cells5;obtain⟨f0,f1,f2,f3,f4⟩:=H3.frees5;have fl:=H3.lt;have k0:=(hL.below b2).right.right.right.cell 0;have kp:=(hL.below b2).right.right.right.lt;obtain⟨g,rfl,gb,⟨g0,g1,g2,g3,g4⟩,_⟩:=ka (hL.below b2) hj)
  generalize l[j]=x at*
  refine ao (fun wz=>N wz (aa (w.heap.size+1) #[G H x.m.page,G H x.m.size,G H x.m.frame,G H x.m.rights,vB x.dirty] 143*(aa w.heap.size #[G H k] 3*a9 w w.heap.size))∧ax w wz) ⟨H3.set5 _ _ _ _ _,ai⟩ ?_;rintro wz ⟨hz,xz⟩;exact U (ay results102 rfl rfl (nT hz)) rfl ⟨rfl,ap hz.right.right xz⟩
end Go.Proofs.YtmfheghbgihdmaaGreat
