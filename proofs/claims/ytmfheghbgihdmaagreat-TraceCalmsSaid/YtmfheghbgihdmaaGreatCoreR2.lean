/- The contract of the document's Put. -/
import Derived.Test.YtmfheghbgihdmaaGreatWchD
import Derived.Test.YtmfheghbgihdmaaGreatTabD
import Derived.Test.YtmfheghbgihdmaaGreatTblM4
import Derived.Test.YtmfheghbgihdmaaGreatWkr3
import Derived.BigQuiet
import Derived.Deep.RegionHeld3
import Derived.Deep.DeepCutAuto
import Derived.Test.YtmfheghbgihdmaaGreatFindIn
import Derived.Test.YtmfheghbgihdmaaGreatSpcC
import Derived.Test.YtmfheghbgihdmaaGreatEntry2
namespace Go.Proofs.YtmfheghbgihdmaaGreat
open Go.IntKind renaming u64→vU
open Go.Value renaming int→o,bool→J
open Go.IntKind renaming i64→B,wrap_i64→bb
open Option renaming none→C,some→D
open Bool renaming false→F,true→O
open Go.Addr renaming mk→H
open Go.Lib renaming hid→I
open Go.Proofs.YtmfheghbgihdmaaGreat renaming Has→N,Ext→bf,way→bi,lev→bk
open Go renaming bodyPost_ret→S,World→V,Calls→bd,Addr→b0,Value→b7
open List renaming getElem?_eq_some_iff→T,getElem?_eq_getElem→ag,length_append→b4
open Go.World renaming size_alloc→U
open Int renaming eq_ofNat_of_zero_le→ad
open Go.Proofs.YtmfheghbgihdmaaGreat.Ms renaming new→af,has_iff→b3
open Go.Proofs.YtmfheghbgihdmaaGreat.Ext renaming refl→ax
open Go.Ending renaming returned→bs
open Tryz
open Go.RowKit
set_option maxRecDepth 100000
def aQ(q:Nat)(l:List Ln)(k:Ck):ab:=ex fun A=>ex fun c=>aN q A c l k (eY True)
theorem cP{q:Nat}{l:List Ln}{k:Ck}{R:ab}{w:V}(h:N w (aQ q l k*R)):∃A c,N w (aN q A c l k R):=by
 unfold aQ at h;obtain⟨g,h⟩:=aF.1 h;obtain⟨vf,h⟩:=aF.1 h;refine⟨g,vf,?_⟩;unfold aN at h⊢;simpa only[aX,jZ] using h
theorem bx{q c:Nat}{A:Option b0}{l:List Ln}{k:Ck}{R:ab}{w:V}(h:N w (aN q A c l k R)):N w (aQ q l k*R):=by
 unfold aQ;refine aF.2 ⟨A,aF.2 ⟨c,?_⟩⟩;unfold aN at h⊢;simpa only[aX,jZ] using h
theorem nK{q c X:Nat}{A:Option b0}{l:List Ln}{k:Ck}{x:Ln}{cs:Array b7}{t:TypeId}{R:ab}{w:V}(h:N w (cC q (.slice A (l.length+1) c) k*(mC 129 5 (.slice A (l.length+1) c) (l.length+1) (bW l++x.cells)*(aa X cs t*R)))):
  N w (aQ q (l++[x]) k*R):=by
 have h1:=h.drop3;refine bx (A:=A) (c:=c) ?_;unfold aN gJ;rw[show(l++[x]).length =l.length+1 by simp,gx,show bW [x]=x.cells by simp[bW]];exact h1
theorem wm(q:Nat)(l:List Ln)(k:Ck)(x:Ln)(R:ab)(w:V)(hc:bc x.m≠0)(h:N w (aQ q l k*R)):
  bd prog 68 #[.pointer (D (H q 0 C)),.agg #[o B x.m.page,o B x.m.size,o B x.m.frame,o B x.m.rights,J x.dirty]] w (cR (J F) (aQ q l k*R) w):=by
 have h1:=h.new #[o B x.m.page,o B x.m.size,o B x.m.frame,o B x.m.rights,J x.dirty] 129;have x1:=(ax w).alloc (.cells #[o B x.m.page,o B x.m.size,o B x.m.frame,o B x.m.rights,J x.dirty] 129);obtain⟨d0,d1,d2,d3,d4⟩:=h1.cells5;have hn:(bc x.m !=0)=O:=by simpa using hc
 have HC:=I (js x.m);generalize bc x.m=kk at*
 go_enter func68,ntmps68;go_wp2_with(refine(HC.out _).mono ?_;rintro e w2 ⟨rfl,b2⟩)
 go_ret;exact⟨rfl,h1.right.below b2,x1.below b2⟩
theorem ug(q:Nat)(l:List Ln)(k:Ck)(x:Ln)(R:ab)(w:V)(hok:zF l)(hx:cW x.m.page)(hl:l.length≤1000)(hc:bc x.m=0)(h:N w (aQ q l k*R)):
  bd prog 68 #[.pointer (D (H q 0 C)),.agg #[o B x.m.page,o B x.m.size,o B x.m.frame,o B x.m.rights,J x.dirty]] w (cR (J O) (aQ q (Tl.room (Tl.drop l x.m)++[x]) k*R) w):=by
 have h1:=h.new #[o B x.m.page,o B x.m.size,o B x.m.frame,o B x.m.rights,J x.dirty] 129;have x1:=(ax w).alloc (.cells #[o B x.m.page,o B x.m.size,o B x.m.frame,o B x.m.rights,J x.dirty] 129);obtain⟨d0,d1,d2,d3,d4⟩:=h1.cells5;have HC:=I (js x.m);rw[hc] at HC;have HD:=I (fun A c R w h=>dropR q A c l k x.m R w hok hx hl h);have hle:(Tl.drop l x.m).length ≤l.length:=List.length_filter_le _ _;clear hc;generalize Tl.drop l x.m=l1 at*
 by_cases h6:l1.length=6
 ·have hr:Tl.room l1=l1.tail:=by unfold Tl.room;rw[if_pos h6]
  rw[hr];go_enter func68,ntmps68;go_wp2_with fail
  refine(HC.out _).mono ?_;rintro e w2 ⟨rfl,b2⟩;have h2:=h1.below b2;have x2:=x1.below b2;clear d0 d1 d2 d3 d4;obtain⟨d0,d1,d2,d3,d4⟩:=h2.cells5;obtain⟨A,c,h2⟩:=cP h2.p2;go_wp2_with fail
  refine(HD.out _ _ _ _ h2).mono ?_;rintro e w3 ⟨A3,c3,rfl,h3,x3⟩;have x3:=x2.trans x3;have hsm3:=(Has.rowOSmall (e:=129) (size:=5) h3.right).2;rw[h6] at hsm3;obtain⟨g,off,rfl⟩:∃g off,A3=D (H g off C):=by
   obtain⟨g,off,e,_⟩:=iI h3.right (k:=0) (by omega);exact⟨g,off,e⟩
  have c0:w3.cell? (H q 0 C)=D (.slice (D (H g off C)) l1.length c3):=Has.cell h3 0;rw[h6] at c0;have cp:=Has.lt h3;have cf:=Has.free h3 0;have ht:N w3 (gJ (.slice (D ⟨g,off+5,C⟩) l1.tail.length (c3 - 1)) l1.tail*(cC q (.slice (D (H g off C)) l1.length c3) k*(aa w.heap.size #[o B x.m.page,o B x.m.size,o B x.m.frame,o B x.m.rights,J x.dirty] 129*R))):=by
   have h4:=h3.p2;unfold gJ at h4;cases l1 with
   |nil=>simp at h6
   |cons y l1=>
    have h5:=Has.rowOTail h4;rw[if_neg (by omega)] at h5;exact h5
  have hl':l1.tail.length≤1000:=by simp[h6]
  have h5t:l1.tail.length=5:=by simp[h6]
  have ht2:=(Has.p2 ht).set 0 (.slice (D ⟨g,off+5,C⟩) l1.tail.length (c3 - 1));have h4:N (w3.setCell (H q 0 C) (.slice (D ⟨g,off+5,C⟩) 5 (c3 - 1))) (aN q (D ⟨g,off+5,C⟩) (c3 - 1) l1.tail k (aa w.heap.size #[o B x.m.page,o B x.m.size,o B x.m.frame,o B x.m.rights,J x.dirty] 129*R)):=by
   rw[h5t] at ht2;unfold aN;rw[h5t];rw[←h5t] at ht2⊢;exact ht2
  have x4:=x3.set (H q 0 C) (.slice (D ⟨g,off+5,C⟩) 5 (c3 - 1));generalize l1.tail=l2 at*
  have hc1:¬c3=1:=by omega
  clear d0 d1 d2 d3 d4 h1 h2 x1 x2 h HC HD ht ht2 h5t hle hr x3 h3 h6;go_wp2_with fail
  generalize w3.setCell (H q 0 C) (.slice (D ⟨g,off+5,C⟩) 5 (c3 - 1))=wz at*
  clear c0 cp cf;have hsm:=(Has.rowOSmall (e:=129) (size:=5) h4.right).1;have c0:=Has.cell h4 0;have cp:=Has.lt h4;have cf:=Has.free h4 0;obtain⟨d0,d1,d2,d3,d4⟩:=h4.right.right.cells5;have dl:=h4.right.right.lt;have hrow:=(Has.p2 h4.drew).alloc (.cells #[o B x.m.page,o B x.m.size,o B x.m.frame,o B x.m.rights,J x.dirty] 129);go_region_law (refine iW rfl (.tmp 31) (.tmp 33) 63 rfl underlying63 po _ _ _ (by simp[Act.eval]) hrow (H wz.heap.size 0 C) 1 1 x.cells (by simp[Act.eval]) rfl (eC wz.drew x.cells 129) (jO x) (by unfold maxLen;omega) (by omega) ?_;intro A' c' w5 h5 x5;have g0:=Has.lt h5.right;have g1:=Has.free h5.right 0;have g2:=Has.cell h5.right 0)
  all_goals
   go_wp2_with fail
   go_ret;exact⟨rfl,nK (Has.set h5.p2 0 _),((x4.drew.alloc _).trans x5).set _ _⟩
 ·have hr:Tl.room l1=l1:=by unfold Tl.room;rw[if_neg h6]
  rw[hr];have h6':((l1.length:Int)==6)=F:=beq_eq_false_iff_ne.2 (by omega);clear hr h6;go_enter func68,ntmps68;go_wp2_with fail
  refine(HC.out _).mono ?_;rintro e w2 ⟨rfl,b2⟩;have h2:=h1.below b2;have x2:=x1.below b2;clear d0 d1 d2 d3 d4;obtain⟨d0,d1,d2,d3,d4⟩:=h2.cells5;obtain⟨A,c,h2⟩:=cP h2.p2;go_wp2_with fail
  refine(HD.out _ _ _ _ h2).mono ?_;rintro e wz ⟨A,c,rfl,h4,x3⟩;have x4:=x2.trans x3;clear d0 d1 d2 d3 d4 h1 h2 x1 x2 h HC HD;have hl':l1.length≤1000:=by omega
  clear hle;have c0:wz.cell? (H q 0 C)=D (.slice A l1.length c):=Has.cell h4 0;have cp:=Has.lt h4;go_wp2_with fail
  have hsm:=(Has.rowOSmall (e:=129) (size:=5) h4.right).1;have c0:=Has.cell h4 0;have cp:=Has.lt h4;have cf:=Has.free h4 0;obtain⟨d0,d1,d2,d3,d4⟩:=h4.right.right.cells5;have dl:=h4.right.right.lt;have hrow:=(Has.p2 h4.drew).alloc (.cells #[o B x.m.page,o B x.m.size,o B x.m.frame,o B x.m.rights,J x.dirty] 129);go_region_law (refine iW rfl (.tmp 31) (.tmp 33) 63 rfl underlying63 po _ _ _ (by simp[Act.eval]) hrow (H wz.heap.size 0 C) 1 1 x.cells (by simp[Act.eval]) rfl (eC wz.drew x.cells 129) (jO x) (by unfold maxLen;omega) (by omega) ?_;intro A' c' w5 h5 x5;have g0:=Has.lt h5.right;have g1:=Has.free h5.right 0;have g2:=Has.cell h5.right 0)
  all_goals
   go_wp2_with fail
   go_ret;exact⟨rfl,nK (Has.set h5.p2 0 _),((x4.drew.alloc _).trans x5).set _ _⟩
theorem ze(q:Nat)(l:List Ln)(k:Ck)(x:Ln)(R:ab)(w:V)(hl:Tl.Ok l)(hx:cW x.m.page)(h:N w (aQ q l k*R)):
  bd prog 68 #[.pointer (D (H q 0 C)),.agg #[o B x.m.page,o B x.m.size,o B x.m.frame,o B x.m.rights,J x.dirty]] w (cR (J (decide (bc x.m=0))) (aQ q (Tl.put l x) k*R) w):=by
 unfold Tl.put;by_cases hc:bc x.m=0
 ·rw[if_pos hc,decide_eq_true hc]
  exact ug q l k x R w hl.lok hx (Nat.le_trans hl.len (by omega)) hc h
 ·rw[if_neg hc,decide_eq_false hc]
  exact wm q l k x R w hc h
theorem xZ(q:Nat)(l:List Ln)(k:Ck)(m:Mp)(R:ab)(w:V)(hl:Tl.Ok l)(hm:cW m.page)(h:N w (aQ q l k*R)):
  bd prog 126 #[.pointer (D (H q 0 C)),.agg #[o B m.page,o B m.size,o B m.frame,o B m.rights]] w (cR (o B ((l.length:Int) - (Tl.drop l m).length)) (aQ q (Tl.drop l m) k*R) w):=by
 obtain⟨A,c,h⟩:=cP h;exact(dropR q A c l k m R w hl.lok hm (Nat.le_trans hl.len (by omega)) h).mono fun _ _ ⟨_,_,a,b,c⟩=>⟨a,bx b,c⟩
theorem uh(q:Nat)(l:List Ln)(k:Ck)(p:Int)(R:ab)(w:V)(hl:Tl.Ok l)(hp:cW p)(h:N w (aQ q l k*R)):
  bd prog 117 #[.pointer (D (H q 0 C)),.int .i64 p] w (Pure (o B (Tl.idx l p)) w):=by
 obtain⟨A,c,h⟩:=cP h;exact zX q A c l k p R w hl.lok hp h
def bH(v:b7)(l:List Nat):ab:=ct 67 1 v l.length (l.map uX)
theorem sy{w:V}{R:ab}{A:Option b0}{n c:Nat}{l:List Nat}(h:N w (bH (.slice A n c) l*R)):n=l.length:=by
 rcases(Has.rowCases (e:=67) (size:=1) h) with ⟨hv,h0,_⟩|⟨g,cap,cur,hv,_⟩
 ·injection hv with a b
  omega
 ·injection hv
theorem jx{w:V}{R:ab}{A:Option b0}{n c:Nat}{l:List Nat}(h:N w (bH (.slice A n c) l*R)){k p:Nat}(hk:l[k]? =D p):
  ∃b,A=D (H b 0 C)∧b<w.heap.size∧w.cell? (H b k C)=D (.pointer (D (H p 0 C))):=by
 obtain rfl:=sy h;obtain⟨b,e,hb,hc,_⟩:=Has.rowGet (e:=67) (size:=1) h (i:=k) (u:=uX p) (by simp[hk]);exact⟨b,e,hb,hc⟩
theorem yb:jD prog 67 (.pointer C) 1 8:=⟨by kernel_rfl,rfl,by omega⟩
def aR:List Nat→List Cr→ab
 |p::ps,c::cs=>aQ p c.l c.k*aR ps cs
 |_,_=>eY True
theorem jU:∀{ps:List Nat} {cs:List Cr} {k p:Nat} {c:Cr},ps[k]? =D p→cs[k]? =D c→∃Q,aR ps cs=aQ p c.l c.k*Q∧∀c',aR ps (cs.set k c')=aQ p c'.l c'.k*Q
 | [],_,_,_,_,h,_=>by simp at h
 |_::_,[],_,_,_,_,h=>by simp at h
 |q::ps,d::cs,0,p,c,h1,h2=>by
  simp at h1 h2;subst h1;subst h2;exact⟨aR ps cs,rfl,fun c'=>rfl⟩
 |q::ps,d::cs,k+1,p,c,h1,h2=>by
  simp at h1 h2;obtain⟨Q,e1,e2⟩:=jU h1 h2;refine⟨aQ q d.l d.k*Q,?_,fun c'=> ?_⟩
  ·show aQ q d.l d.k*aR ps cs=_
   rw[e1];ac_rfl
  ·show aQ q d.l d.k*aR ps (cs.set k c')=_
   rw[e2];ac_rfl
theorem lI:∀(ps:List Nat) (cs:List Cr) (p:Nat) (c:Cr),ps.length=cs.length→aR (ps++[p]) (cs++[c])=aQ p c.l c.k*aR ps cs
 | [],[],p,c,_=>rfl
 | [],_::_,_,_,h=>by simp at h
 |_::_,[],_,_,h=>by simp at h
 |q::ps,d::cs,p,c,h=>by
  show aQ q d.l d.k*aR (ps++[p]) (cs++[c])=_;rw[lI ps cs p c (by simpa using h)];show _=aQ p c.l c.k*(aQ q d.l d.k*aR ps cs);ac_rfl
structure Rl where
 m:Nat
 A:Option b0
 c:Nat
 ps:List Nat
 G:Option b0
 d:Nat
 gw:Nat
def bJ(ws:Nat→Bool):Nat→b7:=fun j=>J (ws j)
def fC(b:Nat)(σ:Sc)(y:Rl)(R:ab):ab:=
 aa b #[.pointer (D (H y.m 0 C)),o B 0,.slice y.A y.ps.length y.c,J σ.busy,.slice y.G σ.gone.length y.d,o B σ.told.page,o B σ.told.size,o B σ.told.frame,o B σ.told.rights,.slice (D (H y.gw 0 C)) y.ps.length y.ps.length] 52*
  (bH (.slice y.A y.ps.length y.c) y.ps*(ao (.slice y.G σ.gone.length y.d) σ.gone*(aa y.gw (bo y.ps.length (bJ σ.wait)) 4*(aR y.ps σ.cs*(az y.m σ.s*R)))))
def cj(b:Nat)(σ:Sc):ab:=ex fun y=>eY (y.ps.length=σ.cs.length)*fC b σ y (eY True)
section
variable {w:V} {b:Nat} {σ:Sc} {R:ab}
theorem fu(h:N w (cj b σ*R)):∃y,y.ps.length=σ.cs.length∧N w (fC b σ y R):=by
 unfold cj at h;obtain⟨y,h⟩:=aF.1 h;rw[aX] at h;obtain⟨hy,h⟩:=dd.1 h;refine⟨y,hy,?_⟩;have h2:N w (eY True*fC b σ y R):=h.eq (by unfold fC;ac_rfl);exact h2.right
theorem il{y:Rl}(hy:y.ps.length=σ.cs.length)(h:N w (fC b σ y R)):N w (cj b σ*R):=by
 unfold cj;refine aF.2 ⟨y,?_⟩;rw[aX];refine dd.2 ⟨hy,?_⟩;have h2:N w (eY True*fC b σ y R):=dd.2 ⟨trivial,h⟩;exact h2.eq (by unfold fC;ac_rfl)
theorem Has.cells10{v0 v1 v2 v3 v4 v5 v6 v7 v8 v9:b7}{t:TypeId}(h:N w (aa b #[v0,v1,v2,v3,v4,v5,v6,v7,v8,v9] t*R)):
  w.cell? (H b 0 C)=D v0∧w.cell? (H b 1 C)=D v1∧w.cell? (H b 2 C)=D v2∧w.cell? (H b 3 C)=D v3∧w.cell? (H b 4 C)=D v4∧w.cell? (H b 5 C)=D v5∧
   w.cell? (H b 6 C)=D v6∧w.cell? (H b 7 C)=D v7∧w.cell? (H b 8 C)=D v8∧w.cell? (H b 9 C)=D v9:=
 ⟨h.cell 0,h.cell 1,h.cell 2,h.cell 3,h.cell 4,h.cell 5,h.cell 6,h.cell 7,h.cell 8,h.cell 9⟩
end
theorem qL{w:V}{q:Nat}{R:ab}(h:N w (aa q #[.slice C 0 0,J F,o B 0,o B 0,J F,o B 0,o B 0,J F,o vU 0] 66*R)):N w (aQ q [] Ck.zero*R):=by
 have h2:=Has.rowONil (e:=129) (size:=5) h;exact bx (A:=C) (c:=0) (h2.eq (by unfold aN cC gJ;show _=_;rw[ay];rfl))
theorem uj(q:Nat):∀u∈([.pointer (D (H q 0 C))]:List b7),u.oneCell'=O:=by
 intro u hu;simp at hu;subst hu;rfl
set_option maxHeartbeats 4000000 in
theorem Am(K n:Nat)(h1:1≤K)(h4:K≤4)(hn:1≤n)(hn2:n≤128)(R:ab)(w:V)(h:N w R):
  bd prog 15 #[o B K,o B n] w fun e w'=>∃b,cR (.pointer (D (H b 0 C))) (cj b (Sc.new K n)*R) w e w':=by
 have HM:=I (fun R w h=>AN R w (n:Int) h (by omega) (by omega));have hB:=fun w=>na K (by omega) w;have ht0:(af n).topV =0:=by
  have ht:(af n).top =D 0:=by
   show(if 0<n then D 0 else C)=D 0;rw[if_pos (by omega)]
  unfold Ms.topV;rw[ht];rfl
 have HTK:=I (fun m R w h=>xK m (af n) R w h (Ms.Ok.new hn2));rw[ht0] at HTK;rw[show((n:Int)).toNat =n from rfl] at HM;have hd:=h.drew;have xd:=(ax w).drew;have hn:=(h.new (bo K (tc (af K))) 4).drew;have xn:=((ax w).alloc (.cells (bo K (tc (af K))) 4)).drew;clear h ht0;go_enter func15,ntmps15;go_upto_region 1 with fail;go_cut [5] from 7 to 12 (fun s5 wx=>∃(b m gw:Nat),s5= .pointer (D (H b 0 C))∧N wx (az m (af n)*(aa b #[.pointer (D (H m 0 C)),o B 0,.slice C 0 0,J F,.slice C 0 0,o B 0,o B 0,o B 0,o B 0,.slice (D (H gw 0 C)) K K] 52*(aa gw (bo K (tc (af K))) 4*R)))∧bf w wx)
 case first=>
  go_region_law (go_simp;go_at_call 56;first
   |((with_reducible refine(HM.out _ _ hd).mono ?_);rintro e w8 ⟨m,rfl,h8,x8⟩;have hz:=h8.new (bo K (tc (af K))) 4;have xz:=(xd.trans x8).alloc (.cells (bo K (tc (af K))) 4))
   |((with_reducible refine(HM.out _ _ hn).mono ?_);rintro e w8 ⟨m,rfl,h8,x8⟩;have hz:=h8.p2;have xz:=xn.trans x8))
  all_goals
   go_wp2_with fail
   go_meet
   case rel=>first
    |exact⟨_,m,w8.heap.size,rfl,(hz.new #[.pointer (D (H m 0 C)),o B 0,.slice C 0 0,J F,.slice C 0 0,o B 0,o B 0,o B 0,o B 0,.slice (D (H w8.heap.size 0 C)) K K] 52).eq (by simp only[U];ac_rfl),xz.alloc _⟩
    |exact⟨_,m,w.heap.size,rfl,(hz.new #[.pointer (D (H m 0 C)),o B 0,.slice C 0 0,J F,.slice C 0 0,o B 0,o B 0,o B 0,o B 0,.slice (D (H w.heap.size 0 C)) K K] 52).eq (by ac_rfl),xz.alloc _⟩
 case rest=>
  obtain⟨b,m,gw,rfl,h2,x2⟩:=hcut;clear hd xd hn xn hB HM;obtain⟨c0,c1,-⟩:=h2.right.cells10;have cl:=h2.right.lt;go_wp2_with fail
  refine(HTK.out m _ _ h2).mono ?_;rintro e w3 ⟨rfl,h3,x3⟩;have f1:=h3.right.free 1;have g1:=h3.right.cell 1;have gl:=h3.right.lt;clear c0 c1 cl HTK;have h4:N _ (aa b #[.pointer (D (H m 0 C)),o B 0,.slice C 0 0,J F,.slice C 0 0,o B 0,o B 0,o B 0,o B 0,.slice (D (H gw 0 C)) K K] 52*(az m (af n).takeS *(aa gw (bo K (tc (af K))) 4*R))):=h3.p2.set 1 (o B 0);have h5:N _ (bH (.slice C 0 0) []*(aa b #[.pointer (D (H m 0 C)),o B 0,.slice C 0 0,J F,.slice C 0 0,o B 0,o B 0,o B 0,o B 0,.slice (D (H gw 0 C)) K K] 52*(aR [] (List.replicate 0 Cr.zero)*(az m (af n).takeS *(aa gw (bo K (tc (af K))) 4*R))))):=
   Has.rowNil ((dd.2 ⟨trivial,h4⟩).eq (show _=aa b #[.pointer (D (H m 0 C)),o B 0,.slice C 0 0,J F,.slice C 0 0,o B 0,o B 0,o B 0,o B 0,.slice (D (H gw 0 C)) K K] 52*(eY True*(az m (af n).takeS *(aa gw (bo K (tc (af K))) 4*R))) by ac_rfl))
  have x5:=(x2.trans x3).set (H b 1 C) (o B 0);clear h2 x2 h3 x3 h4;go_upto_region 3 with fail;generalize w3.setCell (H b 1 C) (o B 0)=w5 at*
  clear f1 g1 gl;go_wp2_with fail
  go_loopw [6] (fun t wz=>∃(j:Nat) (A:Option b0) (c:Nat) (ps:List Nat),j≤K∧t=o B j∧ps.length=j∧
    N wz (bH (.slice A j c) ps*(aa b #[.pointer (D (H m 0 C)),o B 0,.slice A j c,J F,.slice C 0 0,o B 0,o B 0,o B 0,o B 0,.slice (D (H gw 0 C)) K K] 52*(aR ps (List.replicate j Cr.zero)*(az m (af n).takeS *(aa gw (bo K (tc (af K))) 4*R)))))∧bf w wz)
   (fun t _=>K - (intOf t).toNat)
  case atStart=>exact⟨0,C,0,[],by omega,rfl,rfl,h5,x5⟩
  case round=>
   clear h5 x5;obtain⟨j,A,c,ps,hj,rfl,hps,hz,hx⟩:=hrel;subst hps;generalize hZ:(az m (af n).takeS *(aa gw (bo K (tc (af K))) 4*R))=Z at*
   by_cases hjn:ps.length<K
   ·have g2:=hz.right.cell 2
    have gl:=hz.right.lt;have h6:=hz.new #[.slice C 0 0,J F,o B 0,o B 0,J F,o B 0,o B 0,J F,o vU 0] 66;have h7:=h6.right.eq (rfl:_=bH (.slice A ps.length c) ps*(aa b #[.pointer (D (H m 0 C)),o B 0,.slice A ps.length c,J F,.slice C 0 0,o B 0,o B 0,o B 0,o B 0,.slice (D (H gw 0 C)) K K] 52*(aR ps (List.replicate ps.length Cr.zero)*Z)));have h8:N _ (bH (.slice A ps.length c) ps*(aa b #[.pointer (D (H m 0 C)),o B 0,.slice A ps.length c,J F,.slice C 0 0,o B 0,o B 0,o B 0,o B 0,.slice (D (H gw 0 C)) K K] 52*(aQ wr.heap.size [] Ck.zero*(aR ps (List.replicate ps.length Cr.zero)*Z)))):=(qL h6).eq (by ac_rfl);have x6:=hx.alloc (.cells #[.slice C 0 0,J F,o B 0,o B 0,J F,o B 0,o B 0,J F,o vU 0] 66);clear h6 h7;have hnw:=dU (wr.alloc (.cells #[.slice C 0 0,J F,o B 0,o B 0,J F,o B 0,o B 0,J F,o vU 0] 66)) (.pointer (D (H wr.heap.size 0 C))) 67;rw[U] at hnw;go_wp2_with(at_builtin;(refine aV rfl _ _ 49 rfl underlying49 yb _ _ _ rfl (h8.alloc _) ⟨wr.heap.size+1,0,C⟩ 1 1 [.pointer (D (H wr.heap.size 0 C))] rfl rfl hnw ?c1 ?c2 ?c3 ?_))
    case c1=>exact uj _
    case c2=>unfold maxLen;omega
    case c3=>omega
    intro v9 w9 h9 x9;obtain⟨A',c',rfl⟩:=Has.rowForm (e:=67) (size:=1) h9;have y2:=h9.right.cell 2;have yf:=h9.right.free 2;have yl:=h9.right.lt;have h10:N (w9.setCell (H b 2 C) (.slice A' (ps.length+1) c')) (bH (.slice A' (ps.length+1) c') (ps++[wr.heap.size])*(aa b #[.pointer (D (H m 0 C)),o B 0,.slice A' (ps.length+1) c',J F,.slice C 0 0,o B 0,o B 0,o B 0,o B 0,.slice (D (H gw 0 C)) K K] 52*(aR (ps++[wr.heap.size]) (List.replicate (ps.length+1) Cr.zero)*Z))):=by
     have h12:=(h9.p2.set 2 (.slice A' (ps.length+1) c'));have h14:=h12.p2;rw[List.replicate_succ',lI ps _ wr.heap.size Cr.zero (by simp)];unfold bH;rw[b4,List.map_append];exact h14.eq (by show _=ct 67 1 (.slice A' (ps.length+1) c') (ps.length+1) (ps.map uX++[.pointer (D (H wr.heap.size 0 C))])*(aa b #[.pointer (D (H m 0 C)),o B 0,.slice A' (ps.length+1) c',J F,.slice C 0 0,o B 0,o B 0,o B 0,o B 0,.slice (D (H gw 0 C)) K K] 52*((aQ wr.heap.size [] Ck.zero*_)*Z));ac_rfl)
    have x10:=((x6.alloc (.cells #[.pointer (D (H wr.heap.size 0 C))] 67)).trans x9).set (H b 2 C) (.slice A' (ps.length+1) c');clear h9 h8 hz g2 gl hx x9 x6;go_wp2_with fail
    go_roundw
    case rel=>exact⟨ps.length+1,A',c',ps++[wr.heap.size],by omega,by go_num,by simp,h10,x10⟩
    case measure=>simp[intOf];omega
   ·have hjc:ps.length=K:=by omega
    have hE:N wr (cj b (Sc.new K n)*R):=by
     refine il (y:=⟨m,A,c,ps,C,0,gw⟩) (by simpa [Sc.new] using hjc) ?_;unfold fC Sc.new;dsimp only;have k1:=(Has.rowNil (e:=3) (size:=1) hz).eq (show _=aa b #[.pointer (D (H m 0 C)),o B 0,.slice A ps.length c,J F,.slice C 0 0,o B 0,o B 0,o B 0,o B 0,.slice (D (H gw 0 C)) K K] 52*(bH (.slice A ps.length c) ps*(ao (.slice C 0 0) []*(aa gw (bo K (tc (af K))) 4*(aR ps (List.replicate ps.length Cr.zero)*(az m (af n).takeS *R))))) by rw[←hZ];show ct 3 1 (.slice C 0 0) 0 []*_=_;unfold ao;simp only[List.map_nil,List.length_nil];ac_rfl);rw[←hjc] at k1⊢;exact k1
    clear hjc hZ hz;go_wp2_with fail
    go_ret;exact⟨b,rfl,hE,hx⟩
theorem sB{w:V}{R:ab}{b:Nat}{v0 v1 v2 v3 v4 v5 v6 v7 v8 v9:b7}{t:TypeId}(h:N w (aa b #[v0,v1,v2,v3,v4,v5,v6,v7,v8,v9] t*R))(u3 u4 u5 u6 u7 u8:b7):
  N ((((((w.setCell (H b 3 C) u3).setCell (H b 5 C) u5).setCell (H b 6 C) u6).setCell (H b 7 C) u7).setCell (H b 8 C) u8).setCell (H b 4 C) u4) (aa b #[v0,v1,v2,u3,u4,u5,u6,u7,u8,v9] t*R)∧
  N ((((((w.setCell (H b 3 C) u3).setCell (H b 4 C) u4).setCell (H b 5 C) u5).setCell (H b 6 C) u6).setCell (H b 7 C) u7).setCell (H b 8 C) u8) (aa b #[v0,v1,v2,u3,u4,u5,u6,u7,u8,v9] t*R)∧
  N ((((((w.setCell (H b 5 C) u5).setCell (H b 6 C) u6).setCell (H b 7 C) u7).setCell (H b 8 C) u8).setCell (H b 3 C) u3).setCell (H b 4 C) u4) (aa b #[v0,v1,v2,u3,u4,u5,u6,u7,u8,v9] t*R)∧
  N ((((((w.setCell (H b 5 C) u5).setCell (H b 6 C) u6).setCell (H b 7 C) u7).setCell (H b 8 C) u8).setCell (H b 4 C) u4).setCell (H b 3 C) u3) (aa b #[v0,v1,v2,u3,u4,u5,u6,u7,u8,v9] t*R)∧
  N ((((((w.setCell (H b 4 C) u4).setCell (H b 3 C) u3).setCell (H b 5 C) u5).setCell (H b 6 C) u6).setCell (H b 7 C) u7).setCell (H b 8 C) u8) (aa b #[v0,v1,v2,u3,u4,u5,u6,u7,u8,v9] t*R)∧
  N ((((((w.setCell (H b 4 C) u4).setCell (H b 5 C) u5).setCell (H b 6 C) u6).setCell (H b 7 C) u7).setCell (H b 8 C) u8).setCell (H b 3 C) u3) (aa b #[v0,v1,v2,u3,u4,u5,u6,u7,u8,v9] t*R):=by
 have a10:N _ (aa b #[v0,v1,v2,u3,v4,v5,v6,v7,v8,v9] t*R):=h.set 3 u3;have a11:N _ (aa b #[v0,v1,v2,u3,v4,u5,v6,v7,v8,v9] t*R):=a10.set 5 u5;have a12:N _ (aa b #[v0,v1,v2,u3,v4,u5,u6,v7,v8,v9] t*R):=a11.set 6 u6;have a13:N _ (aa b #[v0,v1,v2,u3,v4,u5,u6,u7,v8,v9] t*R):=a12.set 7 u7;have a14:N _ (aa b #[v0,v1,v2,u3,v4,u5,u6,u7,u8,v9] t*R):=a13.set 8 u8;have a15:N _ (aa b #[v0,v1,v2,u3,u4,u5,u6,u7,u8,v9] t*R):=a14.set 4 u4;have a20:N _ (aa b #[v0,v1,v2,u3,v4,v5,v6,v7,v8,v9] t*R):=h.set 3 u3;have a21:N _ (aa b #[v0,v1,v2,u3,u4,v5,v6,v7,v8,v9] t*R):=a20.set 4 u4;have a22:N _ (aa b #[v0,v1,v2,u3,u4,u5,v6,v7,v8,v9] t*R):=a21.set 5 u5;have a23:N _ (aa b #[v0,v1,v2,u3,u4,u5,u6,v7,v8,v9] t*R):=a22.set 6 u6;have a24:N _ (aa b #[v0,v1,v2,u3,u4,u5,u6,u7,v8,v9] t*R):=a23.set 7 u7;have a25:N _ (aa b #[v0,v1,v2,u3,u4,u5,u6,u7,u8,v9] t*R):=a24.set 8 u8;have a30:N _ (aa b #[v0,v1,v2,v3,v4,u5,v6,v7,v8,v9] t*R):=h.set 5 u5;have a31:N _ (aa b #[v0,v1,v2,v3,v4,u5,u6,v7,v8,v9] t*R):=a30.set 6 u6;have a32:N _ (aa b #[v0,v1,v2,v3,v4,u5,u6,u7,v8,v9] t*R):=a31.set 7 u7;have a33:N _ (aa b #[v0,v1,v2,v3,v4,u5,u6,u7,u8,v9] t*R):=a32.set 8 u8;have a34:N _ (aa b #[v0,v1,v2,u3,v4,u5,u6,u7,u8,v9] t*R):=a33.set 3 u3;have a35:N _ (aa b #[v0,v1,v2,u3,u4,u5,u6,u7,u8,v9] t*R):=a34.set 4 u4;have a40:N _ (aa b #[v0,v1,v2,v3,v4,u5,v6,v7,v8,v9] t*R):=h.set 5 u5;have a41:N _ (aa b #[v0,v1,v2,v3,v4,u5,u6,v7,v8,v9] t*R):=a40.set 6 u6;have a42:N _ (aa b #[v0,v1,v2,v3,v4,u5,u6,u7,v8,v9] t*R):=a41.set 7 u7;have a43:N _ (aa b #[v0,v1,v2,v3,v4,u5,u6,u7,u8,v9] t*R):=a42.set 8 u8;have a44:N _ (aa b #[v0,v1,v2,v3,u4,u5,u6,u7,u8,v9] t*R):=a43.set 4 u4;have a45:N _ (aa b #[v0,v1,v2,u3,u4,u5,u6,u7,u8,v9] t*R):=a44.set 3 u3;have a50:N _ (aa b #[v0,v1,v2,v3,u4,v5,v6,v7,v8,v9] t*R):=h.set 4 u4;have a51:N _ (aa b #[v0,v1,v2,u3,u4,v5,v6,v7,v8,v9] t*R):=a50.set 3 u3;have a52:N _ (aa b #[v0,v1,v2,u3,u4,u5,v6,v7,v8,v9] t*R):=a51.set 5 u5;have a53:N _ (aa b #[v0,v1,v2,u3,u4,u5,u6,v7,v8,v9] t*R):=a52.set 6 u6;have a54:N _ (aa b #[v0,v1,v2,u3,u4,u5,u6,u7,v8,v9] t*R):=a53.set 7 u7;have a55:N _ (aa b #[v0,v1,v2,u3,u4,u5,u6,u7,u8,v9] t*R):=a54.set 8 u8;have a60:N _ (aa b #[v0,v1,v2,v3,u4,v5,v6,v7,v8,v9] t*R):=h.set 4 u4;have a61:N _ (aa b #[v0,v1,v2,v3,u4,u5,v6,v7,v8,v9] t*R):=a60.set 5 u5;have a62:N _ (aa b #[v0,v1,v2,v3,u4,u5,u6,v7,v8,v9] t*R):=a61.set 6 u6;have a63:N _ (aa b #[v0,v1,v2,v3,u4,u5,u6,u7,v8,v9] t*R):=a62.set 7 u7;have a64:N _ (aa b #[v0,v1,v2,v3,u4,u5,u6,u7,u8,v9] t*R):=a63.set 8 u8;have a65:N _ (aa b #[v0,v1,v2,u3,u4,u5,u6,u7,u8,v9] t*R):=a64.set 3 u3;exact⟨a15,a25,a35,a45,a55,a65⟩
def wn(ws:Nat→Bool)(k:Nat):Nat→Bool:=fun i=>decide (i<k)||ws i
set_option maxHeartbeats 4000000 in
theorem zg(b:Nat)(σ:Sc)(m:Mp)(g:List Int)(G:Option b0)(gn gd:Nat)(hfew:σ.cs.length≤4)(R:ab)(w:V)(h:N w (cj b σ*(ao (.slice G gn gd) g*R))):
  bd prog 116 #[.pointer (D (H b 0 C)),.agg #[o B m.page,o B m.size,o B m.frame,o B m.rights],.slice G gn gd] w (cR (.tuple #[]) (cj b (σ.post σ.s m g)*R) w):=by
 obtain⟨y,hy,h⟩:=fu h;obtain⟨ym,yA,yc,yps,yG,yd,ygw⟩:=y;obtain⟨s,cs,td,wt,bz,gn0⟩:=σ;unfold fC at h;dsimp only at*
 obtain rfl:=cT (h.eq (show _=ao (.slice G gn gd) g*(aa b #[.pointer (D (H ym 0 C)),o B 0,.slice yA yps.length yc,J bz,.slice yG gn0.length yd,o B td.page,o B td.size,o B td.frame,o B td.rights,.slice (D (H ygw 0 C)) yps.length yps.length] 52*(bH (.slice yA yps.length yc) yps*(ao (.slice yG gn0.length yd) gn0*(aa ygw (bo yps.length (bJ wt)) 4*(aR yps cs*(az ym s*R)))))) by ac_rfl));have h0:N _ (aa b #[.pointer (D (H ym 0 C)),o B 0,.slice yA yps.length yc,J bz,.slice yG gn0.length yd,o B td.page,o B td.size,o B td.frame,o B td.rights,.slice (D (H ygw 0 C)) yps.length yps.length] 52*(aa ygw (bo yps.length (bJ wt)) 4*(aa w.heap.size #[o B m.page,o B m.size,o B m.frame,o B m.rights] 39*(bH (.slice yA yps.length yc) yps*(aR yps cs*(az ym s*(ao (.slice G g.length gd) g*R))))))):=
  ((h.new #[o B m.page,o B m.size,o B m.frame,o B m.rights] 39).eq (show _=ao (.slice yG gn0.length yd) gn0*(aa b #[.pointer (D (H ym 0 C)),o B 0,.slice yA yps.length yc,J bz,.slice yG gn0.length yd,o B td.page,o B td.size,o B td.frame,o B td.rights,.slice (D (H ygw 0 C)) yps.length yps.length] 52*(aa ygw (bo yps.length (bJ wt)) 4*(aa w.heap.size #[o B m.page,o B m.size,o B m.frame,o B m.rights] 39*(bH (.slice yA yps.length yc) yps*(aR yps cs*(az ym s*(ao (.slice G g.length gd) g*R))))))) by ac_rfl)).right
 have x0:=(ax w).alloc (.cells #[o B m.page,o B m.size,o B m.frame,o B m.rights] 39);have HS:=I (fun(w':V) (h:N w' (aa ygw (bo yps.length (bJ (wn wt yps.length))) 4*(aa b #[.pointer (D (H ym 0 C)),o B 0,.slice yA yps.length yc,J O,.slice G g.length gd,o B m.page,o B m.size,o B m.frame,o B m.rights,.slice (D (H ygw 0 C)) yps.length yps.length] 52*(aa w.heap.size #[o B m.page,o B m.size,o B m.frame,o B m.rights] 39*(bH (.slice yA yps.length yc) yps*(aR yps cs*(az ym s*(ao (.slice G g.length gd) g*R))))))))=>show N w' (cj b (Sc.post ⟨s,cs,td,wt,bz,gn0⟩ s m g)*R) from by
  have h1:=h.tabExt (f':=bJ (fg cs.length)) (fun j hj=>by unfold bJ wn fg;rw[←hy,decide_eq_true hj];rfl);have h2:N w' (aa w.heap.size #[o B m.page,o B m.size,o B m.frame,o B m.rights] 39*(aa b #[.pointer (D (H ym 0 C)),o B 0,.slice yA yps.length yc,J O,.slice G g.length gd,o B m.page,o B m.size,o B m.frame,o B m.rights,.slice (D (H ygw 0 C)) yps.length yps.length] 52*(bH (.slice yA yps.length yc) yps*(ao (.slice G g.length gd) g*(aa ygw (bo yps.length (bJ (fg cs.length))) 4*(aR yps cs*(az ym s*R))))))):=h1.eq (by ac_rfl);exact il (y:=⟨ym,yA,yc,yps,G,gd,ygw⟩) hy h2.right)
 have hK:yps.length≤4:=by omega
 clear h hy hfew;obtain⟨c0,c1,c2,c3,c4,c5,c6,c7,c8,c9⟩:=h0.cells10;have f3:=h0.free 3;have f4:=h0.free 4;have f5:=h0.free 5;have f6:=h0.free 6;have f7:=h0.free 7;have f8:=h0.free 8;have cl:=h0.lt;obtain⟨m0,m1,m2,m3⟩:=h0.right.right.cells4;have ml:=h0.right.right.lt;go_enter func116,ntmps116;go_upto_region 1 with fail;have hne:b≠w.heap.size:=Has.ne (h0.eq (show _=aa b #[.pointer (D (H ym 0 C)),o B 0,.slice yA yps.length yc,J bz,.slice yG gn0.length yd,o B td.page,o B td.size,o B td.frame,o B td.rights,.slice (D (H ygw 0 C)) yps.length yps.length] 52*(aa w.heap.size #[o B m.page,o B m.size,o B m.frame,o B m.rights] 39*(aa ygw (bo yps.length (bJ wt)) 4*(bH (.slice yA yps.length yc) yps*(aR yps cs*(az ym s*(ao (.slice G g.length gd) g*R)))))) by ac_rfl));have hne2:=hne.symm;generalize w.alloc _=w1 at*
 generalize w.heap.size=X at*
 go_cut [] from 7 to 17 (fun wx=>N wx (aa b #[.pointer (D (H ym 0 C)),o B 0,.slice yA yps.length yc,J O,.slice G g.length gd,o B m.page,o B m.size,o B m.frame,o B m.rights,.slice (D (H ygw 0 C)) yps.length yps.length] 52*(aa ygw (bo yps.length (bJ wt)) 4*(aa X #[o B m.page,o B m.size,o B m.frame,o B m.rights] 39*(bH (.slice yA yps.length yc) yps*(aR yps cs*(az ym s*(ao (.slice G g.length gd) g*R)))))))∧bf w wx)
 case first=>
  clear HS;obtain⟨k1,k2,k3,k4,k5,k6⟩:=sB h0 (J O) (.slice G g.length gd) (o B m.page) (o B m.size) (o B m.frame) (o B m.rights);go_region
  all_goals
   go_wp2_with fail
   go_meet
   case rel=>exact⟨by first|(with_reducible exact k1.drew)|(with_reducible exact k2.drew)|(with_reducible exact k3.drew)|(with_reducible exact k4.drew)|(with_reducible exact k5.drew)|(with_reducible exact k6.drew),ah⟩
 case rest=>
  obtain⟨h1,x1⟩:=hcut;clear h0 x0 c0 c1 c2 c3 c4 c5 c6 c7 c8 c9 f3 f4 f5 f6 f7 f8 cl m0 m1 m2 m3 ml hne hne2;have h2:N _ (aa ygw (bo yps.length (bJ (wn wt 0))) 4*(aa b #[.pointer (D (H ym 0 C)),o B 0,.slice yA yps.length yc,J O,.slice G g.length gd,o B m.page,o B m.size,o B m.frame,o B m.rights,.slice (D (H ygw 0 C)) yps.length yps.length] 52*(aa X #[o B m.page,o B m.size,o B m.frame,o B m.rights] 39*(bH (.slice yA yps.length yc) yps*(aR yps cs*(az ym s*(ao (.slice G g.length gd) g*R))))))):=(h1.p2).tabExt (f':=bJ (wn wt 0)) (fun j _=>by unfold bJ wn;simp);go_wp2_with fail
  go_loopw [6] (fun t wz=>∃k:Nat,k≤yps.length∧t=o B k∧N wz (aa ygw (bo yps.length (bJ (wn wt k))) 4*(aa b #[.pointer (D (H ym 0 C)),o B 0,.slice yA yps.length yc,J O,.slice G g.length gd,o B m.page,o B m.size,o B m.frame,o B m.rights,.slice (D (H ygw 0 C)) yps.length yps.length] 52*(aa X #[o B m.page,o B m.size,o B m.frame,o B m.rights] 39*(bH (.slice yA yps.length yc) yps*(aR yps cs*(az ym s*(ao (.slice G g.length gd) g*R)))))))∧bf w wz) (fun t _=>yps.length - (intOf t).toNat)
  case atStart=>exact⟨0,by omega,rfl,h2,x1⟩
  case round=>
   clear h1 h2 x1;obtain⟨k,hk,rfl,hz,hxz⟩:=hrel;have c9:=hz.right.cell 9;have cl:=hz.right.lt;by_cases hkl:k<yps.length
   ·have q0:=hz.tabGet hkl
    have q1:=hz.free k;have ql:=hz.lt;have h3:N _ (aa ygw (bo yps.length (bJ (wn wt (k+1)))) 4*(aa b #[.pointer (D (H ym 0 C)),o B 0,.slice yA yps.length yc,J O,.slice G g.length gd,o B m.page,o B m.size,o B m.frame,o B m.rights,.slice (D (H ygw 0 C)) yps.length yps.length] 52*(aa X #[o B m.page,o B m.size,o B m.frame,o B m.rights] 39*(bH (.slice yA yps.length yc) yps*(aR yps cs*(az ym s*(ao (.slice G g.length gd) g*R))))))):=(hz.tabSet k (J O)).tabExt (f':=bJ (wn wt (k+1))) (fun j _=>by
     unfold bJ wn bT;by_cases e:j=k
     ·rw[if_pos e,e,decide_eq_true (by omega)];rfl
     ·rw[if_neg e]
      show J (decide (j<k)||wt j)=J (decide (j<k+1)||wt j);by_cases e2:j<k
      ·rw[decide_eq_true e2,decide_eq_true (by omega)]
      ·rw[decide_eq_false e2,decide_eq_false (by omega)])
    have x3:=hxz.set (H ygw k C) (J O);clear hz hxz;go_wp2_with fail
    go_roundw
    case rel=>exact⟨k+1,by omega,by go_num,h3,x3⟩
    case measure=>simp[intOf];omega
   ·obtain rfl:k=yps.length:=by omega
    go_wp2_with fail
    exact S (v:= .tuple #[]) (by simp[results,results116]) rfl ⟨rfl,HS.out _ hz,hxz⟩
set_option maxHeartbeats 2000000 in
theorem je(e:En)(l:Int)(w:V):bd prog 124 #[.agg #[J e.there,J e.leaf,o B e.rights,J e.used,J e.dirty,o B e.frame],.int .i64 l] w (Pure (.tuple #[o vU (bq e l),o B (aj e l)]) w):=by
 obtain⟨th,leaf,r,u,d,f⟩:=e;have h1:=Has.new (aT w) #[J th,J leaf,o B r,J u,J d,o B f] 70;have x1:=(ax w).alloc (.cells #[J th,J leaf,o B r,J u,J d,o B f] 70);have HC:=I (fun W=>fV ⟨th,leaf,r,u,d,f⟩ l W);by_cases hc:aj ⟨th,leaf,r,u,d,f⟩ l=0
 ·rw[hc] at HC⊢
  cases th with
  |false=>
   have hy:=I (show bq ⟨F,leaf,r,u,d,f⟩ l=0 by unfold bq;rw[if_neg (by simp)]);clear hc;go_enter func124,ntmps124;go_wp2_with fail
   refine(HC.out _).mono ?_;rintro e w2 ⟨rfl,bl⟩;have h2:=h1.below bl;obtain⟨c0,c1,c2,c3,c4,c5⟩:=h2.cells6;go_wp2;go_ret2
   exact⟨by rw[hy.out];rfl,ar h2.right (x1.below bl)⟩
  |true=>
   have hk:=dF hc rfl;have hy:=I (show bq ⟨O,leaf,r,u,d,f⟩ l=fI ⟨O,leaf,r,u,d,f⟩ l by unfold bq;rw[if_pos ⟨hc,rfl⟩]);have r0:0≤r:=hk.r0;have r7:r≤7:=hk.r7;have f0:0≤f:=hk.f0;have f1:f<1048576:=hk.f1;have l0:=hk.l0;have l4:=hk.l4;clear hc hk;by_cases lz:l=0
   ·subst lz
    cases leaf<;>cases u<;>cases d
    all_goals
     go_enter func124,ntmps124;go_wp2_with fail
     refine(HC.out _).mono ?_;rintro e w2 ⟨rfl,bl⟩;have h2:=h1.below bl;obtain⟨c0,c1,c2,c3,c4,c5⟩:=h2.cells6;have b2:=ar h2.right (x1.below bl);clear h1 x1 h2 bl HC;go_wp2;go_ret2
     refine⟨?_,b2⟩;rw[hy.out];show bs (.tuple #[o vU _,o B 0])=_;refine congrArg (fun n:Int=>bs (.tuple #[o vU n,o B 0])) ?_;unfold fI;simp[iS];try omega
   ·have hz:(l !=0)=O:=by simpa using lz
    have hz':=I hz;clear lz;cases leaf<;>cases u<;>cases d
    all_goals
     go_enter func124,ntmps124;go_wp2_with fail
     refine(HC.out _).mono ?_;rintro e w2 ⟨rfl,bl⟩;have h2:=h1.below bl;obtain⟨c0,c1,c2,c3,c4,c5⟩:=h2.cells6;have b2:=ar h2.right (x1.below bl);clear h1 x1 h2 bl HC;go_wp2;go_ret2
     refine⟨?_,b2⟩;rw[hy.out];show bs (.tuple #[o vU _,o B 0])=_;refine congrArg (fun n:Int=>bs (.tuple #[o vU n,o B 0])) ?_;unfold fI;simp[iS,hz'.out];try omega
 ·have hy:=I (show bq ⟨th,leaf,r,u,d,f⟩ l=0 from mF hc)
  have hn:(aj ⟨th,leaf,r,u,d,f⟩ l !=0)=O:=by simpa using hc
  clear hc;generalize aj ⟨th,leaf,r,u,d,f⟩ l=c at*
  go_enter func124,ntmps124;go_wp2_with fail
  refine(HC.out _).mono ?_;rintro e w2 ⟨rfl,bl⟩;have h2:=h1.below bl;go_wp2;go_ret2
  exact⟨by rw[hy.out];rfl,ar h2.right (x1.below bl)⟩
theorem kR{s:Ms}{r:Int}{x:Mp}(h:cU s r x≠0):dR s r x=s:=by unfold dR;rw[if_neg h]
set_option maxHeartbeats 8000000 in
theorem Ao(q:Nat)(s:Ms)(root:Int)(x:Mp)(R:ab)(w:V)(hs:s.Ok)(h:N w (az q s*R)):
  bd prog 113 #[.pointer (D (H q 0 C)),o B root,.agg #[o B x.page,o B x.size,o B x.frame,o B x.rights]] w (cR (o B (cU s root x)) (az q (dR s root x)*R) w):=by
 have h0:=h.new #[o B x.page,o B x.size,o B x.frame,o B x.rights] 39;have x0:=(ax w).alloc (.cells #[o B x.page,o B x.size,o B x.frame,o B x.rights] 39);have HC:=I (js x);by_cases hck:bc x=0
 case neg=>
  have hic:cU s root x=bc x:=by unfold cU;rw[if_pos hck]
  have HI:=I (And.intro hic (kR (s:=s) (r:=root) (x:=x) (by rw[hic];exact hck)));have hn:(bc x !=0)=O:=by simpa using hck
  rw[HI.out.1,HI.out.2];generalize bc x=cx at*
  clear hck h hic;obtain⟨c0,c1,c2,c3⟩:=h0.cells4;go_enter func113,ntmps113;go_wp2_with fail
  refine(HC.out _).mono ?_;rintro e w2 ⟨rfl,b2⟩;go_wp2_with fail
  go_ret;exact⟨rfl,h0.right.below b2,x0.below b2⟩
 obtain⟨hp,z,hz0,hz2⟩:=nA hck;have HZ:=I hz0;clear hz0;have W1:=I (fun w' (h:N w' (az q s*(aa w.heap.size #[o B x.page,o B x.size,o B x.frame,o B x.rights] 39*R)))=>j9 q s root x.page _ w' hs h);rw[hck] at HC;by_cases hcode:(bi s root x.page).code =0
 case neg=>
  have hic:cU s root x=(bi s root x.page).code :=by unfold cU;rw[if_neg (by rw[hck];simp),if_pos hcode]
  have HI:=I (And.intro hic (kR (s:=s) (r:=root) (x:=x) (by rw[hic];exact hcode)));rw[HI.out.1,HI.out.2];clear hic hck h;generalize bi s root x.page=y at*
  obtain⟨code,tabs,bk,th,lf,rg,us,di,fr⟩:=y;dsimp only at*
  have hn:(code !=0)=O:=by simpa using hcode
  clear hcode;obtain⟨c0,c1,c2,c3⟩:=h0.cells4;have cl:=h0.lt;go_enter func113,ntmps113;go_wp2_with fail
  refine(HC.out _).mono ?_;rintro e w2 ⟨rfl,b2⟩;have h2:=h0.below b2;have x2:=x0.below b2;clear h0 x0 b2 c0 c1 c2 c3 cl;obtain⟨c0,c1,c2,c3⟩:=h2.cells4;have cl:=h2.lt;go_wp2_with fail
  refine(W1.out _ h2.p2).mono ?_;rintro e w3 hF;obtain⟨A,c,rfl,h3,x3⟩:∃(A:Option b0) (c:Nat),e= .returned (.tuple #[.agg #[.slice A tabs.length c,J th,J lf,o B rg,J us,J di,o B fr,o B bk],o B code])∧N w3 (ao (.slice A tabs.length c) tabs*bE w2 w2.heap.size)∧bf w2 w3:=hF;have h5:N _ (aa w3.heap.size #[.slice A tabs.length c,J th,J lf,o B rg,J us,J di,o B fr,o B bk] 146*(ao (.slice A tabs.length c) tabs*(aa w.heap.size #[o B x.page,o B x.size,o B x.frame,o B x.rights] 39*(az q s*R)))):=(h2.onto' h3).new #[.slice A tabs.length c,J th,J lf,o B rg,J us,J di,o B fr,o B bk] 146;have x5:=(x2.trans x3).alloc (.cells #[.slice A tabs.length c,J th,J lf,o B rg,J us,J di,o B fr,o B bk] 146);clear h2 x2 h3 x3 c0 c1 c2 c3 cl W1 HC;go_upto_region 5 with fail;generalize w3.alloc _=w5 at*
  generalize w3.heap.size=X1 at*
  generalize w.heap.size=X0 at*
  obtain⟨c0,c1,c2,c3⟩:=h5.right.right.cells4;have cl:=h5.right.right.lt;obtain⟨k0,k1,k2,k3,k4,k5,k6,k7⟩:=h5.cells8;have kl:=h5.lt;go_wp2_with fail
  go_ret;exact⟨rfl,h5.r3,x5⟩
 by_cases hbad:(bi s root x.page).e.there =O∨(bi s root x.page).lev <x.size
 case pos=>
  have hic:cU s root x=4:=by unfold cU;rw[if_neg (by rw[hck];simp),if_neg (by rw[hcode];simp),if_pos hbad]
  have HI:=I (And.intro hic (kR (s:=s) (r:=root) (x:=x) (by rw[hic];decide)));rw[HI.out.1,HI.out.2];clear hic hck h;generalize bi s root x.page=y at*
  obtain⟨code,tabs,bk,th,lf,rg,us,di,fr⟩:=y;dsimp only at*
  subst hcode;cases th with
  |true=>
   clear hbad;obtain⟨c0,c1,c2,c3⟩:=h0.cells4;have cl:=h0.lt;go_enter func113,ntmps113;go_wp2_with fail
   refine(HC.out _).mono ?_;rintro e w2 ⟨rfl,b2⟩;have h2:=h0.below b2;have x2:=x0.below b2;clear h0 x0 b2 c0 c1 c2 c3 cl;obtain⟨c0,c1,c2,c3⟩:=h2.cells4;have cl:=h2.lt;go_wp2_with fail
   refine(W1.out _ h2.p2).mono ?_;rintro e w3 hF;obtain⟨A,c,rfl,h3,x3⟩:∃(A:Option b0) (c:Nat),e= .returned (.tuple #[.agg #[.slice A tabs.length c,J O,J lf,o B rg,J us,J di,o B fr,o B bk],o B 0])∧N w3 (ao (.slice A tabs.length c) tabs*bE w2 w2.heap.size)∧bf w2 w3:=hF;have h5:N _ (aa w3.heap.size #[.slice A tabs.length c,J O,J lf,o B rg,J us,J di,o B fr,o B bk] 146*(ao (.slice A tabs.length c) tabs*(aa w.heap.size #[o B x.page,o B x.size,o B x.frame,o B x.rights] 39*(az q s*R)))):=(h2.onto' h3).new #[.slice A tabs.length c,J O,J lf,o B rg,J us,J di,o B fr,o B bk] 146;have x5:=(x2.trans x3).alloc (.cells #[.slice A tabs.length c,J O,J lf,o B rg,J us,J di,o B fr,o B bk] 146);clear h2 x2 h3 x3 c0 c1 c2 c3 cl W1 HC;go_upto_region 5 with fail;generalize w3.alloc _=w5 at*
   generalize w3.heap.size=X1 at*
   generalize w.heap.size=X0 at*
   obtain⟨c0,c1,c2,c3⟩:=h5.right.right.cells4;have cl:=h5.right.right.lt;obtain⟨k0,k1,k2,k3,k4,k5,k6,k7⟩:=h5.cells8;have kl:=h5.lt;go_wp2_with fail
   go_ret;exact⟨rfl,h5.r3,x5⟩
  |false=>
   have hlt:bk<x.size:=by rcases hbad with h|h;· cases h
                          ·exact h
   clear hbad;obtain⟨c0,c1,c2,c3⟩:=h0.cells4;have cl:=h0.lt;go_enter func113,ntmps113;go_wp2_with fail
   refine(HC.out _).mono ?_;rintro e w2 ⟨rfl,b2⟩;have h2:=h0.below b2;have x2:=x0.below b2;clear h0 x0 b2 c0 c1 c2 c3 cl;obtain⟨c0,c1,c2,c3⟩:=h2.cells4;have cl:=h2.lt;go_wp2_with fail
   refine(W1.out _ h2.p2).mono ?_;rintro e w3 hF;obtain⟨A,c,rfl,h3,x3⟩:∃(A:Option b0) (c:Nat),e= .returned (.tuple #[.agg #[.slice A tabs.length c,J F,J lf,o B rg,J us,J di,o B fr,o B bk],o B 0])∧N w3 (ao (.slice A tabs.length c) tabs*bE w2 w2.heap.size)∧bf w2 w3:=hF;have h5:N _ (aa w3.heap.size #[.slice A tabs.length c,J F,J lf,o B rg,J us,J di,o B fr,o B bk] 146*(ao (.slice A tabs.length c) tabs*(aa w.heap.size #[o B x.page,o B x.size,o B x.frame,o B x.rights] 39*(az q s*R)))):=(h2.onto' h3).new #[.slice A tabs.length c,J F,J lf,o B rg,J us,J di,o B fr,o B bk] 146;have x5:=(x2.trans x3).alloc (.cells #[.slice A tabs.length c,J F,J lf,o B rg,J us,J di,o B fr,o B bk] 146);clear h2 x2 h3 x3 c0 c1 c2 c3 cl W1 HC;go_upto_region 5 with fail;generalize w3.alloc _=w5 at*
   generalize w3.heap.size=X1 at*
   generalize w.heap.size=X0 at*
   obtain⟨c0,c1,c2,c3⟩:=h5.right.right.cells4;have cl:=h5.right.right.lt;obtain⟨k0,k1,k2,k3,k4,k5,k6,k7⟩:=h5.cells8;have kl:=h5.lt;go_wp2_with fail
   go_ret;exact⟨rfl,h5.r3,x5⟩
 obtain⟨_,n,hn,hn3,hl,hu⟩:=fb hcode
 have hth:(bi s root x.page).e.there =F:=by cases h:(bi s root x.page).e.there;· rfl
                                            ·exact absurd (.inl h) hbad
 obtain⟨m,hm⟩:∃m:Nat,n+m+z=3:=⟨3 - n - z,by have:=HZ.out;have hls:¬((bi s root x.page).lev <x.size):=fun h=>hbad (.inr h);omega⟩;have hmm:(bi s root x.page).lev - x.size=(m:Int):=by have:=HZ.out;omega
 have HFR:=I (fun R w h=>zR (q:=q) (s:=s) (R:=R) (w:=w) h hs);have hmw:IntKind.i64.wrap (m:Int)=(m:Int):=by rw[bb];omega
 by_cases hfull:s.frees.length<m
 case pos=>
  have hic:cU s root x=6:=by
   unfold cU;rw[if_neg (by rw[hck];simp),if_neg (by rw[hcode];simp),if_neg hbad,if_pos (by have:=HZ.out;omega)]
  have HI:=I (And.intro hic (kR (s:=s) (r:=root) (x:=x) (by rw[hic];decide)));rw[HI.out.1,HI.out.2];clear hic hck h hu hn hl;generalize bi s root x.page=y at*
  obtain⟨code,tabs,bk,th,lf,rg,us,di,fr⟩:=y;dsimp only at*
  subst hcode hth;clear hbad;obtain⟨c0,c1,c2,c3⟩:=h0.cells4;have cl:=h0.lt;go_enter func113,ntmps113;go_wp2_with fail
  refine(HC.out _).mono ?_;rintro e w2 ⟨rfl,b2⟩;have h2:=h0.below b2;have x2:=x0.below b2;clear h0 x0 b2 c0 c1 c2 c3 cl;obtain⟨c0,c1,c2,c3⟩:=h2.cells4;have cl:=h2.lt;go_wp2_with fail
  refine(W1.out _ h2.p2).mono ?_;rintro e w3 hF;obtain⟨A,c,rfl,h3,x3⟩:∃(A:Option b0) (c:Nat),e= .returned (.tuple #[.agg #[.slice A tabs.length c,J F,J lf,o B rg,J us,J di,o B fr,o B bk],o B 0])∧N w3 (ao (.slice A tabs.length c) tabs*bE w2 w2.heap.size)∧bf w2 w3:=hF;have h5:N _ (aa w3.heap.size #[.slice A tabs.length c,J F,J lf,o B rg,J us,J di,o B fr,o B bk] 146*(ao (.slice A tabs.length c) tabs*(aa w.heap.size #[o B x.page,o B x.size,o B x.frame,o B x.rights] 39*(az q s*R)))):=(h2.onto' h3).new #[.slice A tabs.length c,J F,J lf,o B rg,J us,J di,o B fr,o B bk] 146;have x5:=(x2.trans x3).alloc (.cells #[.slice A tabs.length c,J F,J lf,o B rg,J us,J di,o B fr,o B bk] 146);clear h2 x2 h3 x3 c0 c1 c2 c3 cl W1 HC;go_upto_region 5 with fail;generalize w3.alloc _=w5 at*
  generalize w3.heap.size=X1 at*
  generalize w.heap.size=X0 at*
  obtain⟨c0,c1,c2,c3⟩:=h5.right.right.cells4;have cl:=h5.right.right.lt;obtain⟨k0,k1,k2,k3,k4,k5,k6,k7⟩:=h5.cells8;have kl:=h5.lt;have hmw2:IntKind.i64.wrap (bk - x.size)=(m:Int):=by rw[hmm];exact hmw
  have hfi:(s.frees.length:Int)< (m:Int):=by omega
  go_upto_region 9 with fail;have v1:=ae c1;have v7:=ae k7;have HFW:=I (fun u=>HFR.out _ _ ((h5.via u).eq (show _=az q s*(aa X1 #[.slice A tabs.length c,J F,J lf,o B rg,J us,J di,o B fr,o B bk] 146*(ao (.slice A tabs.length c) tabs*(aa X0 #[o B x.page,o B x.size,o B x.frame,o B x.rights] 39*R))) by ac_rfl)));refine au (by kernel_rfl) (by kernel_rfl) ?_;repeat(first|go_big_quiet_step ((go_at_call 26;exact Pure.via (HFW.out _)))|quiet_step ((go_at_call 26;exact Pure.via (HFW.out _))))
  refine wpQuiet_nil ?_;intro _ hw';obtain⟨uq,hw''⟩:=hw';subst hw'';have h6:=h5.via uq;have x6:=x5.below (aE _ uq);generalize gU w5 uq=w6 at*
  go_wp2_with fail
  go_ret;exact⟨rfl,h6.r3,x6⟩
 have hic:cU s root x=0:=by
  unfold cU;rw[if_neg (by rw[hck];simp),if_neg (by rw[hcode];simp),if_neg hbad,if_neg (by have:=HZ.out;omega)]
 obtain⟨t,ht⟩:∃t,(bi s root x.page).tabs[n]? =D t:=⟨_,ag (by omega)⟩;have hht:s.has t=O:=hu t (by obtain⟨hl,e⟩:=T.1 ht;exact e▸List.getElem_mem hl);have hins:dR s root x=dH s x.page (bq (dq x) x.size) z m t:=by
  unfold dR;rw[if_pos hic,jW hn ht];have e1:((bi s root x.page).lev - x.size).toNat =m:=by omega
  have e2:x.size.toNat=z:=by have:=HZ.out;omega
  rw[e1,e2]
 have HIC:=I hic;have HINS:=I hins;rw[HIC.out];obtain⟨ht0,htn,_⟩:=b3.1 hht;obtain⟨tn,rfl⟩:=ad ht0;generalize dR s root x=sF at*
 have HN:=I hn;have HT:=I ht;have HHT:=I hht;clear hic hck h hu hn ht hins ht0 HIC hht htn;generalize bi s root x.page=y at*
 obtain⟨code,tabs,bk,th,lf,rg,us,di,fr⟩:=y;dsimp only at*
 subst hcode hth;have HLV:=I hl;clear hbad hl;obtain⟨c0,c1,c2,c3⟩:=h0.cells4;have cl:=h0.lt;go_enter func113,ntmps113;go_wp2_with fail
 refine(HC.out _).mono ?_;rintro e w2 ⟨rfl,b2⟩;have h2:=h0.below b2;have x2:=x0.below b2;clear h0 x0 b2 c0 c1 c2 c3 cl;obtain⟨c0,c1,c2,c3⟩:=h2.cells4;have cl:=h2.lt;go_wp2_with fail
 refine(W1.out _ h2.p2).mono ?_;rintro e w3 hF;obtain⟨A,c,rfl,h3,x3⟩:∃(A:Option b0) (c:Nat),e= .returned (.tuple #[.agg #[.slice A tabs.length c,J F,J lf,o B rg,J us,J di,o B fr,o B bk],o B 0])∧N w3 (ao (.slice A tabs.length c) tabs*bE w2 w2.heap.size)∧bf w2 w3:=hF;have h5:N _ (aa w3.heap.size #[.slice A tabs.length c,J F,J lf,o B rg,J us,J di,o B fr,o B bk] 146*(ao (.slice A tabs.length c) tabs*(aa w.heap.size #[o B x.page,o B x.size,o B x.frame,o B x.rights] 39*(az q s*R)))):=(h2.onto' h3).new #[.slice A tabs.length c,J F,J lf,o B rg,J us,J di,o B fr,o B bk] 146;have x5:=(x2.trans x3).alloc (.cells #[.slice A tabs.length c,J F,J lf,o B rg,J us,J di,o B fr,o B bk] 146);clear h2 x2 h3 x3 c0 c1 c2 c3 cl W1 HC;go_upto_region 5 with fail;generalize w3.alloc _=w5 at*
 generalize w3.heap.size=X1 at*
 generalize w.heap.size=X0 at*
 obtain⟨c0,c1,c2,c3⟩:=h5.right.right.cells4;have cl:=h5.right.right.lt;obtain⟨k0,k1,k2,k3,k4,k5,k6,k7⟩:=h5.cells8;have kl:=h5.lt;have hmw2:IntKind.i64.wrap (bk - x.size)=(m:Int):=by rw[hmm];exact hmw
 have hfi:¬((s.frees.length:Int)< (m:Int)):=by omega
 go_upto_region 9 with fail;have v1:=ae c1;have v7:=ae k7;have HFW:=I (fun u=>HFR.out _ _ ((h5.via u).eq (show _=az q s*(aa X1 #[.slice A tabs.length c,J F,J lf,o B rg,J us,J di,o B fr,o B bk] 146*(ao (.slice A tabs.length c) tabs*(aa X0 #[o B x.page,o B x.size,o B x.frame,o B x.rights] 39*R))) by ac_rfl)));refine au (by kernel_rfl) (by kernel_rfl) ?_;repeat(first|go_big_quiet_step ((go_at_call 26;exact Pure.via (HFW.out _)))|quiet_step ((go_at_call 26;exact Pure.via (HFW.out _))))
 refine wpQuiet_nil ?_;intro _ hw';obtain⟨uq,hw''⟩:=hw';subst hw'';have h6:=h5.via uq;have x6:=x5.below (aE _ uq);generalize gU w5 uq=w6 at*
 clear h5 x5 v1 v7 HFW HFR c0 c1 c2 c3 cl k0 k1 k2 k3 k4 k5 k6 k7 kl;obtain⟨bA,hA1,hA2,hA3⟩:=da h6.right (k:=n) (by have:=HN.out;omega);rw[(T.1 HT.out).2] at hA3;subst hA1;have hlen1:((tabs.length:Nat):Int) - 1=(n:Int):=by have:=HN.out;omega
 have hni:(n:Int)<tabs.length:=by have:=HN.out;omega
 have hn0:¬((n:Int)<0):=by omega
 have hn00:(0:Int)≤(n:Int):=by omega
 have hwn:IntKind.i64.wrap (n:Int)=(n:Int):=by rw[bb];omega
 have hwn2:IntKind.i64.wrap (((tabs.length:Nat):Int) - 1)=(n:Int):=by rw[hlen1];exact hwn
 obtain⟨k0,k1,k2,k3,k4,k5,k6,k7⟩:=h6.cells8;have kl:=h6.lt;go_upto_region 13 with fail;obtain⟨QQ,hQQ⟩:∃Q:ab,Q=(aa X1 #[.slice (D (H bA 0 C)) tabs.length c,J F,J lf,o B rg,J us,J di,o B fr,o B bk] 146*ao (.slice (D (H bA 0 C)) tabs.length c) tabs):=⟨_,rfl⟩;have h7:N w6 (az q s*(aa X0 #[o B x.page,o B x.size,o B x.frame,o B x.rights] 39*(QQ*R))):=by rw[hQQ];exact h6.eq (by ac_rfl)
 obtain⟨g0,hg0⟩:∃g0:Nat,bk=(g0:Int):=⟨z+m,by have:=HLV.out;omega⟩;have hlw:=iy (dq x) x.size;have HOUT:=I (show g0=z+m∧m≤m∧m≤s.frees.length∧s.Ok∧s.has (tn:Int)=O∧sF=dH s x.page (bq (dq x) x.size) z m tn from⟨by have:=HLV.out;omega,Nat.le_refl _,by omega,hs,HHT.out,HINS.out⟩);have HG0:=I hg0;clear h6 k0 k1 k2 k3 k4 k5 k6 k7 kl hA2 hA3 hQQ hlen1 hni hn0 hn00 hwn hwn2 hmw2 hfi hfull hg0;go_loopw [10,11] (fun t10 t11 wr=>∃(m' g tt:Nat) (σ:Ms),t10=o B (tt:Int)∧t11=o B (g:Int)∧Hid (g=z+m'∧m'≤m∧m'≤σ.frees.length∧σ.Ok∧σ.has (tt:Int)=O∧sF=dH σ x.page (bq (dq x) x.size) z m' tt)∧N wr (az q σ*(aa X0 #[o B x.page,o B x.size,o B x.frame,o B x.rights] 39*(QQ*R)))∧bf w wr) (fun _ t11 _=>(intOf t11).toNat)
 case atStart=>exact⟨m,g0,tn,s,rfl,by rw[HG0.out],HOUT,h7,x6⟩
 case round=>
  clear h7 x6 HOUT;obtain⟨m',g,tt,σ,rfl,rfl,HO,hr,hx⟩:=hrel;obtain⟨hgz,hmm',hmf,hσ,hht,hch⟩:=HO.out;obtain⟨_,htn',_⟩:=b3.1 hht;have hixr:=im (p:=x.page) (L:=(g:Int)) hp (by omega) (by omega);obtain⟨j,hj⟩:=ad hixr.1;have hj8n:j<8:=by have:=hixr.2;omega
  have hj8:(j:Int)<8:=by omega
  obtain⟨c0,c1,c2,c3⟩:=hr.right.cells4;have cl:=hr.right.lt;by_cases hm0:m'=0
  ·have hcond:¬(x.size< (g:Int)):=by have:=HZ.out;omega
   have hfin:sF=σ.setW tt j (bq (dq x) x.size):=by
    rw[hch,hm0];show σ.setW (tt:Int).toNat (ap x.page z).toNat _=_;have e:((z:Nat):Int)=(g:Int):=by omega
    rw[e,hj];rfl
   have hjs:ap x.page x.size=(j:Int):=by
    have e:x.size=(g:Int):=by have:=HZ.out;omega
    rw[e,hj];done
   have HWD:=I (fun Y=>je (dq x) x.size Y);unfold dq at HWD;dsimp only at HWD;have HI2:=I (fun Y=>ei x.page x.size Y);rw[hjs] at HI2;have htn:tt<σ.n:=by omega
   have htnz:(tt:Int)< (σ.n:Int):=by omega
   have HFIN:=I hfin;unfold dq at HFIN;clear hgz hmm' hmf hσ hht hch htn' hixr hj hm0 HO hjs hfin;generalize bq ⟨O,O,x.rights,F,F,x.frame⟩ x.size=nw at*
   generalize aj ⟨O,O,x.rights,F,F,x.frame⟩ x.size=ff at*
   obtain⟨gw,gi,vk,hq⟩:=cv hr;have HK:=I (fun(w':V) (sx:Ms) (h:N w' (dj q gw gi vk sx (aa X0 #[o B x.page,o B x.size,o B x.frame,o B x.rights] 39*(QQ*R))))=>(by
    obtain⟨m0,m1,m2,m3⟩:=h.right.r3.cells4;exact⟨Has.cell h 0,m0,m1,m2,m3⟩:w'.cell? (H q 0 C)=D (.slice (D (H gw 0 C)) sx.n sx.n)∧w'.cell? (H X0 0 C)=D (o B x.page)∧w'.cell? (H X0 1 C)=D (o B x.size)∧w'.cell? (H X0 2 C)=D (o B x.frame)∧w'.cell? (H X0 3 C)=D (o B x.rights)))
   have hq0:=hq.drew;have xq0:=hx.drew;go_upto_region 18 with fail;go_cut [] from 84 to 107 (fun wx=>N wx (az q (σ.setW tt j nw)*(aa X0 #[o B x.page,o B x.size,o B x.frame,o B x.rights] 39*(QQ*R)))∧bf w wx)
   case first=>
    go_region_held3 (fun w'=>w'.cell? (H q 0 C)=D (.slice (D (H gw 0 C)) σ.n σ.n)∧w'.cell? (H X0 0 C)=D (o B x.page)∧w'.cell? (H X0 1 C)=D (o B x.size)∧w'.cell? (H X0 2 C)=D (o B x.frame)∧w'.cell? (H X0 3 C)=D (o B x.rights)) (first|(with_reducible exact HK.out _ σ hq0)|(with_reducible exact HK.out _ σ hi5)|(with_reducible exact HK.out _ σ hw6)|(exact HK.out _ (σ.setW tt j nw) (dr (k:=tt) (i:=j) hw6 hj8n nw))|(exact HK.out _ (σ.setW tt j nw) (dr (k:=tt) (i:=j) hi5 hj8n nw))|go_keep) (first|(go_at_call 120;(with_reducible refine(HI2.out _).mono ?_);rintro e2 w5 ⟨rfl,b5⟩;first|(have hi5:=hw6.below b5;have xi5:=xw6.below b5;have y0:=ch hi5 htn hj8n;have y1:=hi5.right.free (tt*8+j);have y2:=hi5.right.lt)|(have hi5:=hq0.below b5;have xi5:=xq0.below b5))|(go_at_call 124;(with_reducible refine(HWD.out _).mono ?_);rintro e2 w6 ⟨rfl,b6⟩;first|(have hw6:=hi5.below b6;have xw6:=xi5.below b6;have y0:=ch hw6 htn hj8n;have y1:=hw6.right.free (tt*8+j);have y2:=hw6.right.lt)|(have hw6:=hq0.below b6;have xw6:=xq0.below b6)))
    all_goals
     go_wp2_with fail
     go_meet
     case rel=>first|exact⟨cV (dr (k:=tt) (i:=j) hw6 hj8n nw),xw6.set _ _⟩|exact⟨cV (dr (k:=tt) (i:=j) hi5 hj8n nw),xi5.set _ _⟩
   case rest=>
    clear hq hq0 xq0 hr hx HK c0 c1 c2 c3 cl;obtain⟨h9,x10⟩:=hcut;go_wp2_with fail
    go_ret;exact⟨rfl,by rw[HFIN.out];exact(h9.eq (show _=aa X0 #[o B x.page,o B x.size,o B x.frame,o B x.rights] 39*(QQ*(az q (σ.setW tt j nw)*R)) by ac_rfl)).right.right,x10⟩
  ·obtain⟨m2,hm2⟩:∃m2,m'=m2+1:=⟨m' - 1,by omega⟩
   have hcond:x.size< (g:Int):=by have:=HZ.out;omega
   obtain⟨k,hk⟩:=jm (s:=σ) (by omega);have hkl:=Ms.top_lt hσ.inv hk;have e1:σ.takeS=σ.take k:=by unfold Ms.takeS;rw[hk]
   have eV:σ.topV=(k:Int):=by unfold Ms.topV;rw[hk]
   have hok2:=hσ.takeS;have hfl2:=jK hk;have HT:=I (fun R w h=>xK q σ R w h hσ);rw[e1] at HT hok2;rw[eV] at HT;have hnw:bq ⟨O,F,7,F,F,(k:Int)⟩ (g:Int)=iP k (z+m2+1):=by
    unfold iP sY;congr 1
    omega
   have hu64:=iy ⟨O,F,7,F,F,(k:Int)⟩ (g:Int);have hch2:sF=dH ((σ.take k).setW tt j (bq ⟨O,F,7,F,F,(k:Int)⟩ (g:Int))) x.page (bq (dq x) x.size) z m2 (k:Int):=by
    rw[hch,hm2];conv=>lhs;unfold dH
    rw[hk];dsimp only;rw[hnw];have e:((z+m2+1:Nat):Int)=(g:Int):=by omega
    rw[e,hj];rfl
   have HO2:=I (show g - 1=z+m2∧m2≤m∧m2≤((σ.take k).setW tt j (bq ⟨O,F,7,F,F,(k:Int)⟩ (g:Int))).frees.length ∧((σ.take k).setW tt j (bq ⟨O,F,7,F,F,(k:Int)⟩ (g:Int))).Ok ∧((σ.take k).setW tt j (bq ⟨O,F,7,F,F,(k:Int)⟩ (g:Int))).has (k:Int)=O∧sF=dH ((σ.take k).setW tt j (bq ⟨O,F,7,F,F,(k:Int)⟩ (g:Int))) x.page (bq (dq x) x.size) z m2 (k:Int) from
    ⟨by omega,by omega,by show m2≤(σ.take k).frees.length;omega,⟨hok2.inv.setW _ _ hu64,hok2.small⟩,by show(σ.take k).has (k:Int)=O;exact dK hkl.1,hch2⟩)
   have HWD:=I (fun Y=>je ⟨O,F,7,F,F,(k:Int)⟩ (g:Int) Y);dsimp only at HWD;have HI2:=I (fun Y=>ei x.page (g:Int) Y);rw[hj] at HI2;have hn2:(σ.take k).n =σ.n:=rfl;have htnn:tt< (σ.take k).n :=by rw[hn2];omega
   have hg1:(g:Int) - 1=((g - 1:Nat):Int):=by omega
   have hgw:IntKind.i64.wrap (((g - 1:Nat)):Int)=((g - 1:Nat):Int):=by rw[bb];omega
   have hgpos:0<g:=by omega
   have HGP:=I (And.intro hg1 (And.intro hgw hgpos));clear hgz hmm' hmf hσ hht hch htn' hixr hj hm0 hm2 hk hkl e1 eV hok2 hfl2 hnw hu64 hch2 hn2 hg1 hgw hgpos HO;generalize bq ⟨O,F,7,F,F,(k:Int)⟩ (g:Int)=nw at*
   generalize aj ⟨O,F,7,F,F,(k:Int)⟩ (g:Int)=ff at*
   generalize σ.take k=σ2 at*
   go_wp2_with fail
   refine(HT.out _ _ hr).mono ?_;rintro e w8 ⟨rfl,h8,x8⟩;have x9:=hx.trans x8;clear c0 c1 c2 c3 cl hr hx x8 HT;obtain⟨gw,gi,vk,hq⟩:=cv h8;have HK:=I (fun(w':V) (sx:Ms) (h:N w' (dj q gw gi vk sx (aa X0 #[o B x.page,o B x.size,o B x.frame,o B x.rights] 39*(QQ*R))))=>(by
    obtain⟨m0,m1,m2,m3⟩:=h.right.r3.cells4;exact⟨Has.cell h 0,m0⟩:w'.cell? (H q 0 C)=D (.slice (D (H gw 0 C)) sx.n sx.n)∧w'.cell? (H X0 0 C)=D (o B x.page)))
   have htn:tt<σ2.n:=htnn;have htnz:(tt:Int)< (σ2.n:Int):=by omega
   have hn128:True:=trivial;have hq0:=hq.drew;have xq0:=x9.drew;go_upto_region 16 with fail;go_cut [] from 65 to 83 (fun wx=>N wx (az q (σ2.setW tt j nw)*(aa X0 #[o B x.page,o B x.size,o B x.frame,o B x.rights] 39*(QQ*R)))∧bf w wx)
   case first=>
    go_region_held3 (fun w'=>w'.cell? (H q 0 C)=D (.slice (D (H gw 0 C)) σ2.n σ2.n)∧w'.cell? (H X0 0 C)=D (o B x.page)) (first|(with_reducible exact HK.out _ σ2 hq0)|(with_reducible exact HK.out _ σ2 hi5)|(with_reducible exact HK.out _ σ2 hw6)|(exact HK.out _ (σ2.setW tt j nw) (dr (k:=tt) (i:=j) hw6 hj8n nw))|(exact HK.out _ (σ2.setW tt j nw) (dr (k:=tt) (i:=j) hi5 hj8n nw))|go_keep) (first|(go_at_call 120;(with_reducible refine(HI2.out _).mono ?_);rintro e2 w5 ⟨rfl,b5⟩;first|(have hi5:=hw6.below b5;have xi5:=xw6.below b5;have y0:=ch hi5 htn hj8n;have y1:=hi5.right.free (tt*8+j);have y2:=hi5.right.lt)|(have hi5:=hq0.below b5;have xi5:=xq0.below b5))|(go_at_call 124;(with_reducible refine(HWD.out _).mono ?_);rintro e2 w6 ⟨rfl,b6⟩;first|(have hw6:=hi5.below b6;have xw6:=xi5.below b6;have y0:=ch hw6 htn hj8n;have y1:=hw6.right.free (tt*8+j);have y2:=hw6.right.lt)|(have hw6:=hq0.below b6;have xw6:=xq0.below b6)))
    all_goals
     go_wp2_with fail
     go_meet
     case rel=>first|exact⟨cV (dr (k:=tt) (i:=j) hw6 hj8n nw),xw6.set _ _⟩|exact⟨cV (dr (k:=tt) (i:=j) hi5 hj8n nw),xi5.set _ _⟩
   case rest=>
    clear hq hq0 xq0 h8 x9 HK;obtain⟨h9,x10⟩:=hcut;obtain⟨c0,c1,c2,c3⟩:=h9.right.cells4;have cl:=h9.right.lt;obtain⟨hg1,hgw,hgpos⟩:=HGP.out;have HGZ:=I hgpos;clear hgpos;go_wp2_with fail
    go_roundw
    case rel=>exact⟨m2,g - 1,k,_,rfl,by first|rfl|go_num,HO2,h9,x10⟩
    case measure=>have:=HGZ.out;simp[intOf];omega
set_option maxHeartbeats 8000000 in
theorem AS(q:Nat)(s:Ms)(root p ri:Int)(R:ab)(w:V)(hs:s.Ok)(h:N w (az q s*R)):
  bd prog 115 #[.pointer (D (H q 0 C)),o B root,o B p,o B ri] w (cR (.tuple #[(kU s root p ri).val,o B (iQ s root p ri)]) (az q (gX s root p ri)*R) w):=by
 have h0:=h.new #[o B 0,o B 0,o B 0,o B 0] 39;have x0:=(ax w).alloc (.cells #[o B 0,o B 0,o B 0,o B 0] 39);by_cases hri:ri<0∨7<ri
 ·have hc:iQ s root p ri=1:=by unfold iQ;rw[if_pos hri]
  have hm:kU s root p ri=Mp.zero:=by unfold kU;rw[if_neg (by rw[hc];decide)]
  have hss:gX s root p ri=s:=by unfold gX;rw[if_neg (by rw[hc];decide)]
  rw[hc,hm,hss];clear hc hm hss h;obtain⟨c0,c1,c2,c3⟩:=h0.cells4;obtain⟨g0,g1,g2,g3⟩:=h0.frees4;have cl:=h0.lt;rcases hri with hri|hri
  ·go_enter func115,ntmps115
   go_wp2_with fail
   refine am (fun wz=>N wz (aa w.heap.size #[o B 0,o B 0,o B 0,o B 0] 39*(az q s*R))∧bf w wz) ⟨h0,ah⟩ ?_;rintro wz ⟨hz,xz⟩;exact S (aA results115 rfl rfl (bh hz)) rfl ⟨rfl,hz.right,xz⟩
  ·by_cases hr0:ri<0
   ·omega
   go_enter func115,ntmps115;go_wp2_with fail
   refine am (fun wz=>N wz (aa w.heap.size #[o B 0,o B 0,o B 0,o B 0] 39*(az q s*R))∧bf w wz) ⟨h0,ah⟩ ?_;rintro wz ⟨hz,xz⟩;exact S (aA results115 rfl rfl (bh hz)) rfl ⟨rfl,hz.right,xz⟩
 have hpc:iQ s root p ri=bu s root p:=by unfold iQ;rw[if_neg hri]
 have hr0:¬ri<0:=by omega
 have hr7:¬7<ri:=by omega
 have HFI:=I (fun R w h=>mz q s root p R w hs h);by_cases hfc:bu s root p=0
 case neg=>
  have hss:gX s root p ri=s:=by unfold gX;rw[if_neg (by rw[hpc];exact hfc)]
  have hm:kU s root p ri=Mp.zero:=by unfold kU;rw[if_neg (by rw[hpc];exact hfc)]
  rw[hss,hm,hpc];have hn:(bu s root p !=0)=O:=by simpa using hfc
  generalize bu s root p=fc at*
  generalize bK s root p=fm at*
  generalize i7 s root p=fe at*
  clear hss hm hpc h hri hfc;go_enter func115,ntmps115;go_wp2_with fail
  refine(HFI.out _ _ h0.p2).mono ?_;rintro e w1 ⟨rfl,b1⟩;have h1:=h0.below b1;have x1:=x0.below b1;clear h0 x0 b1 HFI;have h4:N _ (aa w.heap.size #[o B 0,o B 0,o B 0,o B 0] 39*(az q s*(aa (w1.heap.size+1) #[J fe.there,J fe.leaf,o B fe.rights,J fe.used,J fe.dirty,o B fe.frame] 70*(aa w1.heap.size #[o B fm.page,o B fm.size,o B fm.frame,o B fm.rights] 39*R)))):=((h1.new #[o B fm.page,o B fm.size,o B fm.frame,o B fm.rights] 39).new #[J fe.there,J fe.leaf,o B fe.rights,J fe.used,J fe.dirty,o B fe.frame] 70).eq (by simp only[U];ac_rfl);have x4:=(x1.alloc (.cells #[o B fm.page,o B fm.size,o B fm.frame,o B fm.rights] 39)).alloc (.cells #[J fe.there,J fe.leaf,o B fe.rights,J fe.used,J fe.dirty,o B fe.frame] 70);clear h1 x1;unfold zm;go_upto_region 4 with fail;generalize (w1.alloc (.cells #[o B fm.page,o B fm.size,o B fm.frame,o B fm.rights] 39)).alloc (.cells #[J fe.there,J fe.leaf,o B fe.rights,J fe.used,J fe.dirty,o B fe.frame] 70)=w3 at*
  generalize w1.heap.size=X2 at*
  generalize w.heap.size=X0 at*
  obtain⟨r0,r1,r2,r3⟩:=h4.cells4;obtain⟨q0,q1,q2,q3⟩:=h4.frees4;have rl:=h4.lt;go_wp2_with fail
  refine am (fun wz=>N wz (aa X0 #[o B 0,o B 0,o B 0,o B 0] 39*(az q s*(aa (X2+1) #[J fe.there,J fe.leaf,o B fe.rights,J fe.used,J fe.dirty,o B fe.frame] 70*(aa X2 #[o B fm.page,o B fm.size,o B fm.frame,o B fm.rights] 39*R))))∧bf w wz) ⟨h4.set4 _ _ _ _,ah⟩ ?_;rintro wz ⟨hz,xz⟩;exact S (aA results115 rfl rfl (bh hz)) rfl ⟨rfl,hz.right.eq (show _=aa (X2+1) #[J fe.there,J fe.leaf,o B fe.rights,J fe.used,J fe.dirty,o B fe.frame] 70*(aa X2 #[o B fm.page,o B fm.size,o B fm.frame,o B fm.rights] 39*(az q s*R)) by ac_rfl) |>.right.right,xz⟩
 have hcode:(bi s root p).code =0:=by
  unfold bu at hfc;split at hfc
  ·rename_i hn;exact absurd hfc hn
  ·rename_i hn;simpa using hn
 obtain⟨hp,n,hn,hn3,hl,hu⟩:=fb hcode;obtain⟨t,ht⟩:∃t,(bi s root p).tabs[n]? =D t:=⟨_,ag (by omega)⟩;have hht:s.has t=O:=hu t (by obtain⟨hl,e⟩:=T.1 ht;exact e▸List.getElem_mem hl);have hixr:=im (p:=p) (L:=(bi s root p).lev) hp (by omega) (by omega);obtain⟨j,hj⟩:=ad hixr.1;have hj8n:j<8:=by have:=hixr.2;omega
 have hj8:(j:Int)<8:=by omega
 have hfe:i7 s root p=(bi s root p).e :=by unfold i7;rw[if_pos hfc]
 have hss:gX s root p ri=s.setW t.toNat j (bq {(i7 s root p) with rights:=ri} (bi s root p).lev):=by
  unfold gX;rw[if_pos (by rw[hpc];exact hfc),jW hn ht,hj,hfe];rfl
 have hm:kU s root p ri={bK s root p with rights:=ri}:=by unfold kU;rw[if_pos (by rw[hpc];exact hfc)]
 obtain⟨ht0,htn',_⟩:=b3.1 hht;obtain⟨tn,rfl⟩:=ad ht0;have htn:tn<s.n:=by omega
 have htnz:(tn:Int)< (s.n:Int):=by omega
 have HWD:=I (fun Y=>je {(i7 s root p) with rights:=ri} (bi s root p).lev Y);dsimp only at HWD;have HI2:=I (fun Y=>ei p (bi s root p).lev Y);rw[hj] at HI2;have HWT:=I (fun R w h=>j9 q s root p R w hs h);rw[hpc,hm,hss,hfc];rw[hfc] at HFI;have HN:=I hn;have HT:=I ht;clear hss hm hpc hri h hcode hu hl hfc hn ht hj hixr hht ht0 htn';generalize bq {(i7 s root p) with rights:=ri} (bi s root p).lev =nw at*
 generalize aj {(i7 s root p) with rights:=ri} (bi s root p).lev =ff at*
 clear hfe;generalize bK s root p=fm at*
 generalize i7 s root p=fe at*
 generalize bi s root p=y at*
 go_enter func115,ntmps115;go_wp2_with fail
 refine(HFI.out _ _ h0.p2).mono ?_;rintro e w1 ⟨rfl,b1⟩;have h1:=h0.below b1;have x1:=x0.below b1;clear h0 x0 b1 HFI;have h4:N _ (az q s*(aa w.heap.size #[o B 0,o B 0,o B 0,o B 0] 39*(aa (w1.heap.size+1) #[J fe.there,J fe.leaf,o B fe.rights,J fe.used,J fe.dirty,o B fe.frame] 70*(aa w1.heap.size #[o B fm.page,o B fm.size,o B fm.frame,o B fm.rights] 39*R)))):=((h1.new #[o B fm.page,o B fm.size,o B fm.frame,o B fm.rights] 39).new #[J fe.there,J fe.leaf,o B fe.rights,J fe.used,J fe.dirty,o B fe.frame] 70).eq (by simp only[U];ac_rfl);have x4:=(x1.alloc (.cells #[o B fm.page,o B fm.size,o B fm.frame,o B fm.rights] 39)).alloc (.cells #[J fe.there,J fe.leaf,o B fe.rights,J fe.used,J fe.dirty,o B fe.frame] 70);clear h1 x1;unfold zm;go_upto_region 4 with fail;generalize (w1.alloc (.cells #[o B fm.page,o B fm.size,o B fm.frame,o B fm.rights] 39)).alloc (.cells #[J fe.there,J fe.leaf,o B fe.rights,J fe.used,J fe.dirty,o B fe.frame] 70)=w3 at*
 generalize w1.heap.size=X2 at*
 generalize w.heap.size=X0 at*
 go_wp2_with fail
 refine(HWT.out _ _ h4).mono ?_;rintro e w5 hF;obtain⟨A,c,rfl,h5,x5⟩:∃(A:Option b0) (c:Nat),e= .returned (.tuple #[.agg #[.slice A y.tabs.length c,J y.e.there,J y.e.leaf,o B y.e.rights,J y.e.used,J y.e.dirty,o B y.e.frame,o B y.lev],o B y.code])∧N w5 (ao (.slice A y.tabs.length c) y.tabs*bE w3 w3.heap.size)∧bf w3 w5:=hF;have h6:N _ (aa w5.heap.size #[.slice A y.tabs.length c,J y.e.there,J y.e.leaf,o B y.e.rights,J y.e.used,J y.e.dirty,o B y.e.frame,o B y.lev] 146*(ao (.slice A y.tabs.length c) y.tabs*(az q s*(aa X0 #[o B 0,o B 0,o B 0,o B 0] 39*(aa (X2+1) #[J fe.there,J fe.leaf,o B fe.rights,J fe.used,J fe.dirty,o B fe.frame] 70*(aa X2 #[o B fm.page,o B fm.size,o B fm.frame,o B fm.rights] 39*R)))))):=(h4.onto' h5).new #[.slice A y.tabs.length c,J y.e.there,J y.e.leaf,o B y.e.rights,J y.e.used,J y.e.dirty,o B y.e.frame,o B y.lev] 146;have x6:=(x4.trans x5).alloc (.cells #[.slice A y.tabs.length c,J y.e.there,J y.e.leaf,o B y.e.rights,J y.e.used,J y.e.dirty,o B y.e.frame,o B y.lev] 146);clear h4 x4 h5 x5 HWT;go_upto_region 7 with fail;generalize w5.alloc _=w6 at*
 generalize w5.heap.size=X5 at*
 obtain⟨bA,hA1,-,-⟩:=da h6.right (k:=n) (by have:=HN.out;omega);subst hA1;have h7:N w6 (aa (X2+1) #[J fe.there,J fe.leaf,o B fe.rights,J fe.used,J fe.dirty,o B fe.frame] 70*(aa X2 #[o B fm.page,o B fm.size,o B fm.frame,o B fm.rights] 39*(az q s*(aa X5 #[.slice (D (H bA 0 C)) y.tabs.length c,J y.e.there,J y.e.leaf,o B y.e.rights,J y.e.used,J y.e.dirty,o B y.e.frame,o B y.lev] 146*(ao (.slice (D (H bA 0 C)) y.tabs.length c) y.tabs*(aa X0 #[o B 0,o B 0,o B 0,o B 0] 39*R)))))):=h6.eq (by ac_rfl);obtain⟨e0,e1,e2,e3,e4,e5⟩:=h7.cells6;obtain⟨f0,f1,f2,f3,f4,f5⟩:=h7.frees6;have el:=h7.lt;have m3:=h7.right.cell 3;have g3:=h7.right.free 3;have ml:=h7.right.lt;have nn:=h7.ne;have nn':=nn.symm;have h8:N ((w6.setCell ⟨X2+1,2,C⟩ (o B ri)).setCell (H X2 3 C) (o B ri)) (aa X2 #[o B fm.page,o B fm.size,o B fm.frame,o B ri] 39*(aa (X2+1) #[J fe.there,J fe.leaf,o B ri,J fe.used,J fe.dirty,o B fe.frame] 70*(az q s*(aa X5 #[.slice (D (H bA 0 C)) y.tabs.length c,J y.e.there,J y.e.leaf,o B y.e.rights,J y.e.used,J y.e.dirty,o B y.e.frame,o B y.lev] 146*(ao (.slice (D (H bA 0 C)) y.tabs.length c) y.tabs*(aa X0 #[o B 0,o B 0,o B 0,o B 0] 39*R)))))):=(h7.set 2 (o B ri)).p2.set 3 (o B ri);have x8:=(x6.set ⟨X2+1,2,C⟩ (o B ri)).set (H X2 3 C) (o B ri);go_upto_region 8 with fail;generalize (w6.setCell ⟨X2+1,2,C⟩ (o B ri)).setCell (H X2 3 C) (o B ri)=w8 at*
 clear h6 x6 h7 e0 e1 e2 e3 e4 e5 f0 f1 f2 f3 f4 f5 el m3 g3 ml nn nn';have h9:N w8 (az q s*(aa X5 #[.slice (D (H bA 0 C)) y.tabs.length c,J y.e.there,J y.e.leaf,o B y.e.rights,J y.e.used,J y.e.dirty,o B y.e.frame,o B y.lev] 146*(ao (.slice (D (H bA 0 C)) y.tabs.length c) y.tabs*(aa (X2+1) #[J fe.there,J fe.leaf,o B ri,J fe.used,J fe.dirty,o B fe.frame] 70*(aa X0 #[o B 0,o B 0,o B 0,o B 0] 39*(aa X2 #[o B fm.page,o B fm.size,o B fm.frame,o B ri] 39*R)))))):=h8.eq (by ac_rfl);clear h8;obtain⟨gw,gi,vk,hq⟩:=cv h9;have HK:=I (fun(w':V) (sx:Ms) (h:N w' (dj q gw gi vk sx (aa X5 #[.slice (D (H bA 0 C)) y.tabs.length c,J y.e.there,J y.e.leaf,o B y.e.rights,J y.e.used,J y.e.dirty,o B y.e.frame,o B y.lev] 146*(ao (.slice (D (H bA 0 C)) y.tabs.length c) y.tabs*(aa (X2+1) #[J fe.there,J fe.leaf,o B ri,J fe.used,J fe.dirty,o B fe.frame] 70*(aa X0 #[o B 0,o B 0,o B 0,o B 0] 39*(aa X2 #[o B fm.page,o B fm.size,o B fm.frame,o B ri] 39*R)))))))=>(by
  have hR:=h.right.r3;obtain⟨b1,e1,_,q1⟩:=da hR.right (k:=n) (by have:=HN.out;omega);injection e1 with e1;injection e1 with e1
  subst e1;rw[(T.1 HT.out).2] at q1;exact⟨Has.cell h 0,hR.cell 0,hR.cell 7,q1,hR.right.right.cells6⟩:w'.cell? (H q 0 C)=D (.slice (D (H gw 0 C)) sx.n sx.n)∧w'.cell? (H X5 0 C)=D (.slice (D (H bA 0 C)) y.tabs.length c)∧w'.cell? (H X5 7 C)=D (o B y.lev)∧w'.cell? (H bA n C)=D (o B tn)∧(w'.cell? ⟨X2+1,0,C⟩=D (J fe.there)∧w'.cell? ⟨X2+1,1,C⟩=D (J fe.leaf)∧w'.cell? ⟨X2+1,2,C⟩=D (o B ri)∧w'.cell? ⟨X2+1,3,C⟩=D (J fe.used)∧w'.cell? ⟨X2+1,4,C⟩=D (J fe.dirty)∧w'.cell? ⟨X2+1,5,C⟩=D (o B fe.frame))))
 have hlen1:((y.tabs.length:Nat):Int) - 1=(n:Int):=by have:=HN.out;omega
 have hni:(n:Int)<y.tabs.length:=by have:=HN.out;omega
 have hn0:¬((n:Int)<0):=by omega
 have hn00:(0:Int)≤(n:Int):=by omega
 have hwn:IntKind.i64.wrap (n:Int)=(n:Int):=by rw[bb];omega
 have hwn2:IntKind.i64.wrap (((y.tabs.length:Nat):Int) - 1)=(n:Int):=by rw[hlen1];exact hwn
 have hq0:=hq.drew;have xq0:=x8.drew;go_cut [] from 45 to 70 (fun wx=>N wx (az q (s.setW tn j nw)*(aa X5 #[.slice (D (H bA 0 C)) y.tabs.length c,J y.e.there,J y.e.leaf,o B y.e.rights,J y.e.used,J y.e.dirty,o B y.e.frame,o B y.lev] 146*(ao (.slice (D (H bA 0 C)) y.tabs.length c) y.tabs*(aa (X2+1) #[J fe.there,J fe.leaf,o B ri,J fe.used,J fe.dirty,o B fe.frame] 70*(aa X0 #[o B 0,o B 0,o B 0,o B 0] 39*(aa X2 #[o B fm.page,o B fm.size,o B fm.frame,o B ri] 39*R))))))∧bf w wx)
 case first=>
  go_region_held3 (fun w'=>w'.cell? (H q 0 C)=D (.slice (D (H gw 0 C)) s.n s.n)∧w'.cell? (H X5 0 C)=D (.slice (D (H bA 0 C)) y.tabs.length c)∧w'.cell? (H X5 7 C)=D (o B y.lev)∧w'.cell? (H bA n C)=D (o B tn)∧(w'.cell? ⟨X2+1,0,C⟩=D (J fe.there)∧w'.cell? ⟨X2+1,1,C⟩=D (J fe.leaf)∧w'.cell? ⟨X2+1,2,C⟩=D (o B ri)∧w'.cell? ⟨X2+1,3,C⟩=D (J fe.used)∧w'.cell? ⟨X2+1,4,C⟩=D (J fe.dirty)∧w'.cell? ⟨X2+1,5,C⟩=D (o B fe.frame))) (first|(with_reducible exact HK.out _ s hq0)|(with_reducible exact HK.out _ s hi5)|(with_reducible exact HK.out _ s hw6)|(exact HK.out _ (s.setW tn j nw) (dr (k:=tn) (i:=j) hw6 hj8n nw))|(exact HK.out _ (s.setW tn j nw) (dr (k:=tn) (i:=j) hi5 hj8n nw))|go_keep) (first|(go_at_call 120;(with_reducible refine(HI2.out _).mono ?_);rintro e2 w5 ⟨rfl,b5⟩;first|(have hi5:=hw6.below b5;have xi5:=xw6.below b5;have y0:=ch hi5 htn hj8n;have y1:=hi5.right.free (tn*8+j);have y2:=hi5.right.lt)|(have hi5:=hq0.below b5;have xi5:=xq0.below b5))|(go_at_call 124;(with_reducible refine(HWD.out _).mono ?_);rintro e2 w6 ⟨rfl,b6⟩;first|(have hw6:=hi5.below b6;have xw6:=xi5.below b6;have y0:=ch hw6 htn hj8n;have y1:=hw6.right.free (tn*8+j);have y2:=hw6.right.lt)|(have hw6:=hq0.below b6;have xw6:=xq0.below b6)))
  all_goals
   go_wp2_with fail
   go_meet
   case rel=>first|exact⟨cV (dr (k:=tn) (i:=j) hw6 hj8n nw),xw6.set _ _⟩|exact⟨cV (dr (k:=tn) (i:=j) hi5 hj8n nw),xi5.set _ _⟩
 case rest=>
  clear hq hq0 xq0 h9 x8 HK;obtain⟨h10,x10⟩:=hcut;have h11:N wc (aa X0 #[o B 0,o B 0,o B 0,o B 0] 39*(aa X2 #[o B fm.page,o B fm.size,o B fm.frame,o B ri] 39*(aa X5 #[.slice (D (H bA 0 C)) y.tabs.length c,J y.e.there,J y.e.leaf,o B y.e.rights,J y.e.used,J y.e.dirty,o B y.e.frame,o B y.lev] 146*(ao (.slice (D (H bA 0 C)) y.tabs.length c) y.tabs*(aa (X2+1) #[J fe.there,J fe.leaf,o B ri,J fe.used,J fe.dirty,o B fe.frame] 70*(az q (s.setW tn j nw)*R)))))):=h10.eq (by ac_rfl);obtain⟨m0,m1,m2,m3⟩:=h11.right.cells4;have ml:=h11.right.lt;obtain⟨r0,r1,r2,r3⟩:=h11.cells4;obtain⟨q0,q1,q2,q3⟩:=h11.frees4;have rl:=h11.lt;go_wp2_with fail
  refine am (fun wz=>N wz (aa X0 #[o B fm.page,o B fm.size,o B fm.frame,o B ri] 39*(aa X2 #[o B fm.page,o B fm.size,o B fm.frame,o B ri] 39*(aa X5 #[.slice (D (H bA 0 C)) y.tabs.length c,J y.e.there,J y.e.leaf,o B y.e.rights,J y.e.used,J y.e.dirty,o B y.e.frame,o B y.lev] 146*(ao (.slice (D (H bA 0 C)) y.tabs.length c) y.tabs*(aa (X2+1) #[J fe.there,J fe.leaf,o B ri,J fe.used,J fe.dirty,o B fe.frame] 70*(az q (s.setW tn j nw)*R))))))∧bf w wz) ⟨h11.set4 _ _ _ _,ah⟩ ?_;rintro wz ⟨hz,xz⟩;exact S (aA results115 rfl rfl (bh hz)) rfl ⟨rfl,hz.right.right.r3,xz⟩
def pE(q:Nat)(s:Ms)(r p:Int)(R:ab)(w:V)(e:Ending)(w':V):Prop:=
 ∃A n c,cR (.tuple #[(bK s r p).val,.slice A n c,o B (bu s r p)]) (ao (.slice A n c) (fy s r p)*(az q (dm s r p)*R)) w e w'
theorem qM{s:Ms}{t:Nat}:(s.wd t 0==0&&(s.wd t 1==0&&(s.wd t 2==0&&(s.wd t 3==0&&(s.wd t 4==0&&(s.wd t 5==0&&(s.wd t 6==0&&s.wd t 7==0)))))))=fx s (t:Int):=by
 unfold fx av;simp[List.range_succ]
theorem sC{p:Int}{tabs:List Int}{k:Nat}{s:Ms}(h:k=0∨fx (s.setW (tabs.getD k 0).toNat (ap p (3 - k:Nat)).toNat 0) (tabs.getD k 0)=F):ed p tabs k s=(s.setW (tabs.getD k 0).toNat (ap p (3 - k:Nat)).toNat 0,[]):=by
 cases k with
 |zero=>rfl
 |succ k=>
  rcases h with h|h
  ·cases h
  ·conv=>lhs;unfold ed
   rw[if_neg (by rw[h];simp)]
theorem sD{p:Int}{tabs:List Int}{k j:Nat}{s:Ms}(hk:k=j+1)(h:fx (s.setW (tabs.getD k 0).toNat (ap p (3 - k:Nat)).toNat 0) (tabs.getD k 0)=O):
  ed p tabs k s=((ed p tabs j (s.setW (tabs.getD k 0).toNat (ap p (3 - k:Nat)).toNat 0)).1,tabs.getD k 0::(ed p tabs j (s.setW (tabs.getD k 0).toNat (ap p (3 - k:Nat)).toNat 0)).2):=by
 subst hk;conv=>lhs;unfold ed
 rw[if_pos h]
set_option maxHeartbeats 8000000 in
theorem Ap(q:Nat)(s:Ms)(root p:Int)(R:ab)(w:V)(hs:s.Ok)(h:N w (az q s*R)):
  bd prog 114 #[.pointer (D (H q 0 C)),o B root,o B p] w (pE q s root p R w):=by
 have h0:=h.new #[o B 0,o B 0,o B 0,o B 0] 39;have x0:=(ax w).alloc (.cells #[o B 0,o B 0,o B 0,o B 0] 39);have HFI:=I (fun R w h=>mz q s root p R w hs h);unfold pE;by_cases hfc:bu s root p=0
 case neg=>
  have hrs:dm s root p=s:=by unfold dm;rw[if_neg hfc]
  have hrg:fy s root p=[]:=by unfold fy;rw[if_neg hfc]
  have hm:bK s root p=Mp.zero:=by unfold bK;rw[if_neg hfc]
  have hn:(bu s root p !=0)=O:=by simpa using hfc
  have HF:=I (And.intro hrs (And.intro hrg hm));generalize bu s root p=fc at*
  generalize dm s root p=rs at*
  generalize fy s root p=rg at*
  generalize bK s root p=fm at*
  generalize i7 s root p=fe at*
  clear hrs hrg hm h hfc;go_enter func114,ntmps114;go_wp2_with fail
  refine(HFI.out _ _ h0.p2).mono ?_;rintro e w1 ⟨rfl,b1⟩;have h1:=h0.below b1;have x1:=x0.below b1;clear h0 x0 b1 HFI;have h4:N _ (aa w.heap.size #[o B 0,o B 0,o B 0,o B 0] 39*(az q s*(aa (w1.heap.size+1) #[J fe.there,J fe.leaf,o B fe.rights,J fe.used,J fe.dirty,o B fe.frame] 70*(aa w1.heap.size #[o B fm.page,o B fm.size,o B fm.frame,o B fm.rights] 39*R)))):=((h1.new #[o B fm.page,o B fm.size,o B fm.frame,o B fm.rights] 39).new #[J fe.there,J fe.leaf,o B fe.rights,J fe.used,J fe.dirty,o B fe.frame] 70).eq (by simp only[U];ac_rfl);have x4:=(x1.alloc (.cells #[o B fm.page,o B fm.size,o B fm.frame,o B fm.rights] 39)).alloc (.cells #[J fe.there,J fe.leaf,o B fe.rights,J fe.used,J fe.dirty,o B fe.frame] 70);clear h1 x1;unfold zm;go_upto_region 2 with fail;generalize (w1.alloc (.cells #[o B fm.page,o B fm.size,o B fm.frame,o B fm.rights] 39)).alloc (.cells #[J fe.there,J fe.leaf,o B fe.rights,J fe.used,J fe.dirty,o B fe.frame] 70)=w3 at*
  generalize w1.heap.size=X2 at*
  generalize w.heap.size=X0 at*
  obtain⟨r0,r1,r2,r3⟩:=h4.cells4;obtain⟨q0,q1,q2,q3⟩:=h4.frees4;have rl:=h4.lt;go_wp2_with fail
  refine am (fun wz=>N wz (aa X0 #[o B 0,o B 0,o B 0,o B 0] 39*(az q s*(aa (X2+1) #[J fe.there,J fe.leaf,o B fe.rights,J fe.used,J fe.dirty,o B fe.frame] 70*(aa X2 #[o B fm.page,o B fm.size,o B fm.frame,o B fm.rights] 39*R))))∧bf w wz) ⟨h4.set4 _ _ _ _,ah⟩ ?_;rintro wz ⟨hw,xw⟩;have hw2:N wz (aa (X2+1) #[J fe.there,J fe.leaf,o B fe.rights,J fe.used,J fe.dirty,o B fe.frame] 70*(aa X2 #[o B fm.page,o B fm.size,o B fm.frame,o B fm.rights] 39*(az q s*R))):=hw.right.eq (by ac_rfl);exact S (bg results114 rfl rfl rfl (bh hw)) rfl ⟨C,0,0,by rw[HF.out.2.2];rfl,by rw[HF.out.1,HF.out.2.1];exact Has.rowNil hw2.right.right,xw⟩
 have hcode:(bi s root p).code =0:=by
  unfold bu at hfc;split at hfc
  ·rename_i hn;exact absurd hfc hn
  ·rename_i hn;simpa using hn
 obtain⟨hp,n,hn,hn3,hl,hu⟩:=fb hcode;have hRS:dm s root p=(ed p (bi s root p).tabs n s).1:=by unfold dm;rw[if_pos hfc,hn,Nat.add_sub_cancel]
 have hRG:fy s root p=(ed p (bi s root p).tabs n s).2:=by unfold fy;rw[if_pos hfc,hn,Nat.add_sub_cancel]
 have hTk:∀k,k<n+1→∃t:Nat,(bi s root p).tabs[k]? =D (t:Int)∧(bi s root p).tabs.getD k 0=(t:Int)∧t<s.n:=fun k hk=>by
  have hk':k< (bi s root p).tabs.length :=by omega
  have hh:=hu _ (List.getElem_mem hk');obtain⟨t0,t1,_⟩:=b3.1 hh;obtain⟨t,ht⟩:=ad t0;refine⟨t,by rw[ag hk',ht],by rw[List.getD_eq_getElem?_getD,ag hk',ht];first|done|rfl,by omega⟩
 have HWT:=I (fun R w h=>j9 q s root p R w hs h);rw[hfc] at HFI⊢;have HN:=I hn;have HTK:=I hTk;have HRS:=I hRS;have HRG:=I hRG;clear h hcode hu hl hfc hn hTk hRS hRG;generalize dm s root p=rs at*
 generalize fy s root p=rg at*
 generalize bK s root p=fm at*
 generalize i7 s root p=fe at*
 generalize bi s root p=y at*
 go_enter func114,ntmps114;go_wp2_with fail
 refine(HFI.out _ _ h0.p2).mono ?_;rintro e w1 ⟨rfl,b1⟩;have h1:=h0.below b1;have x1:=x0.below b1;clear h0 x0 b1 HFI;have h4:N _ (az q s*(aa w.heap.size #[o B 0,o B 0,o B 0,o B 0] 39*(aa (w1.heap.size+1) #[J fe.there,J fe.leaf,o B fe.rights,J fe.used,J fe.dirty,o B fe.frame] 70*(aa w1.heap.size #[o B fm.page,o B fm.size,o B fm.frame,o B fm.rights] 39*R)))):=((h1.new #[o B fm.page,o B fm.size,o B fm.frame,o B fm.rights] 39).new #[J fe.there,J fe.leaf,o B fe.rights,J fe.used,J fe.dirty,o B fe.frame] 70).eq (by simp only[U];ac_rfl);have x4:=(x1.alloc (.cells #[o B fm.page,o B fm.size,o B fm.frame,o B fm.rights] 39)).alloc (.cells #[J fe.there,J fe.leaf,o B fe.rights,J fe.used,J fe.dirty,o B fe.frame] 70);clear h1 x1;unfold zm;go_upto_region 2 with fail;generalize (w1.alloc (.cells #[o B fm.page,o B fm.size,o B fm.frame,o B fm.rights] 39)).alloc (.cells #[J fe.there,J fe.leaf,o B fe.rights,J fe.used,J fe.dirty,o B fe.frame] 70)=w3 at*
 generalize w1.heap.size=X2 at*
 generalize w.heap.size=X0 at*
 go_wp2_with fail
 refine(HWT.out _ _ h4).mono ?_;rintro e w5 hF;obtain⟨A,c,rfl,h5,x5⟩:∃(A:Option b0) (c:Nat),e= .returned (.tuple #[.agg #[.slice A y.tabs.length c,J y.e.there,J y.e.leaf,o B y.e.rights,J y.e.used,J y.e.dirty,o B y.e.frame,o B y.lev],o B y.code])∧N w5 (ao (.slice A y.tabs.length c) y.tabs*bE w3 w3.heap.size)∧bf w3 w5:=hF;have h6:N _ (aa w5.heap.size #[.slice A y.tabs.length c,J y.e.there,J y.e.leaf,o B y.e.rights,J y.e.used,J y.e.dirty,o B y.e.frame,o B y.lev] 146*(ao (.slice A y.tabs.length c) y.tabs*(az q s*(aa X0 #[o B 0,o B 0,o B 0,o B 0] 39*(aa (X2+1) #[J fe.there,J fe.leaf,o B fe.rights,J fe.used,J fe.dirty,o B fe.frame] 70*(aa X2 #[o B fm.page,o B fm.size,o B fm.frame,o B fm.rights] 39*R)))))):=(h4.onto' h5).new #[.slice A y.tabs.length c,J y.e.there,J y.e.leaf,o B y.e.rights,J y.e.used,J y.e.dirty,o B y.e.frame,o B y.lev] 146;have x6:=(x4.trans x5).alloc (.cells #[.slice A y.tabs.length c,J y.e.there,J y.e.leaf,o B y.e.rights,J y.e.used,J y.e.dirty,o B y.e.frame,o B y.lev] 146);clear h4 x4 h5 x5 HWT;go_upto_region 6 with fail;generalize w5.alloc _=w6 at*
 generalize w5.heap.size=X5 at*
 obtain⟨bA,hA1,-,-⟩:=da h6.right (k:=n) (by have:=HN.out;omega);subst hA1;have hlen1:((y.tabs.length:Nat):Int) - 1=(n:Int):=by have:=HN.out;omega
 have k0:=h6.cell 0;have kl:=h6.lt;have HLN:=I hlen1;clear hlen1;go_cut [15] from 35 to 39 (fun s15 wx=>s15=o B n∧wx=w6)
 case first=>
  have hlen1:=HLN.out;go_wp2_with fail
  go_meet
  case rel=>exact⟨by first|rfl|(rw[←hlen1];done)|(rw[←hlen1];go_num),rfl⟩
 case rest=>
 obtain⟨rfl,hwr⟩:=hcut;replace hwr:=hwr.symm;subst hwr;obtain⟨QQ,hQQ⟩:∃Q:ab,Q=(aa (X2+1) #[J fe.there,J fe.leaf,o B fe.rights,J fe.used,J fe.dirty,o B fe.frame] 70*R):=⟨_,rfl⟩;have h7:N w6 (ct 3 1 (.slice C 0 0) 0 (([]:List Int).map (o B))*(az q s*(aa X5 #[.slice (D (H bA 0 C)) y.tabs.length c,J y.e.there,J y.e.leaf,o B y.e.rights,J y.e.used,J y.e.dirty,o B y.e.frame,o B y.lev] 146*(ao (.slice (D (H bA 0 C)) y.tabs.length c) y.tabs*(aa X0 #[o B 0,o B 0,o B 0,o B 0] 39*(aa X2 #[o B fm.page,o B fm.size,o B fm.frame,o B fm.rights] 39*QQ)))))):=by
  rw[hQQ];exact Has.rowNil (h6.eq (by ac_rfl))
 have HQQ:=I hQQ;clear h6 k0 kl hQQ;go_upto_region 7 with fail;go_loopw [14,15] (fun t14 t15 wr=>∃(k:Nat) (σ:Ms) (g:List Int) (G:Option b0) (gc:Nat),k<n+1∧t15=o B (k:Int)∧t14= .slice G g.length gc∧Hid (rs=(ed p y.tabs k σ).1∧rg=g++(ed p y.tabs k σ).2∧σ.n=s.n∧g.length+k≤n)∧N wr (ct 3 1 (.slice G g.length gc) g.length (g.map (o B))*(az q σ*(aa X5 #[.slice (D (H bA 0 C)) y.tabs.length c,J y.e.there,J y.e.leaf,o B y.e.rights,J y.e.used,J y.e.dirty,o B y.e.frame,o B y.lev] 146*(ao (.slice (D (H bA 0 C)) y.tabs.length c) y.tabs*(aa X0 #[o B 0,o B 0,o B 0,o B 0] 39*(aa X2 #[o B fm.page,o B fm.size,o B fm.frame,o B fm.rights] 39*QQ))))))∧bf w wr) (fun _ t15 _=>(intOf t15).toNat)
 case atStart=>exact⟨n,s,[],C,0,by omega,rfl,rfl,I ⟨HRS.out,by rw[List.nil_append];exact HRG.out,rfl,by simp⟩,h7,x6⟩
 case round=>
  clear h7 x6 HRS HRG;obtain⟨k,σ,g,G,gc,hk,rfl,rfl,HCU,hr,hx⟩:=hrel;obtain⟨tn,htk,htd,htn0⟩:=HTK.out k hk;have htn:tn<σ.n:=by have:=HCU.out.2.2.1;omega
  have htnz:(tn:Int)< (σ.n:Int):=by omega
  have hixr:=im (p:=p) (L:=((3 - k:Nat):Int)) hp (by omega) (by omega);obtain⟨j,hj⟩:=ad hixr.1;have hj8n:j<8:=by have:=hixr.2;omega
  have hj8:(j:Int)<8:=by omega
  have HI2:=I (fun Y=>ei p ((3 - k:Nat):Int) Y);rw[hj] at HI2;have hσ1:σ.setW (y.tabs.getD k 0).toNat (ap p (3 - k:Nat)).toNat 0=σ.setW tn j 0:=by rw[htd,hj];rfl
  have HZ:=I (fun(h:k=0∨fx (σ.setW tn j 0) (tn:Int)=F)=>sC (p:=p) (tabs:=y.tabs) (k:=k) (s:=σ) (by rw[hσ1,htd];exact h));rw[hσ1] at HZ;have HM:=I (fun(i:Nat) (hi:k=i+1) (h:fx (σ.setW tn j 0) (tn:Int)=O)=>sD (p:=p) (tabs:=y.tabs) (k:=k) (j:=i) (s:=σ) hi (by rw[hσ1,htd];exact h));rw[hσ1,htd] at HM;have HTKk:=I htk;have hk0:(0:Int)≤(k:Int):=by omega
  have hkn:¬((k:Int)<0):=by omega
  have hki:(k:Int)<y.tabs.length:=by have:=HN.out;omega
  have h3k:3 - (k:Int)=((3 - k:Nat):Int):=by omega
  have hw3:IntKind.i64.wrap ((3 - k:Nat):Int)=((3 - k:Nat):Int):=by rw[bb];omega
  have hm:N _ (az q σ*(ct 3 1 (.slice G g.length gc) g.length (g.map (o B))*(aa X5 #[.slice (D (H bA 0 C)) y.tabs.length c,J y.e.there,J y.e.leaf,o B y.e.rights,J y.e.used,J y.e.dirty,o B y.e.frame,o B y.lev] 146*(ao (.slice (D (H bA 0 C)) y.tabs.length c) y.tabs*(aa X0 #[o B 0,o B 0,o B 0,o B 0] 39*(aa X2 #[o B fm.page,o B fm.size,o B fm.frame,o B fm.rights] 39*QQ)))))):=hr.eq (by ac_rfl);clear htk htd htn0 hixr hj hσ1 hr;obtain⟨gw,gi,vk,hq⟩:=cv hm;have HK:=I (fun(w':V) (sx:Ms) (h:N w' (dj q gw gi vk sx (ct 3 1 (.slice G g.length gc) g.length (g.map (o B))*(aa X5 #[.slice (D (H bA 0 C)) y.tabs.length c,J y.e.there,J y.e.leaf,o B y.e.rights,J y.e.used,J y.e.dirty,o B y.e.frame,o B y.lev] 146*(ao (.slice (D (H bA 0 C)) y.tabs.length c) y.tabs*(aa X0 #[o B 0,o B 0,o B 0,o B 0] 39*(aa X2 #[o B fm.page,o B fm.size,o B fm.frame,o B fm.rights] 39*QQ)))))))=>(by
   have hR:=h.right.right.r3;obtain⟨b1,e1,_,q1⟩:=da hR.right (k:=k) (by have:=HN.out;omega);injection e1 with e1;injection e1 with e1
   subst e1;rw[(T.1 HTKk.out).2] at q1;exact⟨Has.cell h 0,hR.cell 0,q1⟩:w'.cell? (H q 0 C)=D (.slice (D (H gw 0 C)) sx.n sx.n)∧w'.cell? (H X5 0 C)=D (.slice (D (H bA 0 C)) y.tabs.length c)∧w'.cell? (H bA k C)=D (o B tn)))
  have hq0:=hq.drew;have xq0:=hx.drew;go_upto_region 9 with fail;go_cut [] from 43 to 58 (fun wx=>N wx (dj q gw gi vk (σ.setW tn j 0) (ct 3 1 (.slice G g.length gc) g.length (g.map (o B))*(aa X5 #[.slice (D (H bA 0 C)) y.tabs.length c,J y.e.there,J y.e.leaf,o B y.e.rights,J y.e.used,J y.e.dirty,o B y.e.frame,o B y.lev] 146*(ao (.slice (D (H bA 0 C)) y.tabs.length c) y.tabs*(aa X0 #[o B 0,o B 0,o B 0,o B 0] 39*(aa X2 #[o B fm.page,o B fm.size,o B fm.frame,o B fm.rights] 39*QQ))))))∧bf w wx)
  case first=>
   go_region_held3 (fun w'=>w'.cell? (H q 0 C)=D (.slice (D (H gw 0 C)) σ.n σ.n)∧w'.cell? (H X5 0 C)=D (.slice (D (H bA 0 C)) y.tabs.length c)∧w'.cell? (H bA k C)=D (o B tn)) (first|(with_reducible exact HK.out _ σ hq0)|(with_reducible exact HK.out _ σ hw5)|(exact HK.out _ (σ.setW tn j 0) (dr (k:=tn) (i:=j) hw5 hj8n 0))|go_keep) (first|(go_at_call 120;(with_reducible refine(HI2.out _).mono ?_);rintro e2 w5 ⟨rfl,b5⟩;have hw5:=hq0.below b5;have xw5:=xq0.below b5;have y0:=ch hw5 htn hj8n;have y1:=hw5.right.free (tn*8+j);have y2:=hw5.right.lt))
   all_goals
    go_wp2_with fail
    go_meet
    case rel=>exact⟨dr (k:=tn) (i:=j) hw5 hj8n 0,xw5.set _ _⟩
  case rest=>
  clear hq hq0 xq0 hm hx HI2 h3k hw3;obtain⟨h9,x9⟩:=hcut;have HZ8:=I (qM (s:=σ.setW tn j 0) (t:=tn));have htn1:tn< (σ.setW tn j 0).n :=htn;obtain⟨d0,d1,d2⟩:=HK.out _ _ h9;have e0:wc.cell? ⟨gw,tn*8,C⟩=D (o vU ((σ.setW tn j 0).wd tn 0)):=ch h9 htn1 (i:=0) (by omega);have e1:=ch h9 htn1 (i:=1) (by omega);have e2:=ch h9 htn1 (i:=2) (by omega);have e3:=ch h9 htn1 (i:=3) (by omega);have e4:=ch h9 htn1 (i:=4) (by omega);have e5:=ch h9 htn1 (i:=5) (by omega);have e6:=ch h9 htn1 (i:=6) (by omega);have e7:=ch h9 htn1 (i:=7) (by omega);have HNS:=I (show(σ.setW tn j 0).n =s.n from HCU.out.2.2.1);have htz1:(tn:Int)< ((σ.setW tn j 0).n :Int):=htnz;generalize σ.setW tn j 0=σ1 at*
  have HW:=I (fun(w':V) (h:N w' (dj q gw gi vk σ1 (ct 3 1 (.slice G g.length gc) g.length (g.map (o B))*(aa X5 #[.slice (D (H bA 0 C)) y.tabs.length c,J y.e.there,J y.e.leaf,o B y.e.rights,J y.e.used,J y.e.dirty,o B y.e.frame,o B y.lev] 146*(ao (.slice (D (H bA 0 C)) y.tabs.length c) y.tabs*(aa X0 #[o B 0,o B 0,o B 0,o B 0] 39*(aa X2 #[o B fm.page,o B fm.size,o B fm.frame,o B fm.rights] 39*QQ)))))))=>cV h);have ql:=h9.lt;have gl:=h9.right.lt;have xl:=h9.right.right.r3.lt;have bl:bA<wc.heap.size:=by
   obtain⟨b1,e1,l1,_⟩:=da h9.right.right.right.r3 (k:=k) (by have:=HN.out;omega);injection e1 with e1;injection e1 with e1
   rw[e1];exact l1
  generalize σ1.wd tn 0=v0 at*
  generalize σ1.wd tn 1=v1 at*
  generalize σ1.wd tn 2=v2 at*
  generalize σ1.wd tn 3=v3 at*
  generalize σ1.wd tn 4=v4 at*
  generalize σ1.wd tn 5=v5 at*
  generalize σ1.wd tn 6=v6 at*
  generalize σ1.wd tn 7=v7 at*
  have f0:=ae d0;have f1:=ae d1;have f2:=ae d2;have a0:=ae e0;have a1:=ae e1;have a2:=ae e2;have a3:=ae e3;have a4:=ae e4;have a5:=ae e5;have a6:=ae e6;have a7:=ae e7;clear d0 d1 d2 e0 e1 e2 e3 e4 e5 e6 e7 HK;go_upto_region 10 with fail;go_cut [74] from 58 to 75 (fun s74 wx=>s74=J (decide (k=0)|| !fx σ1 (tn:Int))∧N wx (dj q gw gi vk σ1 (ct 3 1 (.slice G g.length gc) g.length (g.map (o B))*(aa X5 #[.slice (D (H bA 0 C)) y.tabs.length c,J y.e.there,J y.e.leaf,o B y.e.rights,J y.e.used,J y.e.dirty,o B y.e.frame,o B y.lev] 146*(ao (.slice (D (H bA 0 C)) y.tabs.length c) y.tabs*(aa X0 #[o B 0,o B 0,o B 0,o B 0] 39*(aa X2 #[o B fm.page,o B fm.size,o B fm.frame,o B fm.rights] 39*QQ))))))∧bf w wx)
  case first=>
   by_cases hz:k=0
   ·have hkz:((k:Int)==0)=O:=by simpa using hz
    have HKZ:=I hz;clear hz;refine au (by kernel_rfl) (by kernel_rfl) ?_;repeat(first|go_big_quiet_step (fail)|quiet_step (fail))
    refine wpQuiet_nil ?_;intro _ hw';obtain⟨uq,hw''⟩:=hw';subst hw'';have h10:=h9.via uq;have x10:=x9.below (aE _ uq);generalize gU wc uq=w10 at*
    go_wp2_with fail
    go_meet
    case rel=>exact⟨by simp[HKZ.out],h10,x10⟩
   ·have hkz:((k:Int)==0)=F:=by simpa using hz
    have HKZ:=I hz;clear hz;refine au (by kernel_rfl) (by kernel_rfl) ?_;repeat(first|go_big_quiet_step (fail)|quiet_step (fail))
    refine wpQuiet_nil ?_;intro _ hw';obtain⟨uq,hw''⟩:=hw';subst hw'';have h10:=h9.via uq;have x10:=x9.below (aE _ uq);generalize gU wc uq=w10 at*
    go_wp2_with fail
    go_meet
    case rel=>exact⟨by rw[←HZ8.out];simp[HKZ.out],h10,x10⟩
  case rest=>
  clear h9 x9 f0 f1 f2 a0 a1 a2 a3 a4 a5 a6 a7 ql gl xl bl HZ8;obtain⟨rfl,h10,x10⟩:=hcut;have h11:=HW.out _ h10;have hz':N _ (aa X0 #[o B 0,o B 0,o B 0,o B 0] 39*(aa X2 #[o B fm.page,o B fm.size,o B fm.frame,o B fm.rights] 39*(ct 3 1 (.slice G g.length gc) g.length (g.map (o B))*(az q σ1*(aa X5 #[.slice (D (H bA 0 C)) y.tabs.length c,J y.e.there,J y.e.leaf,o B y.e.rights,J y.e.used,J y.e.dirty,o B y.e.frame,o B y.lev] 146*(ao (.slice (D (H bA 0 C)) y.tabs.length c) y.tabs*QQ)))))):=h11.eq (by ac_rfl);clear h10 HW;by_cases hstop:k=0∨fx σ1 (tn:Int)=F
  ·have hcut:=HZ.out hstop
   have hF:=HCU.out;rw[hcut] at hF;have HF:=I (show rs=σ1∧rg=g from⟨hF.1,by rw[hF.2.1];simp⟩);have hb:(decide (k=0)|| !fx σ1 (tn:Int))=O:=by rcases hstop with h|h<;>simp[h]
   rw[hb];clear hcut hF hstop hb HCU HZ HM;obtain⟨m0,m1,m2,m3⟩:=hz'.right.cells4;have ml:=hz'.right.lt;obtain⟨r0,r1,r2,r3⟩:=hz'.cells4;obtain⟨q0,q1,q2,q3⟩:=hz'.frees4;have rl:=hz'.lt;go_wp2_with fail
   refine am (fun wz=>N wz (aa X0 #[o B fm.page,o B fm.size,o B fm.frame,o B fm.rights] 39*(aa X2 #[o B fm.page,o B fm.size,o B fm.frame,o B fm.rights] 39*(ct 3 1 (.slice G g.length gc) g.length (g.map (o B))*(az q σ1*(aa X5 #[.slice (D (H bA 0 C)) y.tabs.length c,J y.e.there,J y.e.leaf,o B y.e.rights,J y.e.used,J y.e.dirty,o B y.e.frame,o B y.lev] 146*(ao (.slice (D (H bA 0 C)) y.tabs.length c) y.tabs*QQ))))))∧bf w wz) ⟨hz'.set4 _ _ _ _,ah⟩ ?_;rintro wz ⟨hw,xw⟩;have hw2:N wz (aa X0 #[o B fm.page,o B fm.size,o B fm.frame,o B fm.rights] 39*(aa X2 #[o B fm.page,o B fm.size,o B fm.frame,o B fm.rights] 39*(aa X5 #[.slice (D (H bA 0 C)) y.tabs.length c,J y.e.there,J y.e.leaf,o B y.e.rights,J y.e.used,J y.e.dirty,o B y.e.frame,o B y.lev] 146*(ao (.slice (D (H bA 0 C)) y.tabs.length c) y.tabs*(aa (X2+1) #[J fe.there,J fe.leaf,o B fe.rights,J fe.used,J fe.dirty,o B fe.frame] 70*(ao (.slice G g.length gc) g*(az q σ1*R))))))):=by
    have:=hw;rw[HQQ.out] at this;unfold ao at this⊢;exact this.eq (by ac_rfl)
   exact S (bg results114 rfl rfl rfl (bh hw)) rfl ⟨G,g.length,gc,rfl,by rw[HF.out.1,HF.out.2];exact hw2.right.right.r3,xw⟩
  ·have hka2:fx σ1 (tn:Int)=O:=by
    cases h:fx σ1 (tn:Int) with
    |true=>rfl
    |false=>exact absurd (.inr h) hstop
   have hka:k≠0∧fx σ1 (tn:Int)=O:=⟨fun h=>hstop (.inl h),hka2⟩;have hb:(decide (k=0)|| !fx σ1 (tn:Int))=F:=by simp[hka.1,hka.2]
   rw[hb];obtain⟨i,hi⟩:∃i,k=i+1:=⟨k - 1,by omega⟩;have hmore:=HM.out i hi hka.2;have hF:=HCU.out;rw[hmore] at hF;have HCU':=I (show rs=(ed p y.tabs i σ1).1∧rg=(g++[(tn:Int)])++(ed p y.tabs i σ1).2∧σ1.n=s.n∧(g++[(tn:Int)]).length +i≤n from⟨hF.1,by rw[hF.2.1];simp,HNS.out,by simp;have:=hF.2.2.2;omega⟩);have hki1:(k:Int) - 1=(i:Int):=by omega
   have hwi:IntKind.i64.wrap (i:Int)=(i:Int):=by rw[bb];omega
   have HI:=I hi;have hgl:g.length≤4:=by have:=hF.2.2.2;omega
   clear hmore hF hb HCU HZ HM hka hka2 hstop hi;obtain⟨b1,eb,lb,qb⟩:=da h11.r3 (k:=k) (by have:=HN.out;omega);injection eb with eb;injection eb with eb
   subst eb;rw[(T.1 HTKk.out).2] at qb;have k0:=h11.right.right.cell 0;have kl:=h11.right.right.lt;have h12:N _ (ct 3 1 (.slice G g.length gc) g.length (g.map (o B))*(az q σ1*(aa X5 #[.slice (D (H bA 0 C)) y.tabs.length c,J y.e.there,J y.e.leaf,o B y.e.rights,J y.e.used,J y.e.dirty,o B y.e.frame,o B y.lev] 146*(ao (.slice (D (H bA 0 C)) y.tabs.length c) y.tabs*(aa X0 #[o B 0,o B 0,o B 0,o B 0] 39*(aa X2 #[o B fm.page,o B fm.size,o B fm.frame,o B fm.rights] 39*QQ)))))):=h11.eq (by ac_rfl);have hrow:=h12.alloc (.cells #[o B (tn:Int)] 3);go_wp2_with(first|(at_builtin;refine aV rfl _ _ 45 rfl underlying45 fK _ _ _ rfl hrow (H _ 0 C) 1 1 [o B (tn:Int)] rfl rfl (dU _ (o B (tn:Int)) 3) ?c1 ?c2 ?c3 ?_))
   case c1=>first|rfl|(intro u hu;simp at hu;subst hu;rfl)
   case c2=>unfold maxLen;omega
   case c3=>omega
   intro v' w14 h14 x14;obtain⟨G',gc',rfl⟩:=h14.rowForm;go_wp2_with fail
   go_roundw
   case rel=>exact⟨i,σ1,g++[(tn:Int)],G',gc',by have:=HI.out;omega,by first|rfl|go_num,by simp,HCU',by simp only[b4,List.length_singleton,List.map_append,List.map_cons,List.map_nil];exact h14,(x10.alloc _).trans x14⟩
   case measure=>have:=HI.out;simp[intOf];omega
theorem oE(ym:Nat)(s:Ms)(cs:List Cr)(td:Mp)(wt:Nat→Bool)(gn:List Int)(x:Stp)(hs:s.Ok)(o1:x.kind≠1):
  ∃(cd:Int) (mp:Mp) (g:List Int) (sA:Ms),(Sc.change ⟨s,cs,td,wt,F,gn⟩ x=if cd=0 then(Sc.post ⟨s,cs,td,wt,F,gn⟩ sA mp g,.no 0) else(⟨s,cs,td,wt,F,gn⟩,.no cd))∧(cd≠0→sA=s)∧
   (x.kind=2→∀R w,N w (az ym s*R)→bd prog 114 #[.pointer (D (H ym 0 C)),o B 0,o B x.m.page] w
    (fun e w'=>∃A n c,cR (.tuple #[.agg #[o B mp.page,o B mp.size,o B mp.frame,o B mp.rights],.slice A n c,o B cd]) (ao (.slice A n c) g*(az ym sA*R)) w e w'))∧
   (x.kind≠2→g=[]∧∀R w,N w (az ym s*R)→bd prog 115 #[.pointer (D (H ym 0 C)),o B 0,o B x.m.page,o B x.m.rights] w
    (cR (.tuple #[.agg #[o B mp.page,o B mp.size,o B mp.frame,o B mp.rights],o B cd]) (az ym sA*R) w)):=by
 by_cases o2:x.kind=2
 ·refine⟨bu s 0 x.m.page,bK s 0 x.m.page,fy s 0 x.m.page,dm s 0 x.m.page,?_,fun h=> ?_,fun _ R w h=>Ap ym s 0 x.m.page R w hs h,fun h=>absurd o2 h⟩
  ·unfold Sc.change
   rw[if_neg (by simp),if_neg o1,if_pos o2]
  ·unfold dm
   rw[if_neg h]
 ·refine⟨iQ s 0 x.m.page x.m.rights,kU s 0 x.m.page x.m.rights,[],gX s 0 x.m.page x.m.rights,?_,fun h=> ?_,fun h=>absurd h o2,fun _=>⟨rfl,fun R w h=>AS ym s 0 x.m.page x.m.rights R w hs h⟩⟩
  ·unfold Sc.change
   rw[if_neg (by simp),if_neg o1,if_neg o2]
  ·unfold gX
   rw[if_neg h]
set_option maxHeartbeats 8000000 in
theorem wo(b:Nat)(σ:Sc)(x:Stp)(hok:σ.Ok)(R:ab)(w:V)(h:N w (cj b σ*R)):
  bd prog 65 #[.pointer (D (H b 0 C)),.agg #[o B x.kind,o B x.core,o B x.m.page,o B x.m.size,o B x.m.frame,o B x.m.rights,o B x.a.page,o B x.a.kind,J x.a.user]] w (cR (σ.change x).2.val (cj b (σ.change x).1*R) w):=by
 obtain⟨s,cs,td,wt,bz,gn⟩:=σ;obtain⟨y,hy,h⟩:=fu h;have hso:s.Ok:=hok.s;have HPO:=I (fun(s':Ms) (m:Mp) (g:List Int) (G:Option b0) (gn' gd:Nat) R w h=>zg b ⟨s',cs,td,wt,bz,gn⟩ m g G gn' gd hok.few R w h);have HS:=I (fun(s':Ms) (w':V) (R':ab) (h:N w' (fC b ⟨s',cs,td,wt,bz,gn⟩ y R'))=>il (σ:=⟨s',cs,td,wt,bz,gn⟩) hy h);unfold fC at h HS;dsimp only at*
 have h1:N _ (az y.m s*(aa b #[.pointer (D (H y.m 0 C)),o B 0,.slice y.A y.ps.length y.c,J bz,.slice y.G gn.length y.d,o B td.page,o B td.size,o B td.frame,o B td.rights,.slice (D (H y.gw 0 C)) y.ps.length y.ps.length] 52*(aa w.heap.size #[o B x.kind,o B x.core,o B x.m.page,o B x.m.size,o B x.m.frame,o B x.m.rights,o B x.a.page,o B x.a.kind,J x.a.user] 43*((bH (.slice y.A y.ps.length y.c) y.ps*(ao (.slice y.G gn.length y.d) gn*(aa y.gw (bo y.ps.length (bJ wt)) 4*aR y.ps cs)))*(aa (w.heap.size+1) #[o B 0,J F,o B 0,o B 0,o B 0,J F] 36*R))))):=((h.new #[o B x.kind,o B x.core,o B x.m.page,o B x.m.size,o B x.m.frame,o B x.m.rights,o B x.a.page,o B x.a.kind,J x.a.user] 43).new #[o B 0,J F,o B 0,o B 0,o B 0,J F] 36).eq (by simp only[U];ac_rfl);have x1:=((ax w).alloc (.cells #[o B x.kind,o B x.core,o B x.m.page,o B x.m.size,o B x.m.frame,o B x.m.rights,o B x.a.page,o B x.a.kind,J x.a.user] 43)).alloc (.cells #[o B 0,J F,o B 0,o B 0,o B 0,J F] 36);have HS2:=I (fun(s':Ms) (w':V) (R':ab) (h:N w' (az y.m s'*(aa b #[.pointer (D (H y.m 0 C)),o B 0,.slice y.A y.ps.length y.c,J bz,.slice y.G gn.length y.d,o B td.page,o B td.size,o B td.frame,o B td.rights,.slice (D (H y.gw 0 C)) y.ps.length y.ps.length] 52*((bH (.slice y.A y.ps.length y.c) y.ps*(ao (.slice y.G gn.length y.d) gn*(aa y.gw (bo y.ps.length (bJ wt)) 4*aR y.ps cs)))*R'))))=>HS.out s' w' R' (h.eq (by ac_rfl)));clear h hok hy HS;obtain⟨c0,c1,c2,c3,c4,c5,c6,c7,c8,c9⟩:=h1.right.cells10;have cl:=h1.right.lt;obtain⟨k0,k1,k2,k3,k4,k5,k6,k7,k8⟩:=h1.right.right.cells9;have kl:=h1.right.right.lt;cases bz with
 |true=>
  have e:Sc.change ⟨s,cs,td,wt,O,gn⟩ x=(⟨s,cs,td,wt,O,gn⟩,.no 8):=by unfold Sc.change;rw[if_pos rfl]
  rw[e];have HS1:=I (HS2.out s);clear e HPO HS2 k0 k1 k2 k3 k4 k5 k6 k7 k8 kl;have h2:N _ (aa (w.heap.size+1) #[o B 0,J F,o B 0,o B 0,o B 0,J F] 36*(az y.m s*(aa b #[.pointer (D (H y.m 0 C)),o B 0,.slice y.A y.ps.length y.c,J O,.slice y.G gn.length y.d,o B td.page,o B td.size,o B td.frame,o B td.rights,.slice (D (H y.gw 0 C)) y.ps.length y.ps.length] 52*(aa w.heap.size #[o B x.kind,o B x.core,o B x.m.page,o B x.m.size,o B x.m.frame,o B x.m.rights,o B x.a.page,o B x.a.kind,J x.a.user] 43*((bH (.slice y.A y.ps.length y.c) y.ps*(ao (.slice y.G gn.length y.d) gn*(aa y.gw (bo y.ps.length (bJ wt)) 4*aR y.ps cs)))*R))))):=h1.eq (by ac_rfl);clear h1;go_enter func65,ntmps65;go_upto_region 2 with fail;generalize (w.alloc (.cells #[o B x.kind,o B x.core,o B x.m.page,o B x.m.size,o B x.m.frame,o B x.m.rights,o B x.a.page,o B x.a.kind,J x.a.user] 43)).alloc (.cells #[o B 0,J F,o B 0,o B 0,o B 0,J F] 36)=w1 at*
  generalize w.heap.size=X at*
  generalize X+1=E at*
  clear c0 c1 c2 c3 c4 c5 c6 c7 c8 c9 cl;obtain⟨e0,e1,e2,e3,e4,e5⟩:=h2.cells6;obtain⟨f0,f1,f2,f3,f4,f5⟩:=h2.frees6;have el:=h2.lt;go_wp2_with fail
  refine am (fun wz=>N wz (aa E #[o B 8,J F,o B 0,o B 0,o B 0,J F] 36*(az y.m s*(aa b #[.pointer (D (H y.m 0 C)),o B 0,.slice y.A y.ps.length y.c,J O,.slice y.G gn.length y.d,o B td.page,o B td.size,o B td.frame,o B td.rights,.slice (D (H y.gw 0 C)) y.ps.length y.ps.length] 52*(aa X #[o B x.kind,o B x.core,o B x.m.page,o B x.m.size,o B x.m.frame,o B x.m.rights,o B x.a.page,o B x.a.kind,J x.a.user] 43*((bH (.slice y.A y.ps.length y.c) y.ps*(ao (.slice y.G gn.length y.d) gn*(aa y.gw (bo y.ps.length (bJ wt)) 4*aR y.ps cs)))*R)))))∧bf w wz) ⟨h2.set6 _ _ _ _ _ _,ah⟩ ?_;rintro wz ⟨hz,xz⟩;exact S (aG results65 rfl (aM hz)) rfl ⟨rfl,(HS1.out _ (aa X #[o B x.kind,o B x.core,o B x.m.page,o B x.m.size,o B x.m.frame,o B x.m.rights,o B x.a.page,o B x.a.kind,J x.a.user] 43*R) (hz.right.eq (by ac_rfl))).p2.right,xz⟩
 |false=>
  have HK:=I (fun(w':V) (X:Nat) (P Q:ab) (h:N w' (P*(aa b #[.pointer (D (H y.m 0 C)),o B 0,.slice y.A y.ps.length y.c,J F,.slice y.G gn.length y.d,o B td.page,o B td.size,o B td.frame,o B td.rights,.slice (D (H y.gw 0 C)) y.ps.length y.ps.length] 52*(aa X #[o B x.kind,o B x.core,o B x.m.page,o B x.m.size,o B x.m.frame,o B x.m.rights,o B x.a.page,o B x.a.kind,J x.a.user] 43*Q))))=>(⟨h.right.cell 0,h.right.cell 1,h.right.right.cell 2,h.right.right.cell 3,h.right.right.cell 4,h.right.right.cell 5⟩:w'.cell? (H b 0 C)=D (.pointer (D (H y.m 0 C)))∧w'.cell? (H b 1 C)=D (o B 0)∧w'.cell? (H X 2 C)=D (o B x.m.page)∧w'.cell? (H X 3 C)=D (o B x.m.size)∧w'.cell? (H X 4 C)=D (o B x.m.frame)∧w'.cell? (H X 5 C)=D (o B x.m.rights)));by_cases o1:x.kind=1
  ·have e:Sc.change ⟨s,cs,td,wt,F,gn⟩ x=(⟨dR s 0 x.m,cs,td,wt,F,gn⟩,⟨cU s 0 x.m,F,An.zero,decide (cU s 0 x.m=0)⟩):=by unfold Sc.change;rw[if_neg (by simp),if_pos o1]
   rw[e];have HS1:=I (HS2.out (dR s 0 x.m));have HI:=I (fun R w h=>Ao y.m s 0 x.m R w hso h);have o1':(x.kind==1)=O:=by simpa using o1
   clear e HPO HS2 hso o1;generalize cU s 0 x.m=cd at*
   generalize dR s 0 x.m=sA at*
   have HEV:=I (show Ev.val ⟨cd,F,An.zero,decide (cd=0)⟩=Value.agg #[o B cd,J F,o B 0,o B 0,o B 0,J (cd==0)] from by rw[show decide (cd=0)=(cd==0) from by by_cases h:cd=0<;>simp[h]];rfl);rw[HEV.out];clear HEV;obtain⟨cz,hcz⟩:∃cz,(cd==0)=cz:=⟨_,rfl⟩;rw[hcz];go_enter func65,ntmps65;go_upto_region 4 with fail;generalize (w.alloc (.cells #[o B x.kind,o B x.core,o B x.m.page,o B x.m.size,o B x.m.frame,o B x.m.rights,o B x.a.page,o B x.a.kind,J x.a.user] 43)).alloc (.cells #[o B 0,J F,o B 0,o B 0,o B 0,J F] 36)=w1 at*
   generalize w.heap.size=X at*
   generalize X+1=E at*
   clear c0 c1 c2 c3 c4 c5 c6 c7 c8 c9 k0 k1 k2 k3 k4 k5 k6 k7 k8;have hd:=h1.drew;have xd:=x1.drew;go_cut [5] from 17 to 27 (fun s5 wx=>s5=o B cd∧N wx (az y.m sA*(aa b #[.pointer (D (H y.m 0 C)),o B 0,.slice y.A y.ps.length y.c,J F,.slice y.G gn.length y.d,o B td.page,o B td.size,o B td.frame,o B td.rights,.slice (D (H y.gw 0 C)) y.ps.length y.ps.length] 52*(aa X #[o B x.kind,o B x.core,o B x.m.page,o B x.m.size,o B x.m.frame,o B x.m.rights,o B x.a.page,o B x.a.kind,J x.a.user] 43*((bH (.slice y.A y.ps.length y.c) y.ps*(ao (.slice y.G gn.length y.d) gn*(aa y.gw (bo y.ps.length (bJ wt)) 4*aR y.ps cs)))*(aa E #[o B 0,J F,o B 0,o B 0,o B 0,J F] 36*R)))))∧bf w wx)
   case first=>
    clear HS1;go_region_held3 (fun w'=>w'.cell? (H b 0 C)=D (.pointer (D (H y.m 0 C)))∧w'.cell? (H b 1 C)=D (o B 0)∧w'.cell? (H X 2 C)=D (o B x.m.page)∧w'.cell? (H X 3 C)=D (o B x.m.size)∧w'.cell? (H X 4 C)=D (o B x.m.frame)∧w'.cell? (H X 5 C)=D (o B x.m.rights)) (first|(with_reducible exact HK.out _ _ _ _ hd)|(with_reducible exact HK.out _ _ _ _ h5)|go_keep) (first|(go_at_call 113;(with_reducible refine(HI.out _ _ hd).mono ?_);rintro e w5 ⟨rfl,h5,x5⟩))
    all_goals
     go_wp2_with fail
     go_meet
     case rel=>exact⟨rfl,h5,xd.trans x5⟩
   case rest=>
    clear hd xd HI HK cl kl h1 x1;obtain⟨rfl,h2,x2⟩:=hcut;have h3:N _ (aa E #[o B 0,J F,o B 0,o B 0,o B 0,J F] 36*(az y.m sA*(aa b #[.pointer (D (H y.m 0 C)),o B 0,.slice y.A y.ps.length y.c,J F,.slice y.G gn.length y.d,o B td.page,o B td.size,o B td.frame,o B td.rights,.slice (D (H y.gw 0 C)) y.ps.length y.ps.length] 52*(aa X #[o B x.kind,o B x.core,o B x.m.page,o B x.m.size,o B x.m.frame,o B x.m.rights,o B x.a.page,o B x.a.kind,J x.a.user] 43*((bH (.slice y.A y.ps.length y.c) y.ps*(ao (.slice y.G gn.length y.d) gn*(aa y.gw (bo y.ps.length (bJ wt)) 4*aR y.ps cs)))*R))))):=h2.eq (by ac_rfl);obtain⟨e0,e1,e2,e3,e4,e5⟩:=h3.cells6;obtain⟨f0,f1,f2,f3,f4,f5⟩:=h3.frees6;have el:=h3.lt;clear h2;go_wp2_with fail
    refine am (fun wz=>N wz (aa E #[o B cd,J F,o B 0,o B 0,o B 0,J cz] 36*(az y.m sA*(aa b #[.pointer (D (H y.m 0 C)),o B 0,.slice y.A y.ps.length y.c,J F,.slice y.G gn.length y.d,o B td.page,o B td.size,o B td.frame,o B td.rights,.slice (D (H y.gw 0 C)) y.ps.length y.ps.length] 52*(aa X #[o B x.kind,o B x.core,o B x.m.page,o B x.m.size,o B x.m.frame,o B x.m.rights,o B x.a.page,o B x.a.kind,J x.a.user] 43*((bH (.slice y.A y.ps.length y.c) y.ps*(ao (.slice y.G gn.length y.d) gn*(aa y.gw (bo y.ps.length (bJ wt)) 4*aR y.ps cs)))*R)))))∧bf w wz) ⟨h3.set6 _ _ _ _ _ _,ah⟩ ?_;rintro wz ⟨hz,xz⟩;exact S (aG results65 rfl (aM hz)) rfl ⟨rfl,(HS1.out _ (aa X #[o B x.kind,o B x.core,o B x.m.page,o B x.m.size,o B x.m.frame,o B x.m.rights,o B x.a.page,o B x.a.kind,J x.a.user] 43*R) (hz.right.eq (by ac_rfl))).p2.right,xz⟩
  ·obtain⟨cd,mp,g,sA,e,hsame,HR2,HR3⟩:=oE y.m s cs td wt gn x hso o1
   have HR2:=I HR2;have HR3:=I HR3;have HSM:=I hsame;have hk1:(x.kind==1)=F:=by simpa using o1
   obtain⟨k2b,hk2b⟩:∃z,(x.kind==2)=z:=⟨_,rfl⟩;rw[e];clear e hso o1 hsame;have h2:N _ (aa (w.heap.size+2) #[o B 0,o B 0,o B 0,o B 0] 39*(az y.m s*(aa b #[.pointer (D (H y.m 0 C)),o B 0,.slice y.A y.ps.length y.c,J F,.slice y.G gn.length y.d,o B td.page,o B td.size,o B td.frame,o B td.rights,.slice (D (H y.gw 0 C)) y.ps.length y.ps.length] 52*(aa w.heap.size #[o B x.kind,o B x.core,o B x.m.page,o B x.m.size,o B x.m.frame,o B x.m.rights,o B x.a.page,o B x.a.kind,J x.a.user] 43*((bH (.slice y.A y.ps.length y.c) y.ps*(ao (.slice y.G gn.length y.d) gn*(aa y.gw (bo y.ps.length (bJ wt)) 4*aR y.ps cs)))*(aa (w.heap.size+1) #[o B 0,J F,o B 0,o B 0,o B 0,J F] 36*R)))))):=(h1.new #[o B 0,o B 0,o B 0,o B 0] 39).eq (by simp only[U]);have x2:=x1.alloc (.cells #[o B 0,o B 0,o B 0,o B 0] 39);have HCD:Hid ((if cd=0 then(Sc.post ⟨s,cs,td,wt,F,gn⟩ sA mp g,Ev.no 0) else((⟨s,cs,td,wt,F,gn⟩:Sc),Ev.no cd))=(if cd=0 then Sc.post ⟨s,cs,td,wt,F,gn⟩ sA mp g else(⟨s,cs,td,wt,F,gn⟩:Sc),Ev.no cd)):=I (by split<;>simp_all);rw[HCD.out];clear HCD;obtain⟨σ2,hσ2⟩:∃σ2,(if cd=0 then Sc.post ⟨s,cs,td,wt,F,gn⟩ sA mp g else(⟨s,cs,td,wt,F,gn⟩:Sc))=σ2:=⟨_,rfl⟩;have HSG:=I hσ2;rw[hσ2];unfold Ev.val Ev.no An.zero;dsimp only;clear hσ2;go_enter func65,ntmps65;go_upto_region 7 with fail;generalize ((w.alloc (.cells #[o B x.kind,o B x.core,o B x.m.page,o B x.m.size,o B x.m.frame,o B x.m.rights,o B x.a.page,o B x.a.kind,J x.a.user] 43)).alloc (.cells #[o B 0,J F,o B 0,o B 0,o B 0,J F] 36)).alloc (.cells #[o B 0,o B 0,o B 0,o B 0] 39)=w1 at*
   generalize w.heap.size+2=M at*
   generalize w.heap.size=X at*
   generalize X+1=E at*
   clear c0 c1 c2 c3 c4 c5 c6 c7 c8 c9 k1 k2 k3 k4 k5 k6 k7 k8 h1 x1;clear k0 kl cl;have k0:=h2.r3.cell 0;have kl:=h2.r3.lt;have h3:N _ (az y.m s*(aa b #[.pointer (D (H y.m 0 C)),o B 0,.slice y.A y.ps.length y.c,J F,.slice y.G gn.length y.d,o B td.page,o B td.size,o B td.frame,o B td.rights,.slice (D (H y.gw 0 C)) y.ps.length y.ps.length] 52*(aa X #[o B x.kind,o B x.core,o B x.m.page,o B x.m.size,o B x.m.frame,o B x.m.rights,o B x.a.page,o B x.a.kind,J x.a.user] 43*((bH (.slice y.A y.ps.length y.c) y.ps*(ao (.slice y.G gn.length y.d) gn*(aa y.gw (bo y.ps.length (bJ wt)) 4*aR y.ps cs)))*(aa E #[o B 0,J F,o B 0,o B 0,o B 0,J F] 36*(aa M #[o B 0,o B 0,o B 0,o B 0] 39*R)))))):=h2.eq (by ac_rfl);clear h2;go_upto_if 34 with fail;go_cut [7,8] from 35 to 68 (fun s7 s8 wx=>∃A n c,s7= .slice A n c∧s8=o B cd∧N wx (aa M #[o B mp.page,o B mp.size,o B mp.frame,o B mp.rights] 39*(ao (.slice A n c) g*(az y.m sA*(aa b #[.pointer (D (H y.m 0 C)),o B 0,.slice y.A y.ps.length y.c,J F,.slice y.G gn.length y.d,o B td.page,o B td.size,o B td.frame,o B td.rights,.slice (D (H y.gw 0 C)) y.ps.length y.ps.length] 52*(aa X #[o B x.kind,o B x.core,o B x.m.page,o B x.m.size,o B x.m.frame,o B x.m.rights,o B x.a.page,o B x.a.kind,J x.a.user] 43*((bH (.slice y.A y.ps.length y.c) y.ps*(ao (.slice y.G gn.length y.d) gn*(aa y.gw (bo y.ps.length (bJ wt)) 4*aR y.ps cs)))*(aa E #[o B 0,J F,o B 0,o B 0,o B 0,J F] 36*R)))))))∧bf w wx)
   case first=>
    clear HPO HS2 HSM HSG;have hd:=h3.drew;have xd:=x2.drew;obtain⟨q0,q1,q2,q3⟩:=(h3.eq (show _=aa M #[o B 0,o B 0,o B 0,o B 0] 39*(az y.m s*(aa b #[.pointer (D (H y.m 0 C)),o B 0,.slice y.A y.ps.length y.c,J F,.slice y.G gn.length y.d,o B td.page,o B td.size,o B td.frame,o B td.rights,.slice (D (H y.gw 0 C)) y.ps.length y.ps.length] 52*(aa X #[o B x.kind,o B x.core,o B x.m.page,o B x.m.size,o B x.m.frame,o B x.m.rights,o B x.a.page,o B x.a.kind,J x.a.user] 43*((bH (.slice y.A y.ps.length y.c) y.ps*(ao (.slice y.G gn.length y.d) gn*(aa y.gw (bo y.ps.length (bJ wt)) 4*aR y.ps cs)))*(aa E #[o B 0,J F,o B 0,o B 0,o B 0,J F] 36*R))))) by ac_rfl)).cells4;cases k2b with
    |true=>
     have o2:x.kind=2:=by simpa using hk2b
     have HR:=I (HR2.out o2);clear HR2 HR3 hk2b o2 k0;go_wp2_with fail
     go_region_held3 (fun w'=>w'.cell? (H b 0 C)=D (.pointer (D (H y.m 0 C)))∧w'.cell? (H b 1 C)=D (o B 0)∧w'.cell? (H X 2 C)=D (o B x.m.page)∧w'.cell? (H X 3 C)=D (o B x.m.size)∧w'.cell? (H X 4 C)=D (o B x.m.frame)∧w'.cell? (H X 5 C)=D (o B x.m.rights)) (first|(with_reducible exact HK.out _ _ _ _ hd)|(with_reducible exact HK.out _ _ _ _ h6)|(with_reducible exact HK.out _ _ _ _ h8)|go_keep) (first|(go_at_call 114;(with_reducible refine(HR.out _ _ hd).mono ?_);rintro e w5 ⟨A,n,c,rfl,h5,x5⟩;have h6:N w5 ((ao (.slice A n c) g*az y.m sA)*(aa b #[.pointer (D (H y.m 0 C)),o B 0,.slice y.A y.ps.length y.c,J F,.slice y.G gn.length y.d,o B td.page,o B td.size,o B td.frame,o B td.rights,.slice (D (H y.gw 0 C)) y.ps.length y.ps.length] 52*(aa X #[o B x.kind,o B x.core,o B x.m.page,o B x.m.size,o B x.m.frame,o B x.m.rights,o B x.a.page,o B x.a.kind,J x.a.user] 43*((bH (.slice y.A y.ps.length y.c) y.ps*(ao (.slice y.G gn.length y.d) gn*(aa y.gw (bo y.ps.length (bJ wt)) 4*aR y.ps cs)))*(aa E #[o B 0,J F,o B 0,o B 0,o B 0,J F] 36*(aa M #[o B 0,o B 0,o B 0,o B 0] 39*R)))))):=h5.eq (by ac_rfl);have h7:N w5 (aa M #[o B 0,o B 0,o B 0,o B 0] 39*((ao (.slice A n c) g*az y.m sA)*(aa b #[.pointer (D (H y.m 0 C)),o B 0,.slice y.A y.ps.length y.c,J F,.slice y.G gn.length y.d,o B td.page,o B td.size,o B td.frame,o B td.rights,.slice (D (H y.gw 0 C)) y.ps.length y.ps.length] 52*(aa X #[o B x.kind,o B x.core,o B x.m.page,o B x.m.size,o B x.m.frame,o B x.m.rights,o B x.a.page,o B x.a.kind,J x.a.user] 43*((bH (.slice y.A y.ps.length y.c) y.ps*(ao (.slice y.G gn.length y.d) gn*(aa y.gw (bo y.ps.length (bJ wt)) 4*aR y.ps cs)))*(aa E #[o B 0,J F,o B 0,o B 0,o B 0,J F] 36*R)))))):=h5.eq (by ac_rfl);obtain⟨y0,y1,y2,y3⟩:=h7.frees4;obtain⟨z0,z1,z2,z3⟩:=h7.cells4;have zl:=h7.lt;have h8:=(h7.set4 (o B mp.page) (o B mp.size) (o B mp.frame) (o B mp.rights)).right))
     all_goals
      go_wp2_with fail
      go_meet
      case rel=>exact⟨A,n,c,rfl,rfl,(h7.set4 (o B mp.page) (o B mp.size) (o B mp.frame) (o B mp.rights)).eq (by ac_rfl),((((xd.trans x5).set _ _).set _ _).set _ _).set _ _⟩
    |false=>
     have o2:x.kind≠2:=by simpa using hk2b
     obtain⟨hg,hr⟩:=HR3.out o2;have HR:=I hr;subst hg;clear HR2 HR3 hk2b o2 hr k0;go_wp2_with fail
     go_region_held3 (fun w'=>w'.cell? (H b 0 C)=D (.pointer (D (H y.m 0 C)))∧w'.cell? (H b 1 C)=D (o B 0)∧w'.cell? (H X 2 C)=D (o B x.m.page)∧w'.cell? (H X 3 C)=D (o B x.m.size)∧w'.cell? (H X 4 C)=D (o B x.m.frame)∧w'.cell? (H X 5 C)=D (o B x.m.rights)) (first|(with_reducible exact HK.out _ _ _ _ hd)|(with_reducible exact HK.out _ _ _ _ h5)|(with_reducible exact HK.out _ _ _ _ h8)|go_keep) (first|(go_at_call 115;(with_reducible refine(HR.out _ _ hd).mono ?_);rintro e w5 ⟨rfl,h5,x5⟩;have h7:N w5 (aa M #[o B 0,o B 0,o B 0,o B 0] 39*(az y.m sA*(aa b #[.pointer (D (H y.m 0 C)),o B 0,.slice y.A y.ps.length y.c,J F,.slice y.G gn.length y.d,o B td.page,o B td.size,o B td.frame,o B td.rights,.slice (D (H y.gw 0 C)) y.ps.length y.ps.length] 52*(aa X #[o B x.kind,o B x.core,o B x.m.page,o B x.m.size,o B x.m.frame,o B x.m.rights,o B x.a.page,o B x.a.kind,J x.a.user] 43*((bH (.slice y.A y.ps.length y.c) y.ps*(ao (.slice y.G gn.length y.d) gn*(aa y.gw (bo y.ps.length (bJ wt)) 4*aR y.ps cs)))*(aa E #[o B 0,J F,o B 0,o B 0,o B 0,J F] 36*R)))))):=h5.eq (by ac_rfl);obtain⟨y0,y1,y2,y3⟩:=h7.frees4;obtain⟨z0,z1,z2,z3⟩:=h7.cells4;have zl:=h7.lt;have h8:=(h7.set4 (o B mp.page) (o B mp.size) (o B mp.frame) (o B mp.rights)).right))
     all_goals
      go_wp2_with fail
      go_meet
      case rel=>exact⟨C,0,0,rfl,rfl,((Has.rowNil (e:=3) (size:=1) (h7.set4 (o B mp.page) (o B mp.size) (o B mp.frame) (o B mp.rights))).eq (by show ct 3 1 (.slice C 0 0) 0 []*_=_;unfold ao;simp only[List.map_nil,List.length_nil];ac_rfl)),((((xd.trans x5).set _ _).set _ _).set _ _).set _ _⟩
   case rest=>
    obtain⟨A,n,c,rfl,rfl,h4,x4⟩:=hcut;clear h3 x2 HR2 HR3 hk2b HK k0 kl;obtain rfl:=cT h4.right;by_cases hcd:cd=0
    ·have e:=HSG.out
     rw[if_pos hcd] at e;have h5:N _ (cj b ⟨sA,cs,td,wt,F,gn⟩*(ao (.slice A g.length c) g*(aa M #[o B mp.page,o B mp.size,o B mp.frame,o B mp.rights] 39*(aa X #[o B x.kind,o B x.core,o B x.m.page,o B x.m.size,o B x.m.frame,o B x.m.rights,o B x.a.page,o B x.a.kind,J x.a.user] 43*(aa E #[o B 0,J F,o B 0,o B 0,o B 0,J F] 36*R))))):=HS2.out sA _ _ (h4.eq (by ac_rfl));have HP:=I (fun R w h=>HPO.out sA mp g A g.length c R w h);rw[show Sc.post ⟨sA,cs,td,wt,F,gn⟩ (Sc.s ⟨sA,cs,td,wt,F,gn⟩) mp g=σ2 from e] at HP;subst hcd;obtain⟨m0,m1,m2,m3⟩:=h4.cells4;have ml:=h4.lt;clear h4 HPO HS2 HSM HSG e;go_wp2_with fail
     refine(HP.out _ _ h5).mono ?_;rintro e w6 ⟨rfl,h6,x6⟩;have h7:N w6 (aa E #[o B 0,J F,o B 0,o B 0,o B 0,J F] 36*(cj b σ2*(aa M #[o B mp.page,o B mp.size,o B mp.frame,o B mp.rights] 39*(aa X #[o B x.kind,o B x.core,o B x.m.page,o B x.m.size,o B x.m.frame,o B x.m.rights,o B x.a.page,o B x.a.kind,J x.a.user] 43*R)))):=h6.eq (by ac_rfl);have x7:=x4.trans x6;obtain⟨e0,e1,e2,e3,e4,e5⟩:=h7.cells6;obtain⟨f0,f1,f2,f3,f4,f5⟩:=h7.frees6;have el:=h7.lt;clear h5 h6 x4 x6 HP m0 m1 m2 m3 ml;go_wp2_with fail
     refine am (fun wz=>N wz (aa E #[o B 0,J F,o B 0,o B 0,o B 0,J F] 36*(cj b σ2*(aa M #[o B mp.page,o B mp.size,o B mp.frame,o B mp.rights] 39*(aa X #[o B x.kind,o B x.core,o B x.m.page,o B x.m.size,o B x.m.frame,o B x.m.rights,o B x.a.page,o B x.a.kind,J x.a.user] 43*R))))∧bf w wz) ⟨by first|(with_reducible exact h7)|(with_reducible exact h7.set6 _ _ _ _ _ _),ah⟩ ?_;rintro wz ⟨hz,xz⟩;exact S (aG results65 rfl (aM hz)) rfl ⟨rfl,(hz.right.eq (show _=aa M #[o B mp.page,o B mp.size,o B mp.frame,o B mp.rights] 39*(aa X #[o B x.kind,o B x.core,o B x.m.page,o B x.m.size,o B x.m.frame,o B x.m.rights,o B x.a.page,o B x.a.kind,J x.a.user] 43*(cj b σ2*R)) by ac_rfl)).right.right,xz⟩
    ·have e:=HSG.out
     rw[if_neg hcd] at e;obtain rfl:=HSM.out hcd;have hcd':(cd==0)=F:=by simpa using hcd
     have h5:N _ (aa E #[o B 0,J F,o B 0,o B 0,o B 0,J F] 36*(cj b ⟨sA,cs,td,wt,F,gn⟩*(ao (.slice A g.length c) g*(aa M #[o B mp.page,o B mp.size,o B mp.frame,o B mp.rights] 39*(aa X #[o B x.kind,o B x.core,o B x.m.page,o B x.m.size,o B x.m.frame,o B x.m.rights,o B x.a.page,o B x.a.kind,J x.a.user] 43*R))))):=(HS2.out sA _ (ao (.slice A g.length c) g*(aa M #[o B mp.page,o B mp.size,o B mp.frame,o B mp.rights] 39*(aa X #[o B x.kind,o B x.core,o B x.m.page,o B x.m.size,o B x.m.frame,o B x.m.rights,o B x.a.page,o B x.a.kind,J x.a.user] 43*(aa E #[o B 0,J F,o B 0,o B 0,o B 0,J F] 36*R)))) (h4.eq (by ac_rfl))).eq (by ac_rfl);rw[e] at h5;obtain⟨e0,e1,e2,e3,e4,e5⟩:=h5.cells6;obtain⟨f0,f1,f2,f3,f4,f5⟩:=h5.frees6;have el:=h5.lt;clear h4 HPO HS2 HSM HSG e hcd;go_wp2_with fail
     refine am (fun wz=>N wz (aa E #[o B cd,J F,o B 0,o B 0,o B 0,J F] 36*(cj b σ2*(ao (.slice A g.length c) g*(aa M #[o B mp.page,o B mp.size,o B mp.frame,o B mp.rights] 39*(aa X #[o B x.kind,o B x.core,o B x.m.page,o B x.m.size,o B x.m.frame,o B x.m.rights,o B x.a.page,o B x.a.kind,J x.a.user] 43*R)))))∧bf w wz) ⟨h5.set6 _ _ _ _ _ _,ah⟩ ?_;rintro wz ⟨hz,xz⟩;exact S (aG results65 rfl (aM hz)) rfl ⟨rfl,(hz.right.eq (show _=ao (.slice A g.length c) g*(aa M #[o B mp.page,o B mp.size,o B mp.frame,o B mp.rights] 39*(aa X #[o B x.kind,o B x.core,o B x.m.page,o B x.m.size,o B x.m.frame,o B x.m.rights,o B x.a.page,o B x.a.kind,J x.a.user] 43*(cj b σ2*R))) by ac_rfl)).r3,xz⟩
theorem oF(q:Nat)(root:Int)(l:List Ln)(k:Ck)(R:ab)(W:V)(h:N W (aQ q l k*R)):bd prog 118 #[.pointer (D (H q 0 C)),o B root] W (cR (.tuple #[]) (aQ q l (k.again root)*R) W):=by
 obtain⟨A,c,h⟩:=cP h;have h':=h;unfold aN cC at h';obtain⟨c0,c1,c2,c3,c4,c5,c6,c7,c8⟩:=h'.cells9;have hl:=h'.lt;have f5:=h'.free 5;have f6:=h'.free 6;have f7:=h'.free 7;cases hon:k.on with
 |true=>
  have hs:k.again root={k with t:=root,level:=3,mark:=F}:=by unfold Ck.again;rw[if_pos hon]
  have h9:N (((W.setCell (H q 5 C) (o B root)).setCell (H q 6 C) (o B 3)).setCell (H q 7 C) (J F)) (aN q A c l {k with t:=root,level:=3,mark:=F} R):=((h'.set 5 _).set 6 _).set 7 _;have HS:=I hs;rw[hon] at c1;clear hs h h' hon;go_enter func118,ntmps118;go_wp2;refine S (v:= .tuple #[]) (by simp[results,results118]) rfl ?_;rw[HS.out];exact⟨rfl,bx h9,(((ax W).set _ _).set _ _).set _ _⟩
 |false=>
  have hs:k.again root=k:=by unfold Ck.again;rw[if_neg (by rw[hon];simp)]
  have HS:=I hs;rw[hon] at c1;clear hs h' hon;go_enter func118,ntmps118;go_wp2;refine S (v:= .tuple #[]) (by simp[results,results118]) rfl ?_;rw[HS.out];exact⟨rfl,bx h,ax _⟩
theorem rI(q:Nat)(l:List Ln)(k:Ck)(an:An)(R:ab)(W:V)(h:N W (aQ q l k*R)):
  bd prog 122 #[.pointer (D (H q 0 C)),.agg #[o B an.fin,o B an.frame,o B an.rights]] W (cR (.tuple #[.agg #[o B an.fin,o B an.frame,o B an.rights],J O,o B 0]) (aQ q l k.idle*R) W):=by
 obtain⟨A,c,h⟩:=cP h;have h1:=(h.new #[o B an.fin,o B an.frame,o B an.rights] 34).new #[o B 0,o B 0,o B 0] 34;have x1:=((ax W).alloc (.cells #[o B an.fin,o B an.frame,o B an.rights] 34)).alloc (.cells #[o B 0,o B 0,o B 0] 34);simp only[U] at h1;clear h;go_enter func122,ntmps122;go_upto_region 1 with fail;generalize ((W.alloc (.cells #[o B an.fin,o B an.frame,o B an.rights] 34)).alloc (.cells #[o B 0,o B 0,o B 0] 34))=W3 at*
 generalize W.heap.size+1=X2 at*
 generalize W.heap.size=X1 at*
 unfold aN cC at h1;have h2:N W3 (aa q #[.slice A l.length c,J k.on,o B k.a.page,o B k.a.kind,J k.a.user,o B k.t,o B k.level,J k.mark,o vU k.w] 66*(aa X1 #[o B an.fin,o B an.frame,o B an.rights] 34*(aa X2 #[o B 0,o B 0,o B 0] 34*(gJ (.slice A l.length c) l*R)))):=h1.eq (by ac_rfl);have h3:N W3 (aa q #[.slice A l.length c,J k.on,o B k.a.page,o B k.a.kind,J k.a.user,o B k.t,o B k.level,J k.mark,o vU k.w] 66*(aa X2 #[o B 0,o B 0,o B 0] 34*(gJ (.slice A l.length c) l*(R*aa X1 #[o B an.fin,o B an.frame,o B an.rights] 34)))):=h1.eq (by ac_rfl);have n1:=h2.ne;have m1:=n1.symm;have n2:=h3.ne;have m2:=n2.symm;obtain⟨c0,c1,c2,c3,c4,c5,c6,c7,c8⟩:=h2.cells9;have f1:=h2.free 1;have f2:=h2.free 2;have f3:=h2.free 3;have f4:=h2.free 4;have f7:=h2.free 7;have hl:=h2.lt;obtain⟨a0,a1,a2⟩:=h2.right.cells3;have al:=h2.right.lt;obtain⟨r0,r1,r2⟩:=h3.right.cells3;obtain⟨g0,g1,g2⟩:=h3.right.frees3;have rl:=h3.right.lt;have h4:N (((((W3.setCell (H q 1 C) (J F)).setCell (H q 2 C) (o B 0)).setCell (H q 3 C) (o B 0)).setCell (H q 4 C) (J F)).setCell (H q 7 C) (J F)) (cC q (.slice A l.length c) k.idle*(aa X2 #[o B 0,o B 0,o B 0] 34*(gJ (.slice A l.length c) l*(R*aa X1 #[o B an.fin,o B an.frame,o B an.rights] 34)))):=((((h3.set 1 _).set 2 _).set 3 _).set 4 _).set 7 _;clear h1 h2 h3;go_wp2_with fail
 refine am (fun wz=>N wz (aa X2 #[o B an.fin,o B an.frame,o B an.rights] 34*(cC q (.slice A l.length c) k.idle*(gJ (.slice A l.length c) l*(R*aa X1 #[o B an.fin,o B an.frame,o B an.rights] 34))))∧bf W wz) ⟨((h4.p2.set 0 (o B an.fin)).set 1 (o B an.frame)).set 2 (o B an.rights),ah⟩ ?_;rintro wz ⟨hz,xz⟩;exact S (bg results122 rfl rfl rfl (bj hz)) rfl ⟨rfl,(bx (A:=A) (c:=c) (by unfold aN;exact hz.right)).a2.left,xz⟩
end Go.Proofs.YtmfheghbgihdmaaGreat
