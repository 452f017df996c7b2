/- The contract of slices.Insert at mappings: one that lies in a block of its own. -/
import Derived.Test.YtmfheghbgihdmaaGreatDoorCoreP3
import Derived.Shelf.Spec.SlicesInsert
import Derived.Laws.NewBlocks
import Derived.Lib.AppendZerosOnto
import Derived.Deep.RegionLaw
import Derived.Deep.AppendLies
import Derived.Test.YtmfheghbgihdmaaGreatDoorTabF
import Derived.Test.YtmfheghbgihdmaaGreatDoorWalkM2
import Derived.Test.YtmfheghbgihdmaaGreatDoorPage
import Derived.Test.YtmfheghbgihdmaaGreatDoorEntBits
import Derived.Test.YtmfheghbgihdmaaGreatDoorDkM
import Derived.StillTailTactics
import Derived.Test.YtmfheghbgihdmaaGreatDoorScI
import Derived.Lib.AppendStr
import Derived.Lib.UnsafeStr
import Derived.Lib.Builder
import Derived.Laws.Externs
import Derived.Shelf.Strings.Builder1
import Derived.Shelf.Strings.Builder2
import Derived.Shelf.Strings.OnBuilder
import Derived.Shelf.Strings.BuilderF
import Derived.Shelf.Strings.BuilderK
import Derived.Shelf.Strings.Builder2Cap
import Derived.Shelf.Strconv.Atoi
import Derived.Shelf.Strconv.Itoa0
import Derived.Shelf.Strconv.Itoa1
import Derived.Shelf.LaysM
import Derived.Shelf.Strconv.Itoa2
import Derived.Shelf.Strconv.Itoa3
import Derived.Shelf.Strconv.AtoiErrFast
import Derived.Shelf.Strconv.ParseIntEmpty
import Derived.Shelf.Strconv.AtoiFail
import Derived.Shelf.Strconv.Clone
import Derived.Shelf.Strconv.SyntaxError
import Derived.Shelf.LaysC
import Derived.Shelf.Strconv.ToError
import Derived.Shelf.Strconv.Lower
import Derived.Shelf.Strconv.ParseUint10
import Derived.Shelf.Strconv.ParseUint10Empty
import Derived.Shelf.Strconv.ParseUint10Any
import Derived.Shelf.Strconv.ParseInt10
import Derived.Shelf.Strconv.AtoiLong
import Derived.Shelf.Strconv.AtoiInnerAll
import Derived.Shelf.Strconv.RangeError
import Derived.Shelf.Strconv.ToErrorRange
import Derived.Shelf.Strconv.AtoiAll
import Derived.Shelf.Strconv.ErrVarAll
import Derived.Shelf.Strconv.ParseUintEmpty
import Derived.Shelf.Strconv.ParseUint10b64
import Derived.Shelf.Strconv.ParseUint10b32
import Derived.Shelf.Strconv.ParseUint10b16
import Derived.Shelf.Strconv.ParseUint10b8
import Derived.Shelf.Strconv.ParseUint10At
import Derived.Shelf.Strings.Search1
import Derived.Shelf.Strings.Search2
import Derived.Shelf.Strings.Search3
import Derived.Shelf.Strings.Shaped
import Derived.Shelf.Strings.FieldsFuncAny
import Derived.Shelf.Strings.BuilderCap
import Derived.Ground.Names2Prog
import Derived.Shelf.Slices.Clone
import Derived.Ground.SlgnProg
import Derived.Shelf.SlicesE.Clone
import Derived.Test.YtmfheghbgihdmaaGreatDoorProg
namespace Go.Proofs.YtmfheghbgihdmaaGreatDoor
open Go.Value renaming bool→vB
open Option renaming some→B,none→C
open Go.Value renaming int→D
open Go.IntKind renaming i64→E,wrap_i64→an
open Go renaming World→F,Calls→U,Value→Y,bodyPost_ret→Z,Addr→ap
open Go.Addr renaming mk→I
open List renaming length_append→J
open Go.Proofs.YtmfheghbgihdmaaGreatDoor renaming Has→O,Ext→ak
open Go.Proofs.YtmfheghbgihdmaaGreatDoor.Ext renaming refl→T,cells→ag
open Go.Lib renaming hid→X
open Bool renaming true→ad,false→af
open Tryz
open Go.RowKit
set_option maxRecDepth 100000
def ki(l:List Mp)(R:ab)(w:F)(e:Ending)(w':F):Prop:=∃A c,e= .returned (.slice A l.length c)∧O w' (cz (.slice A l.length c) l*R)∧ak w w'
theorem qB(l:List Mp)(m:Mp)(n c V:Nat)(A:Option ap)(R:ab)(w:F)(hbig:l.length≤1000000)
  (h:O w (cz (.slice A n c) l*(aa V #[D E m.page,D E m.size,D E m.frame,D E m.rights] 75*R))):
  U prog 194 #[.slice A n c,.int .i64 l.length,.slice (B (I V 0 C)) 1 1] w (ki (l++[m]) R w):=by
 obtain rfl:=dt h;obtain⟨hb1,hb2⟩:=fP h;have hrow:O w (bt 75 4 (.slice A l.length c) l.length (aP l)*(aa V #[D E m.page,D E m.size,D E m.frame,D E m.rights] 75*R)):=h;have hne:Hid (∀j u,m.cells[j]? =B u→w.cell? (((I V 0 C):ap).add j)=B u):=fun j u hu=>by
  rw[Addr.add_lit,Nat.zero_add,h.right.cell];simpa [Mp.cells] using hu
 go_enter func194,ntmps194;go_wp2_with(at_builtin;refine a8 rfl _ _ 98 rfl underlying98 rk _ _ _ rfl hrow (I V 0 C) 1 1 m.cells rfl rfl hne.out (qh m) (by unfold maxLen;omega) (by omega) ?_)
 all_goals
  intro v' w2 h' x';obtain⟨A',c',rfl⟩:=h'.rowForm;go_wp2_with fail
  go_ret;refine⟨A',c',by rw[J];rfl,?_,x'⟩;unfold cz;rw[J,kY];exact h'.p2.right
theorem ob(l:List Mp)(m:Mp)(n c V i g:Nat)(R:ab)(w:F)(hbig:l.length≤1000000)(hi:i<l.length)(hc:l.length+1≤c)
  (h:O w (cz (.slice (B (I g 0 C)) n c) l*(aa V #[D E m.page,D E m.size,D E m.frame,D E m.rights] 75*R))):
  U prog 194 #[.slice (B (I g 0 C)) n c,.int .i64 i,.slice (B (I V 0 C)) 1 1] w (ki (l.take i++m::l.drop i) R w):=by
 obtain rfl:=dt h;obtain⟨hb1,hb2⟩:=fP h;obtain⟨hn1,cur,hcg,h1,h2,h3,h4,hb⟩:=Has.rowAt (e:=75) (size:=4) h (by omega);injection hcg with hcg
 injection hcg with hcg
 subst hcg;have hc63:c≤9223372036854775807:=by unfold maxLen at h2;omega
 have hVg:V≠g:=fun e=>by
  have:=hb.ne;exact this e.symm
 have hsV:w.shape? V=B (75,4):=by
  have:=h.right.heap;simp[World.shape?,this]
 have hsg:w.shape? g=B (75,c*4):=by
  have:=hb.heap;simp[World.shape?,this,h3]
 have hfa:=h.right.free 0;have hfe:=h.right.free 4;have hov:∀lb cb,(callFunc 227 #[.slice (B (I V 0 C)) 1 1,.slice (B ⟨g,(i+1)*4,C⟩) lb cb]).run prog w= .ok (.value (.bool af)) w:=fun lb cb=>by
  rw[run_callFunc_extern func227 (by kernel_rfl) (by kernel_rfl) (by kernel_rfl) (e:=Extern.SlicesOverlaps.overlaps #[98,98] #[4]) (by kernel_rfl),
   Lib.run_overlaps_apart w 98 4 75 underlying98 4 (by intro w;rfl) (I V 0 C) ⟨g,(i+1)*4,C⟩ 1 1 lb cb hVg _ _ 4 (c*4) hsV hsg (by omega) hfa hfe]
  rfl
 have hi0:=h;have hdl:((aP l).drop (i*4)).length =(l.length - i)*4:=by rw[List.length_drop,de];omega
 have hcap:=fP h;have hcell:∀k,k<c*4→(w.cell? (I g k C)).isSome =ad:=fun k hk=>by
  rw[hb.cell,Array.getElem?_eq_getElem (by omega)];rfl
 have hfree:∀k,w.frozen? (I g k C)=af:=fun k=>hb.free k;have hsz:(prog.info? 75).map (·.size)=B 4:=by
  obtain⟨i0,hi0,_,hz,_⟩:=info_parts om;rw[hi0];simp[hz]
 have hcp1:∀ty dc sc,(Builtin.copy_ #[98,98] ty #[.slice (B ⟨g,(i+1)*4,C⟩) (l.length - i) dc,.slice (B ⟨g,i*4,C⟩) (l.length+1 - i) sc]).run prog w.drew= .ok (goInt (l.length - i:Nat)) (w.drew.setCells g ((i+1)*4) ((aP l).drop (i*4))):=fun ty dc sc=>
  fM w.drew _ _ ty 75 g ((i+1)*4) (l.length - i) dc ⟨g,i*4,C⟩ (l.length+1 - i) sc 4 (l.length - i) ((aP l).drop (i*4)) underlying98 hsz (by simp only[Nat.min_def];split<;>omega) hdl
   (fun j v hj=>by
    rw[Addr.add_lit];exact ip h i j v hj)
   (fun j hj=>hcell _ (by omega)) (fun j hj=>hfree _) (fun v hv=>iN l v (List.mem_of_mem_drop hv))
 have hfin:=Has.rowShift (e:=75) (size:=4) (i:=i) (m:=1) h.drew (by omega) hc m.cells rfl;have hV:=(Has.rowShift (e:=75) (size:=4) (i:=i) (m:=1) h.drew (by omega) hc m.cells rfl).right;obtain⟨W1,hW1⟩:∃W1,W1=w.drew.setCells g ((i+1)*4) ((aP l).drop (i*4)):=⟨_,rfl⟩;rw[←hW1] at hcp1 hfin;have hcp2:∀(W:F),(∀x,W.cell? x=W1.cell? x)→(∀x,W.frozen? x=W1.frozen? x)→∀ty dc,(Builtin.copy_ #[98,98] ty #[.slice (B ⟨g,i*4,C⟩) (l.length+1 - i) dc,.slice (B (I V 0 C)) 1 1]).run prog W= .ok (goInt (1:Nat)) (W.setCells g (i*4) m.cells):=fun W hWc hWf ty dc=>
  fM W _ _ ty 75 g (i*4) (l.length+1 - i) dc (I V 0 C) 1 1 4 1 m.cells underlying98 hsz (by simp only[Nat.min_def];split<;>omega) rfl
   (fun j v hj=>by
    rw[Addr.add_lit,hWc,hW1,World.cell?_setCells_out g _ _ _ _ (fun h _=>absurd h hVg),Nat.zero_add];show w.cell? _=_;rw[h.right.cell];simpa [Mp.cells] using hj)
   (fun j hj=>by
    rw[hWc,hW1];have h4:m.cells.length=4:=rfl;refine Go.Proofs.isSome_setCells g ((aP l).drop (i*4)) ((i+1)*4) w.drew (fun t ht=> ?_) (i*4+j) (hcell (i*4+j) (by omega));exact hcell _ (by omega)) (fun j hj=>by rw[hWf,hW1,World.frozen?_setCells];exact hfree _) (qh m)
 have hw1:IntKind.i64.wrap ((i:Int)+1)=(i:Int)+1:=by rw[an];omega
 have hb2:¬(c=i+1):=by omega
 have hb4:¬(c=i):=by omega
 have hb3:(i:Int)≤(l.length:Int)+1:=by omega
 have hz2:¬((i:Int)=(l.length:Int)):=by omega
 have htn:((i:Int)+1).toNat =i+1:=by omega
 have hb0:(0:Int)≤(i:Int)+1:=by omega
 have hil:i≤l.length:=by omega
 have mixed:prog.follows .mixedOrders =ad:=by kernel_rfl
 clear hi0 hcell hfree hsz hdl hb hV hsV hsg hfa hfe h1 h2 h3 h4 hcap;have HF:=X hfin;have HW:=X hW1;clear hfin hW1 h;go_enter func194,ntmps194;go_wp2_with(simp only[hov])
 go_region_law_o (refine Go.Proofs.step_copy_runI rfl _ _ 98 98 rfl _ _ (by simp[Act.eval,Act.put]) (by simp[Act.eval,Act.put]) (hcp1 _ _ _) ?_)
 go_wp2_with(at_builtin;refine Go.Proofs.wpList_copy_runI _ rfl _ _ 98 98 rfl _ _ rfl rfl (hcp2 _ (fun _=>rfl) (fun _=>rfl) _ _) ?_)
 go_ret;have hlen:(l.take i++m::l.drop i).length =l.length+1:=by simp;omega
 refine⟨B (I g 0 C),c,by rw[hlen];rfl,?_,?_⟩
 ·unfold cz
  rw[hlen];have e1:(aP l).take (i*4)++(m.cells++(aP l).drop (i*4))=aP (l.take i++m::l.drop i):=by
   rw[eD,show(aP l).take (i*4)=aP (l.take i) from fG il l i,show(aP l).drop (i*4)=aP (l.drop i) from fF il l i];rfl
  rw[←e1];exact HF.out.p2.right
 ·rw[HW.out]
  exact ag _ _ _ (ag _ _ _ (T w).drew)
set_option maxHeartbeats 4000000 in
theorem oU(l:List Mp)(m:Mp)(n c V i g:Nat)(R:ab)(w:F)(hbig:l.length≤1000000)(hi:i<l.length)(hc:c<l.length+1)
  (h:O w (cz (.slice (B (I g 0 C)) n c) l*(aa V #[D E m.page,D E m.size,D E m.frame,D E m.rights] 75*R))):
  U prog 194 #[.slice (B (I g 0 C)) n c,.int .i64 i,.slice (B (I V 0 C)) 1 1] w (ki (l.take i++m::l.drop i) R w):=by
 obtain rfl:=dt h;obtain⟨hb1,hb2⟩:=fP h;obtain⟨i0,hi0,hz0,hzs,hzb⟩:=info_parts om;have hVw:=h.right.lt;have hgw:g<w.heap.size:=by
  obtain⟨b,hb,hlt,_⟩:=fk h hi;injection hb with hb
  injection hb with hb
  subst hb;exact hlt
 have hsz:(prog.info? 75).map (·.size)=B 4:=by rw[hi0];simp[hzs]
 have hti:(aP (l.take i)).length =i*4:=by rw[de,List.length_take];omega
 have hte:aP (l.take i)=(aP l).take (i*4):=(fG il l i).symm;have hold:(Builtin.firstCells i0.size i (.slice (B (I g 0 C)) i c)).run prog w.drew= .ok (aP (l.take i)).toArray w.drew:=by
  rw[hzs];exact run_firstCells_some w.drew 4 i (I g 0 C) i c (aP (l.take i)) hti (fun j v hj=>by
   rw[Addr.add_lit];rw[hte,List.getElem?_take] at hj;split at hj
   ·have:=ip h 0 j v (by simpa using hj)
    rwa [Nat.zero_mul] at this
   ·cases hj)
 have hkk:(l.length:Int)+1 - (i:Int)=((l.length+1 - i:Nat):Int):=by omega
 have hik:i+(l.length+1 - i)=l.length+1:=by omega
 have hrz:∀ty,(Builtin.append_ #[98,3] ty #[.slice (B (I g 0 C)) i c,.int .i64 ((l.length:Int)+1 - (i:Int))]).run prog w=
   .ok (.slice (B (I w.heap.size 0 C)) (l.length+1) (grownCap w (l.length+1) c 75)) (w.drew.alloc (.cells ((aP (l.take i)).toArray ++Builtin.zeroCells mpZero.cells (l.length+1 - i)++Builtin.zeroCells mpZero.cells (grownCap w (l.length+1) c 75 - (l.length+1))) 75)):=fun ty=>by
  have h:=Lib.run_append_grow_zeros w 98 3 ty 75 i0 _ .i64 .i64 underlying98 underlying3 hi0 hz0 (B (I g 0 C)) i c (aP (l.take i)) hold (l.length+1 - i) (by omega) (by omega) (by omega) (by omega) (by rw[hzb];omega) (by rw[hzb,hik];exact growslice_fits hc (by omega));rw[hik] at h;rw[hkk];exact h
 have hGn:l.length+1≤grownCap w (l.length+1) c 75:=grownCap_ge w _ _ _;have hGm:=grownCap_le_maxLen w (l.length+1) c 75 (by unfold maxLen;omega);generalize grownCap w (l.length+1) c 75=G at*
 have hzz:∀k,(Builtin.zeroCells mpZero.cells k).size =k*4:=fun k=>size_zeroCells _ _;have hzl:∀k,(Builtin.zeroCells mpZero.cells k).toList.length =k*4:=fun k=>by rw[Array.length_toList];exact hzz k
 obtain⟨ROW,hROW⟩:∃ROW:Array Y,ROW=(aP (l.take i)).toArray ++Builtin.zeroCells mpZero.cells (l.length+1 - i)++Builtin.zeroCells mpZero.cells (G - (l.length+1)):=⟨_,rfl⟩;rw[←hROW] at hrz;have hRs:ROW.size=G*4:=by
  rw[hROW];simp only[Array.size_append,hzz,List.size_toArray,hti];omega
 have hRt:ROW.toList.take ((l.length+1)*4)=aP (l.take i)++(Builtin.zeroCells mpZero.cells (l.length+1 - i)).toList :=by
  have hs:(aP (l.take i)++(Builtin.zeroCells mpZero.cells (l.length+1 - i)).toList).length =(l.length+1)*4:=by
   rw[J,hzl,hti];omega
  rw[hROW,Array.toList_append,Array.toList_append];show((aP (l.take i)++_)++_).take _=_;rw[←hs,List.take_left]
 have H1:=(h.new ROW 75).drew.rowOf (size:=4) (n:=l.length+1) (cap:=G) (by rw[J,hzl,hti];omega) hGn hGm hRs hRt;have hfin:=Has.rowGapD H1 (k:=i) hti m.cells (aP (l.drop i)) (by rw[hzl,de,List.length_drop];have:m.cells.length=4:=rfl;omega);obtain⟨W1,hW1⟩:∃W1,W1=w.drew.alloc (.cells ROW 75):=⟨_,rfl⟩;rw[←hW1] at hrz;have hm4:m.cells.length=4:=rfl;rw[hm4,show i*4+4=(i+1)*4 by omega] at hfin;have hN:∀j,j< (l.length+1)*4→(W1.cell? (I w.heap.size j C)).isSome =ad:=fun j hj=>by
  rw[hW1,World.cell?_alloc_at (w:=w.drew) ROW _ w.heap.size j rfl,Array.getElem?_eq_getElem (by omega)];rfl
 have hNf:∀j,W1.frozen? (I w.heap.size j C)=af:=fun j=>by rw[hW1];exact World.frozen?_alloc_at (w:=w.drew) ROW _ w.heap.size j rfl
 have hOb:∀j v,w.cell? (I g j C)=B v→W1.cell? (I g j C)=B v:=fun j v h=>by rw[hW1,World.cell?_alloc_past (w:=w.drew) _ g j hgw];exact h
 have hOv:∀j v,w.cell? (I V j C)=B v→W1.cell? (I V j C)=B v:=fun j v h=>by rw[hW1,World.cell?_alloc_past (w:=w.drew) _ V j hVw];exact h
 have hcpA:∀(W:F),(∀x,W.cell? x=W1.cell? x)→(∀x,W.frozen? x=W1.frozen? x)→∀ty dc,(Builtin.copy_ #[98,98] ty #[.slice (B ⟨w.heap.size,i*4,C⟩) (l.length+1 - i) dc,.slice (B (I V 0 C)) 1 1]).run prog W= .ok (goInt (1:Nat)) (W.setCells w.heap.size (i*4) m.cells):=fun W hWc hWf ty dc=>
  fM W _ _ ty 75 w.heap.size (i*4) (l.length+1 - i) dc (I V 0 C) 1 1 4 1 m.cells underlying98 hsz (by simp only[Nat.min_def];split<;>omega) rfl
   (fun j v hj=>by
    rw[Addr.add_lit,hWc,Nat.zero_add];refine hOv _ _ ?_;rw[h.right.cell];simpa [Mp.cells] using hj)
   (fun j hj=>by rw[hWc];exact hN _ (by omega)) (fun j hj=>by rw[hWf];exact hNf _) (qh m)
 have hdl:(aP (l.drop i)).length =(l.length - i)*4:=by rw[de,List.length_drop]
 have hde:aP (l.drop i)=(aP l).drop (i*4):=(fF il l i).symm;have hgN:g≠w.heap.size:=by omega
 have hcpB:∀(W:F),(∀x,W.cell? x=(W1.setCells w.heap.size (i*4) m.cells).cell? x)→(∀x,W.frozen? x=(W1.setCells w.heap.size (i*4) m.cells).frozen? x)→∀ty dc sc,(Builtin.copy_ #[98,98] ty #[.slice (B ⟨w.heap.size,(i+1)*4,C⟩) (l.length+1 - (i+1)) dc,.slice (B ⟨g,i*4,C⟩) (l.length - i) sc]).run prog W= .ok (goInt (l.length - i:Nat)) (W.setCells w.heap.size ((i+1)*4) (aP (l.drop i))):=fun W hWc hWf ty dc sc=>
  fM W _ _ ty 75 w.heap.size ((i+1)*4) (l.length+1 - (i+1)) dc ⟨g,i*4,C⟩ (l.length - i) sc 4 (l.length - i) (aP (l.drop i)) underlying98 hsz (by simp only[Nat.min_def];split<;>omega) hdl
   (fun j v hj=>by
    rw[Addr.add_lit,hWc,World.cell?_setCells_out _ _ _ _ _ (fun h _=>absurd h hgN)];refine hOb _ v (ip h i j v ?_);rwa [←hde])
   (fun j hj=>by rw[hWc];exact Go.Proofs.isSome_setCells _ _ _ _ (fun t ht=>hN _ (by omega)) _ (hN _ (by omega)))
   (fun j hj=>by rw[hWf,World.frozen?_setCells];exact hNf _) (fun v hv=>iN _ v hv)
 have hx:ak w ((((w.alloc (.cells ROW 75)).drew.setCells w.heap.size (i*4) m.cells).drew).setCells w.heap.size ((i+1)*4) (aP (l.drop i))):=
  ag _ _ _ (ag _ _ _ ((T w).alloc _).drew).drew
 subst hW1;have hE1:∀x,((w.alloc (.cells ROW 75)).drew).cell? x=(w.drew.alloc (.cells ROW 75)).cell? x:=fun x=>rfl;have hE2:∀x,((w.alloc (.cells ROW 75)).drew).frozen? x=(w.drew.alloc (.cells ROW 75)).frozen? x:=fun x=>rfl;have hF1:∀x,(((w.alloc (.cells ROW 75)).drew.setCells w.heap.size (i*4) m.cells).drew).cell? x=((w.drew.alloc (.cells ROW 75)).setCells w.heap.size (i*4) m.cells).cell? x:=fun x=>rfl;have hF2:∀x,(((w.alloc (.cells ROW 75)).drew.setCells w.heap.size (i*4) m.cells).drew).frozen? x=((w.drew.alloc (.cells ROW 75)).setCells w.heap.size (i*4) m.cells).frozen? x:=fun x=>rfl;have hz2:¬((i:Int)=(l.length:Int)):=by omega
 have hz3:(c:Int)< (l.length:Int)+1:=by omega
 have hG63:G≤9223372036854775807:=by unfold maxLen at hGm;omega
 have hGi:¬(G=i):=by omega
 have hGim:¬(G=i+1):=by omega
 have hci:¬(c=i):=by omega
 have hw1:IntKind.i64.wrap ((i:Int)+1)=(i:Int)+1:=by rw[an];omega
 have hb0:(0:Int)≤(i:Int)+1:=by omega
 have hil:i≤l.length:=by omega
 have htn:((i:Int)+1).toNat =i+1:=by omega
 have hb3:(i:Int)≤(l.length:Int):=by omega
 have mixed:prog.follows .mixedOrders =ad:=by kernel_rfl
 have HF:=X hfin;have HX:=X hx;clear hkk hik hzz hzl hold hROW hRs hRt H1 hfin hx hi0 hz0 hzs hzb hsz h hti hte hdl hde hN hNf hOb hOv hm4 hGm;go_enter func194,ntmps194;go_wp2_with(first
  |(at_builtin;refine Lib.wpList_append_run _ rfl _ _ _ _ rfl _ _ rfl rfl _ _ (hrz _) ?_)
  |(at_builtin;refine Go.Proofs.wpList_copy_runI _ rfl _ _ 98 98 rfl _ _ rfl rfl (hcpA _ hE1 hE2 _ _) ?_)
  |(at_builtin;refine Go.Proofs.wpList_copy_runI _ rfl _ _ 98 98 rfl _ _ rfl rfl (hcpB _ (fun _=>rfl) (fun _=>rfl) _ _ _) ?_))
 go_region_law_o (refine Go.Proofs.step_copy_runI rfl _ _ 98 98 rfl (.slice (B ⟨w.heap.size,(i+1)*4,C⟩) (l.length+1 - (i+1)) (G - (i+1))) (.slice (B ⟨g,i*4,C⟩) (l.length - i) (c - i)) (by simp[Act.eval,Act.put]) (by simp[Act.eval,Act.put]) (hcpB _ hF1 hF2 _ (G - (i+1)) (c - i)) ?_)
 go_wp2_with fail
 go_ret;have hlen:(l.take i++m::l.drop i).length =l.length+1:=by simp;omega
 refine⟨B (I w.heap.size 0 C),G,by rw[hlen];rfl,?_,HX.out⟩;unfold cz;rw[hlen];have e1:aP (l.take i)++(m.cells++aP (l.drop i))=aP (l.take i++m::l.drop i):=by
  rw[eD];rfl
 rw[←e1];exact HF.out.p2.right.p2.right
theorem sd(l:List Mp)(m:Mp)(n c V i:Nat)(A:Option ap)(R:ab)(w:F)(hbig:l.length≤1000000)(hi:i≤l.length)
  (h:O w (cz (.slice A n c) l*(aa V #[D E m.page,D E m.size,D E m.frame,D E m.rights] 75*R))):
  U prog 194 #[.slice A n c,.int .i64 i,.slice (B (I V 0 C)) 1 1] w (ki (l.take i++m::l.drop i) R w):=by
 rcases Nat.lt_or_ge i l.length with hlt|hge
 ·obtain⟨g,rfl,_⟩:=fk h hlt
  rcases Nat.lt_or_ge c (l.length+1) with hc|hc
  ·exact oU l m n c V i g R w hbig hlt hc h
  ·exact ob l m n c V i g R w hbig hlt hc h
 ·obtain rfl:i=l.length:=by omega
  rw[List.take_length,List.drop_length];exact qB l m n c V A R w hbig h
set_option maxHeartbeats 2000000 in
theorem AF(p:Nat)(l:List Mp)(m:Mp)(R:ab)(w:F)(hl:Bk.Ok l)(hm:bX m.page)(h:O w (aX p l*R)):
  U prog 152 #[.pointer (B (I p 0 C)),.agg #[D E m.page,D E m.size,D E m.frame,D E m.rights]] w (cF (D E (Bk.addC l m)) (aX p (Bk.add l m)*R) w):=by
 have H1:=h.new #[D E m.page,D E m.size,D E m.frame,D E m.rights] 75;have x1:=(T w).alloc (.cells #[D E m.page,D E m.size,D E m.frame,D E m.rights] 75);have HC:=jD m;obtain⟨c0,c1,c2,c3⟩:=H1.cells4;by_cases hc:bp m=0
 ·rw[hc] at HC
  have hmo:=dL hc;have hp0:=hmo.p0;obtain⟨hy1,hy2⟩:(Bk.addC l m=if Bk.bad l m=ad then 4 else 0)∧(Bk.add l m=if Bk.bad l m=ad then l else l.take (Bk.pos l m.page)++m::l.drop (Bk.pos l m.page)):=by
   cases hb:Bk.bad l m with
   |true=>exact Bk.addC_bad hc hb
   |false=>exact Bk.addC_ok hc hb
  rw[hy1,hy2];clear hy1 hy2 h;have hle:=hl.le;have hfb:(Bk.find l m.page).isSome =ad→Bk.bad l m=ad:=Bk.bad_find;have hba:=Bk.bad_at hl hmo;have hli:∀x∈l,bX x.page:=fun x hx=>by
   have:=(hl.chk x hx).p0;have:=(hl.chk x hx).p1;have:=(hl.chk x hx).sp;exact⟨by omega,by omega⟩
  have HL:=X hl;clear hl;go_enter func152,ntmps152;go_upto_region 4 with (go_at_call 191;refine(HC _).mono ?_;rintro e w2 ⟨rfl,b2⟩);have h2:=H1.below b2;have x2:=x1.below b2;clear H1 x1 b2 c0 c1 c2 c3 HC;obtain⟨c0,c1,c2,c3⟩:=h2.cells4;have cl:=h2.lt;have hB:=oo l HL.out m.page hm p _ _ h2.p2;go_upto_region 5 with (refine hB.mono ?_;rintro e w3 ⟨i,hil,rfl,hip,b3⟩);have hip:=hip hp0;have h3:=h2.below b3;have x3:=x2.below b3;clear h2 x2 b3 c0 c1 c2 c3 cl hB;obtain⟨A,c,h4⟩:=dH h3.p2;obtain⟨c0,c1,c2,c3⟩:=h3.cells4;have e0:=h4.cell 0;rw[←hip] at hba;generalize Bk.bad l m=bd at*
  generalize Bk.pos l m.page=q at*
  subst hip;generalize (Bk.find l m.page).isSome =fs at*
  go_cut [40] (fun b40 wx=>b40=vB bd∧Below w3.heap.size w3 wx)
  case first=>
   have v0:=am c0;have v1:=am c1;have v2:=am c2;have v3:=am c3;have ve:=am e0;clear c0 c1 c2 c3 e0;cases fs with
   |true=>
    have hbt:=hfb rfl;subst hbt;clear hba hfb;refine aI (by kernel_rfl) (by kernel_rfl) ?_;repeat(first|go_big_quiet_step (fail)|quiet_step (fail))
    refine wpQuiet_nil ?_;intro _ hw';obtain⟨uq,hw''⟩:=hw';subst hw'';go_wp2_with fail
    go_meet
    case rel=>exact⟨rfl,aV _ _⟩
   |false=>
    clear hfb;by_cases hlt:i<l.length
    ·rw[dif_pos hlt] at hba
     obtain⟨g,rfl,gb,g0,g1,g2,g3⟩:=fk h4.right hlt;have HM:=X (fun W=>pR m l[i] W hm (hli _ (List.getElem_mem hlt)));rw[←hba] at HM;have hdg:decide (i<l.length)=ad:=decide_eq_true (by omega);have u0:=am g0;have u1:=am g1;have u2:=am g2;have u3:=am g3;clear g0 g1 g2 g3 hba hli hle;generalize l[i]=x at*
     refine aI (by kernel_rfl) (by kernel_rfl) ?_;repeat(first|go_big_quiet_step ((go_at_call 193;exact Pure.via (HM.out _)))|quiet_step ((go_at_call 193;exact Pure.via (HM.out _))))
     refine wpQuiet_nil ?_;intro _ hw';obtain⟨uq,hw''⟩:=hw';subst hw'';go_wp2_with fail
     go_meet
     case rel=>exact⟨rfl,aV _ _⟩
    ·rw[dif_neg hlt] at hba
     subst hba;have hdg:decide (i<l.length)=af:=decide_eq_false (by omega);clear hli hle;refine aI (by kernel_rfl) (by kernel_rfl) ?_;repeat(first|go_big_quiet_step (fail)|quiet_step (fail))
     refine wpQuiet_nil ?_;intro _ hw';obtain⟨uq,hw''⟩:=hw';subst hw'';go_wp2_with fail
     go_meet
     case rel=>exact⟨rfl,aV _ _⟩
  case rest=>
   obtain⟨rfl,b3⟩:=hcut;have h5:=h3.below b3;have x5:=x3.below b3;clear hfb hba hli;clear h3 x3 b3 h4 e0 c0 c1 c2 c3;cases bd with
   |true=>
    go_wp2_with fail
    go_ret;exact⟨rfl,h5.right,x5⟩
   |false=>
    obtain⟨A',c',h6⟩:=dH h5.p2;have e0:=h6.cell 0;have ef:=h6.free 0;have el:=h6.lt;obtain⟨c0,c1,c2,c3⟩:=h5.cells4;have cl:=h5.lt;have h7:O ((wc.alloc (.cells #[D E m.page,D E m.size,D E m.frame,D E m.rights] 75)).drew) (cz (.slice A' l.length c') l*(aa wc.heap.size #[D E m.page,D E m.size,D E m.frame,D E m.rights] 75*(aa p #[.slice A' l.length c'] 197*(aa w.heap.size #[D E m.page,D E m.size,D E m.frame,D E m.rights] 75*R)))):=(h6.new #[D E m.page,D E m.size,D E m.frame,D E m.rights] 75).drew.eq (by(simp only[aN,av,cy]));have x7:ak w ((wc.alloc (.cells #[D E m.page,D E m.size,D E m.frame,D E m.rights] 75)).drew):=(x5.alloc _).drew;have HI:=X (sd l m l.length c' wc.heap.size i A' _ _ (by omega) hil h7);clear h5 h6 x5 h7;generalize l.take i++m::l.drop i=l' at*
    go_wp2_with fail
    go_region_law (go_simp;go_at_call 194;refine HI.out.mono ?_;rintro e w6 ⟨A2,c2,rfl,h8,x8⟩;have k0:=h8.right.cell 0;have kf:=h8.right.free 0;have kl:=h8.right.lt)
    all_goals
     go_wp2_with fail
     go_ret;exact⟨rfl,fQ (h8.p2.set 0 (.slice A2 l'.length c2)).drop3,(x7.trans x8).set _ _⟩
 ·have hn:(bp m !=0)=ad:=by simpa using hc
  obtain⟨hy1,hy2⟩:=Bk.addC_check (l:=l) hc;rw[hy1,hy2];clear hy1 hy2 hc;generalize bp m=c at*
  go_enter func152,ntmps152;go_wp2_with(refine(HC _).mono ?_;rintro e w2 ⟨rfl,b2⟩)
  go_ret;exact⟨rfl,(H1.below b2).right,x1.below b2⟩
theorem oV{w:F}{R:ab}{g c:Nat}{l:List Mp}(i:Nat)(r:Int)(h:O w (cz (.slice (B (I g 0 C)) l.length c) l*R))(hi:i<l.length):
  O (w.setCell ⟨g,i*4+3,C⟩ (D E r)) (cz (.slice (B (I g 0 C)) l.length c) (l.take i++{l[i] with rights:=r}::l.drop (i+1))*R):=by
 have h1:=Has.rowSet (e:=75) (size:=4) h (i:=i*4+3) (by omega) (D E r);have hz:(l.take i++{l[i] with rights:=r}::l.drop (i+1)).length =l.length:=by simp;omega
 have he:(aP l).set (i*4+3) (D E r)=aP (l.take i++{l[i] with rights:=r}::l.drop (i+1)):=by
  have hs:l=l.take i++l[i]::l.drop (i+1):=by rw[←List.drop_eq_getElem_cons hi,List.take_append_drop]
  have e1:aP l=aP (l.take i)++(l[i].cells ++aP (l.drop (i+1))):=by
   conv=>lhs;rw[hs]
   rw[eD];rfl
  have e2:(aP (l.take i)).length =i*4:=by rw[de,List.length_take];omega
  rw[e1,eD,List.set_append_right _ _ (by omega),e2,show i*4+3 - i*4=3 by omega];rfl
 unfold cz;rw[hz,←he];exact h1
set_option maxHeartbeats 2000000 in
theorem tQ(p:Nat)(l:List Mp)(k r:Int)(R:ab)(w:F)(hl:Bk.Ok l)(hk:bX k)(h:O w (aX p l*R)):
  U prog 154 #[.pointer (B (I p 0 C)),.int .i64 k,.int .i64 r] w (cF (.tuple #[rz (Bk.protR l k r),D E (Bk.protC l k r)]) (aX p (Bk.protL l k r)*R) w):=by
 have H1:=h.new #[D E 0,D E 0,D E 0,D E 0] 75;have x1:=(T w).alloc (.cells #[D E 0,D E 0,D E 0,D E 0] 75);have HH:=cL k;unfold Bk.protR Bk.protC Bk.protL;cases hb:Bk.protB k r with
 |false=>
  change U _ _ _ w (cF (.tuple #[rz C,D E 1]) (aX p l*R) w);cases hh:cN k with
  |false=>
   rw[hh] at HH;clear hb hh;clear hk hl h;go_enter func154,ntmps154;go_wp2_with(refine(HH _).mono ?_;rintro e w2 ⟨rfl,hw⟩;have H3:=hw.symm▸H1;have x3:=hw.symm▸x1;clear hw;obtain⟨d0,d1,d2,d3⟩:=H3.cells4;obtain⟨f0,f1,f2,f3⟩:=H3.frees4;have fl:=H3.lt)
   refine ay (fun wz=>O wz (aa w.heap.size #[D E 0,D E 0,D E 0,D E 0] 75*(aX p l*R))∧ak w wz) ⟨H3.set4 _ _ _ _,aj⟩ ?_;rintro wz ⟨hz,xz⟩;exact Z (aF results154 rfl rfl (br hz)) rfl ⟨rfl,hz.right,xz⟩
  |true=>
   rw[hh] at HH;have hr:r<0∨7<r:=by
    unfold Bk.protB at hb;rw[hh] at hb;rcases Int.lt_or_le r 0 with h0|h0
    ·exact .inl h0
    ·rw[decide_eq_true h0] at hb
     simp at hb;exact .inr hb
   clear hb hh;rcases hr with h0|h7
   ·have hd:decide (r<0)=ad:=decide_eq_true h0
    clear hk hl h;go_enter func154,ntmps154;go_wp2_with(refine(HH _).mono ?_;rintro e w2 ⟨rfl,hw⟩;have H3:=hw.symm▸H1;have x3:=hw.symm▸x1;clear hw;obtain⟨d0,d1,d2,d3⟩:=H3.cells4;obtain⟨f0,f1,f2,f3⟩:=H3.frees4;have fl:=H3.lt)
    refine ay (fun wz=>O wz (aa w.heap.size #[D E 0,D E 0,D E 0,D E 0] 75*(aX p l*R))∧ak w wz) ⟨H3.set4 _ _ _ _,aj⟩ ?_;rintro wz ⟨hz,xz⟩;exact Z (aF results154 rfl rfl (br hz)) rfl ⟨rfl,hz.right,xz⟩
   ·have hd:decide (r<0)=af:=decide_eq_false (by omega)
    have hd7:decide (7<r)=ad:=decide_eq_true h7;clear hk hl h;go_enter func154,ntmps154;go_wp2_with(refine(HH _).mono ?_;rintro e w2 ⟨rfl,hw⟩;have H3:=hw.symm▸H1;have x3:=hw.symm▸x1;clear hw;obtain⟨d0,d1,d2,d3⟩:=H3.cells4;obtain⟨f0,f1,f2,f3⟩:=H3.frees4;have fl:=H3.lt)
    refine ay (fun wz=>O wz (aa w.heap.size #[D E 0,D E 0,D E 0,D E 0] 75*(aX p l*R))∧ak w wz) ⟨H3.set4 _ _ _ _,aj⟩ ?_;rintro wz ⟨hz,xz⟩;exact Z (aF results154 rfl rfl (br hz)) rfl ⟨rfl,hz.right,xz⟩
 |true=>
  have hbi:=Bk.protB_iff.1 hb;have hh:cN k=ad:=by unfold cN;simp;omega
  obtain⟨h0,h4,hr0,hr7⟩:=hbi;have hd:decide (r<0)=af:=decide_eq_false (by omega);have hd7:decide (7<r)=af:=decide_eq_false (by omega);rw[hh] at HH;rw[if_pos rfl,if_pos rfl,if_pos rfl];have hB:=oo l hl k hk p _ _ H1.p2;rcases Bk.place hl k with ⟨hf,_,hp⟩|⟨hi,ho,hf,_,_,_,hp⟩
  ·rw[hf] at hB
   rw[hf,hp r];change U _ _ _ w (cF (.tuple #[rz C,D E 5]) (aX p l*R) w);clear h hf hl hp hb hh;go_enter func154,ntmps154;go_wp2_with(first|(go_at_call 195;refine(HH _).mono ?_;rintro e w2 ⟨rfl,rfl⟩)|(go_at_call 192;refine hB.mono ?_;rintro e w2 ⟨i,_,rfl,_,b2⟩;have H3:=H1.below b2;have x3:=x1.below b2;obtain⟨d0,d1,d2,d3⟩:=H3.cells4;obtain⟨f0,f1,f2,f3⟩:=H3.frees4;have fl:=H3.lt))
   refine ay (fun wz=>O wz (aa w.heap.size #[D E 0,D E 0,D E 0,D E 0] 75*(aX p l*R))∧ak w wz) ⟨H3.set4 _ _ _ _,aj⟩ ?_;rintro wz ⟨hz,xz⟩;exact Z (aF results154 rfl rfl (br hz)) rfl ⟨rfl,hz.right,xz⟩
  ·rw[hf] at hB
   rw[hf,hp r];change U _ _ _ w (cF (.tuple #[rz (B {l[Bk.pos l k] with rights:=r}),D E 0]) _ w);have hq:=fun i (e:0≤k→i=Bk.pos l k)=>e h0;generalize Bk.pos l k=q at*
   clear h hf hl ho hb hp hh;go_enter func154,ntmps154;go_upto_region 6 with (first|(go_at_call 195;refine(HH _).mono ?_;rintro e w2 ⟨rfl,rfl⟩)|(go_at_call 192;refine hB.mono ?_;rintro e w2 ⟨i,_,rfl,hiq,b2⟩;obtain rfl:=hq _ hiq;clear hiq hq hB));have H3:=H1.below b2;have x3:=x1.below b2;clear H1 x1 b2;obtain⟨A,c,h3⟩:=dH H3.p2;have k0:=h3.cell 0;have kl:=h3.lt;obtain⟨g,rfl,gb,g0,g1,g2,g3⟩:=fk h3.right hi;have hbig:=gH h3.right;have h4:=oV i r h3.p2 hi;have x4:=x3.set ⟨g,i*4+3,C⟩ (D E r);have gf:w2.frozen? ⟨g,i*4+3,C⟩=af:=by
    obtain⟨b,hb,_,_,hf⟩:=Has.rowGet (e:=75) (size:=4) h3.right (i:=i*4+3) (u:=(aP l)[i*4+3]'(by rw[de];omega)) (List.getElem?_eq_getElem _);injection hb with hb
    injection hb with hb
    subst hb;exact hf
   have hrow:=Has.rowAt (e:=75) (size:=4) h3.p2 (by omega);obtain⟨g',cur,hg',_,_,_,_,hblk⟩:=hrow;injection hg' with hg'
   injection hg' with hg'
   subst hg';have hpg:=hblk.ne;have hpg':=hpg.symm;have hblk2:O w2 (aa g cur 75*(aa w.heap.size #[D E 0,D E 0,D E 0,D E 0] 75*(aa p #[.slice (B (I g 0 C)) l.length c] 197*R))):=hblk.eq (by(simp only[aN,av,cy]));have hrg:=hblk2.ne;have hrg':=hrg.symm;obtain⟨d0,d1,d2,d3⟩:=hblk2.right.cells4;obtain⟨f0,f1,f2,f3⟩:=hblk2.right.frees4;have fl:=hblk2.right.lt;clear hblk hblk2;have hz:(l.take i++{l[i] with rights:=r}::l.drop (i+1)).length =l.length:=by simp;omega
   have HZ:=X hz;clear hz;generalize hxo:l[i]=x at*
   have HX:=X hxo;clear hxo;have h5:O (w2.setCell ⟨g,i*4+3,C⟩ (D E r)) (aa w.heap.size #[D E 0,D E 0,D E 0,D E 0] 75*(aa p #[.slice (B (I g 0 C)) l.length c] 197*(cz (.slice (B (I g 0 C)) l.length c) (l.take i++{x with rights:=r}::l.drop (i+1))*R))):=h4.eq (by(simp only[aN,av,cy]));clear h3 h4 H3;go_wp2_with fail
   refine ay (fun wz=>O wz (aa w.heap.size #[D E x.page,D E x.size,D E x.frame,D E r] 75*(aa p #[.slice (B (I g 0 C)) l.length c] 197*(cz (.slice (B (I g 0 C)) l.length c) (l.take i++{x with rights:=r}::l.drop (i+1))*R)))∧ak w wz) ⟨h5.set4 _ _ _ _,aj⟩ ?_;rintro wz ⟨hz,xz⟩;exact Z (aF results154 rfl rfl (br hz)) rfl (by have e1:=HX.out;subst e1;exact⟨rfl,fQ (A:=B (I g 0 C)) (c:=c) (by rw[HZ.out];exact hz.right),xz⟩)
theorem we(p:Nat)(l:List Mp)(a:Ac)(R:ab)(w:F)(hl:Bk.Ok l)(ha:bX a.page)(h:O w (aX p l*R)):
  U prog 158 #[.pointer (B (I p 0 C)),.agg #[D E a.page,D E a.kind,vB a.user]] w (Pure (Bk.ans l a).val w):=by
 have h1:=(bc w).new #[D E a.page,D E a.kind,vB a.user] 77;have H2:=h1.new #[D E 0,D E 0,D E 0] 70;have G2:=(h.new #[D E a.page,D E a.kind,vB a.user] 77).new #[D E 0,D E 0,D E 0] 70;have x2:=((T w).alloc (.cells #[D E a.page,D E a.kind,vB a.user] 77)).alloc (.cells #[D E 0,D E 0,D E 0] 70);simp only[World.size_alloc] at H2 G2;have G3:O _ (aX p l*(aa (w.heap.size+1) #[D E 0,D E 0,D E 0] 70*(aa w.heap.size #[D E a.page,D E a.kind,vB a.user] 77*R))):=G2.eq (by(simp only[aN,av,cy]));have hF:=zF p l a.page _ _ hl ha G3;have c0:=G2.right.cell 0;cases hf:Bk.find l a.page with
 |none=>
  have hy:=X (show Bk.ans l a=⟨1,0,0⟩ by unfold Bk.ans;rw[hf]);rw[hf] at hF;change U _ _ _ _ (Pure (.tuple #[.agg #[D E 0,D E 0,D E 0,D E 0],vB af]) _) at hF;clear h h1 G3 G2 hf hl;go_enter func158,ntmps158;go_wp2_with(refine hF.mono ?_;rintro e w3 ⟨rfl,b3⟩;have H3:=H2.below b3;have x3:=x2.below b3;obtain⟨d0,d1,d2⟩:=H3.cells3;obtain⟨f0,f1,f2⟩:=H3.frees3;have fl:=H3.lt)
  refine ay (fun wz=>O wz (aa (w.heap.size+1) #[D E 1,D E 0,D E 0] 70*(aa w.heap.size #[D E a.page,D E a.kind,vB a.user] 77*cr w w.heap.size))∧ak w wz) ⟨(((H3.set 0 (D E 1)).set 1 (D E 0)).set 2 (D E 0)).alloc (.cells #[D E 0,D E 0,D E 0,D E 0] 75),aj⟩ ?_;rintro wz ⟨hz,xz⟩;exact Z (aR results158 rfl (cZ hz)) rfl ⟨by rw[hy.out];rfl,aA hz.right.right xz⟩
 |some x=>
  have hy:=X (show Bk.ans l a=cv x a by unfold Bk.ans;rw[hf]);rw[hf] at hF;change U _ _ _ _ (Pure (.tuple #[.agg #[D E x.page,D E x.size,D E x.frame,D E x.rights],vB ad]) _) at hF;clear h h1 G3 G2 hf hl;go_enter func158,ntmps158;go_wp2_with(first|(go_at_call 198;refine hF.mono ?_;rintro e w3 ⟨rfl,b3⟩;have H3:=H2.below b3;have x3:=x2.below b3;clear c0;obtain⟨a0,a1,a2⟩:=H3.right.cells3;have al:=H3.right.lt)|(fail))
  have H4:=H3.alloc (.cells #[D E x.page,D E x.size,D E x.frame,D E x.rights] 75);have x4:=x3.alloc (.cells #[D E x.page,D E x.size,D E x.frame,D E x.rights] 75);have HA:=X (fun W=>j6 x a.page a.kind a.user W);have hy2:=hy;clear hy;generalize cv x ⟨a.page,a.kind,a.user⟩=r at*
  go_wp2_with(refine(HA.out _).mono ?_;rintro e w5 ⟨rfl,b5⟩;have H5:=H4.below b5;have x5:=x4.below b5;obtain⟨r0,r1,r2⟩:=H5.cells3;obtain⟨f0,f1,f2⟩:=H5.frees3;have fl:=H5.lt)
  refine ay (fun wz=>O wz (aa (w.heap.size+1) #[D E r.fin,D E r.frame,D E r.rights] 70*(aa w.heap.size #[D E a.page,D E a.kind,vB a.user] 77*cr w w.heap.size))∧ak w wz) ⟨((H5.set 0 (D E r.fin)).set 1 (D E r.frame)).set 2 (D E r.rights),aj⟩ ?_;rintro wz ⟨hz,xz⟩;exact Z (aR results158 rfl (cZ hz)) rfl ⟨by rw[hy2.out];rfl,aA hz.right.right xz⟩
def cV(v:Y)(l:List Nat):ab:=bt 139 1 v l.length (l.map jK)
theorem oW{w:F}{R:ab}{A:Option ap}{n c:Nat}{l:List Nat}(h:O w (cV (.slice A n c) l*R)):n=l.length:=by
 rcases(Has.rowCases (e:=139) (size:=1) h) with ⟨hv,h0,_⟩|⟨g,cap,cur,hv,_⟩
 ·injection hv with a b
  omega
 ·injection hv
theorem oc{w:F}{R:ab}{A:Option ap}{n c:Nat}{l:List Nat}(h:O w (cV (.slice A n c) l*R)){k p:Nat}(hk:l[k]? =B p):
  ∃b,A=B (I b 0 C)∧b<w.heap.size∧w.cell? (I b k C)=B (.pointer (B (I p 0 C))):=by
 obtain rfl:=oW h;obtain⟨b,e,hb,hc,_⟩:=Has.rowGet (e:=139) (size:=1) h (i:=k) (u:=jK p) (by simp[hk]);exact⟨b,e,hb,hc⟩
theorem yq:kL prog 139 (.pointer C) 1 8:=⟨by kernel_rfl,rfl,by omega⟩
def aS:List Nat→List (List Mp)→ab
 |p::ps,L::Ls=>aX p L*aS ps Ls
 |_,_=>eZ True
theorem kj:∀{ps:List Nat} {Ls:List (List Mp)} {k p:Nat} {L:List Mp},ps[k]? =B p→Ls[k]? =B L→∃Q,aS ps Ls=aX p L*Q
 | [],_,_,_,_,h,_=>by simp at h
 |_::_,[],_,_,_,_,h=>by simp at h
 |q::ps,M::Ls,0,p,L,h1,h2=>by
  simp at h1 h2;subst h1;subst h2;exact⟨aS ps Ls,rfl⟩
 |q::ps,M::Ls,k+1,p,L,h1,h2=>by
  simp at h1 h2;obtain⟨Q,e1⟩:=kj h1 h2;refine⟨aX q M*Q,?_⟩;show aX q M*aS ps Ls=_;rw[e1];ac_rfl
theorem lC:∀(ps:List Nat) (Ls:List (List Mp)) (p:Nat) (L:List Mp),ps.length=Ls.length→aS (ps++[p]) (Ls++[L])=aX p L*aS ps Ls
 | [],[],p,L,_=>rfl
 | [],_::_,_,_,h=>by simp at h
 |_::_,[],_,_,h=>by simp at h
 |q::ps,M::Ls,p,L,h=>by
  show aX q M*aS (ps++[p]) (Ls++[L])=_;rw[lC ps Ls p L (by simpa using h)];show _=aX p L*(aX q M*aS ps Ls);ac_rfl
structure Wl where
 A:Option ap
 c:Nat
 bs:List Nat
 G:Option ap
 d:Nat
 z:Int
def cB(b sp:Nat)(H:List (List Mp))(f:Nat)(since:List Int)(y:Wl)(R:ab):ab:=
 aa b #[.pointer (B (I sp 0 C)),.slice y.A y.bs.length y.c,D E f,.slice y.G since.length y.d,D E 0,D E 0,D E y.z] 143*
  (cV (.slice y.A y.bs.length y.c) y.bs*(aq (.slice y.G since.length y.d) since*(aS y.bs H*R)))
def aE(b sp:Nat)(H:List (List Mp))(f:Nat)(since:List Int):ab:=ex fun y=>eZ (y.bs.length=H.length)*cB b sp H f since y (eZ True)
section
variable {w:F} {b sp f:Nat} {H:List (List Mp)} {since:List Int} {R:ab}
theorem dV(h:O w (aE b sp H f since*R)):∃y,y.bs.length=H.length∧O w (cB b sp H f since y R):=by
 unfold aE at h;obtain⟨y,h⟩:=aw.1 h;rw[aN] at h;obtain⟨hy,h⟩:=bZ.1 h;refine⟨y,hy,?_⟩;have h2:O w (eZ True*cB b sp H f since y R):=h.eq (by unfold cB;ac_rfl);exact h2.right
theorem dW{y:Wl}(hy:y.bs.length=H.length)(h:O w (cB b sp H f since y R)):O w (aE b sp H f since*R):=by
 unfold aE;refine aw.2 ⟨y,?_⟩;rw[aN];refine bZ.2 ⟨hy,?_⟩;have h2:O w (eZ True*cB b sp H f since y R):=bZ.2 ⟨trivial,h⟩;exact h2.eq (by unfold cB;ac_rfl)
theorem cu(h:O w (aE b sp H f since*R)):b<w.heap.size∧w.cell? (I b 0 C)=B (.pointer (B (I sp 0 C))):=by
 obtain⟨y,_,h⟩:=dV h;exact⟨Has.lt h,Has.cell h 0⟩
end
section
variable {w:F} {b f:Nat} {H:List (List Mp)} {R:ab}
end
section
variable {P:Program} {w:F} {R:ab}
theorem lE{t u ty e:TypeId}{i:TypeInfo}(ht:P.underlying t=B (.slice e))(hu:P.underlying u=B .string)(hi:P.info? e=B i)(hz:i.zero=B (.int .u8 0))(hs1:i.size=1)(hb1:i.bytes=1)
  (v:Y) (n:Nat) (xs:List Y) (h:O w (bt e 1 v n xs*R)) (s:ByteArray) (hb:n+s.size≤140737488355328):
  ∃v' w',(Builtin.append_ #[t,u] ty #[v,.string s]).run P w= .ok v' w'∧O w' (bt e 1 v' (n+s.size) (xs++Lib.byteCells s.data.toList)*R)∧ak w w':=by
 have h63:n+s.size≤maxLen:=by unfold maxLen;omega
 rcases h.rowCases with ⟨rfl,rfl,rfl,hR⟩|⟨g,cap,cur,rfl,hn,hc,hs,htk,hB⟩
 ·obtain⟨v',w',hr,ho,hg,_⟩:=Lib.run_append_own_string (P:=P) w w.heap.size t u ty e i ht hu hi hz hs1 hb1 (.slice C 0 0) 0 [] (World.ownsRow_nil w w.heap.size e 1) s h63 hb (Nat.le_refl _)
  refine⟨v',w',hr,h.rowGrown ho hg (.inr fun k hk=> ?_),(T w).grown hg⟩;rcases ho.2 with ⟨rfl,_⟩|⟨g,cap,cur,rfl,hge,_⟩
  ·simp[Value.ownBlock] at hk
  ·simp only[Value.ownBlock,Option.some.injEq] at hk
   omega
 ·have hl:(xs++Lib.byteCells s.data.toList).length =(n+s.size)*1:=by
   have hxl:=h.ownsRow.1;have:=Lib.strCells_length s;rw[Lib.strCells_eq] at this;rw[J,this];omega
  by_cases hroom:n+s.size≤cap
  ·have hr:=Lib.run_append_room_string (P:=P) w t u ty e i ht hu hi hs1 g n cap cur hB.heap s hroom (by omega)
   refine⟨_,_,hr,?_,(T w).setRow g _⟩;refine Has.rowOf (g:=g) (cap:=cap) (hB.upd (setRow_heap w g cur _ e _ hB.heap) (fun k _ hk=>setRow_other w g k _ hk)) hl hroom hc ?_ ?_
   ·have:=Lib.strCells_length s
    simp only[List.size_toArray,J,List.length_take,List.length_drop,Array.length_toList,this];omega
   ·have ht':cur.toList.take n=xs:=by simpa using htk
    rw[ht',←hl];exact List.take_left
  ·have hxl:xs.length=n:=by simpa using h.ownsRow.1
   have hr:=Lib.run_append_grow_string (P:=P) w t u ty e i (.int .u8 0) ht hu hi hz (I g 0 C) n cap xs (by rw[hs1];simpa using hxl) (h.ownsRow.cells (g:=g) rfl) s (by omega) (by omega) (by rw[hb1];exact growslice_fits (by omega) (by omega));have hge:=grownCap_ge w (n+s.size) cap e;refine⟨_,_,hr,?_,(T w).drew.alloc _⟩;refine Has.rowOf (g:=w.heap.size) (cap:=grownCap w (n+s.size) cap e) (Has.new (w:=w.drew) hB.right.drew _ e) hl hge (grownCap_le_maxLen w (n+s.size) cap e h63) ?_ ?_
   ·have hz1:(Value.int IntKind.u8 0).cells.size =1:=rfl
    have:=Lib.strCells_length s;simp only[Array.size_append,List.size_toArray,size_zeroCells,hz1,hxl,this];omega
   ·simp only[Array.toList_append,List.append_assoc]
    rw[←List.append_assoc,←hl];exact List.take_left
theorem km{ops:Array Oper}{rest:List Oper}{o:Oper}{a:Act}{Q:Exit→Act→F→Prop}(hgd:o.guard=C)(sl x:Operand)(t u:TypeId)
  (ho:o.op= .call {callee:= .builtin .append,args:= #[sl,x],argTypes:= #[t,u]})
  {e:TypeId} {i:TypeInfo} (ht:P.underlying t=B (.slice e)) (hu:P.underlying u=B .string) (hi:P.info? e=B i) (hz:i.zero=B (.int .u8 0)) (hs1:i.size=1) (hb1:i.bytes=1)
  (v:Y) (n:Nat) (xs:List Y) (hs:a.eval sl=v) (h:O w (bt e 1 v n xs*R)) (s:ByteArray) (hx:a.eval x= .string s) (hb:n+s.size≤140737488355328)
  (hk:∀v' w',O w' (bt e 1 v' (n+s.size) (xs++Lib.byteCells s.data.toList)*R)→ak w w'→wpList P ops Q rest (a.put o.dst v') w'):wpList P ops Q (o::rest) a w:=by
 refine wpList_plain hgd fun K hK=> ?_;obtain⟨v',w',hr,h2,h3⟩:=lE (P:=P) (ty:=o.type) ht hu hi hz hs1 hb1 v n xs h s hb;unfold Oper.wp execOp;simp only[ho,resolve,invoke,builtin,Sem.run_bind,Sem.run_pure,Result.andThen_ok,List.map_toArray,List.map_cons,List.map_nil,hs,hx,hr];exact hK _ _ (hk v' w' h2 h3)
end
def kh(q:Y)(m:Nat):Option Sc→ab
 |none=>eZ (q= .pointer C)
 |some σ=>ex fun(p:Nat)=>ex fun(sp:Nat)=>ex fun(W:Wc)=>ex fun(P:List Mp)=>eZ (q=jK p∧W.σ=σ∧W.Ok P∧W.H.length≤m)*(aE p sp W.H W.f W.since*ah sp W.σ)
def gS(d:Nat)(a v q:Y)(told:List UInt8)(R:ab):ab:=aa d #[a,v,q] 47*(bt 5 1 v told.length (Lib.byteCells told)*R)
def dG(d:Nat)(G:Y→ab)(told:List UInt8):ab:=ex fun a=>ex fun v=>ex fun q=>eZ ((a= .pointer C∨a=jK d)∧(told=[]→v= .slice C 0 0))*gS d a v q told (G q)
def aG(d m:Nat)(S:Option Sc)(told:List UInt8):ab:=dG d (fun q=>kh q m S) told
def aQ(d m:Nat)(S:Option Sc):ab:=ex fun a=>ex fun v=>ex fun q=>aa d #[a,v,q] 47*kh q m S
section
variable {w:F} {d m:Nat} {S:Option Sc} {told:List UInt8} {R:ab}
theorem iI{G:Y→ab}(h:O w (dG d G told*R)):∃a v q,(a= .pointer C∨a=jK d)∧(told=[]→v= .slice C 0 0)∧O w (gS d a v q told (G q*R)):=by
 unfold dG at h;obtain⟨a,h⟩:=aw.1 h;obtain⟨v,h⟩:=aw.1 h;obtain⟨q,h⟩:=aw.1 h;rw[aN] at h;obtain⟨ha,h⟩:=bZ.1 h;exact⟨a,v,q,ha.1,ha.2,h.eq (by unfold gS;ac_rfl)⟩
theorem jU{G:Y→ab}{a v q:Y}(ha:a= .pointer C∨a=jK d)(hv:told=[]→v= .slice C 0 0)(h:O w (gS d a v q told (G q*R))):O w (dG d G told*R):=by
 unfold dG;refine aw.2 ⟨a,aw.2 ⟨v,aw.2 ⟨q,?_⟩⟩⟩;rw[aN];exact bZ.2 ⟨⟨ha,hv⟩,h.eq (by unfold gS;ac_rfl)⟩
theorem eM(h:O w (aG d m S told*R)):∃a v q,(a= .pointer C∨a=jK d)∧(told=[]→v= .slice C 0 0)∧O w (gS d a v q told (kh q m S*R)):=iI (G:=fun q=>kh q m S) h
theorem gV{a v q:Y}(ha:a= .pointer C∨a=jK d)(hv:told=[]→v= .slice C 0 0)(h:O w (gS d a v q told (kh q m S*R))):O w (aG d m S told*R):=jU (G:=fun q=>kh q m S) ha hv h
end
theorem se:(prog.info? 44).map (·.size)=B 2:=by kernel_rfl
theorem sf:liesAt prog prog.depth 47 (3 / prog.cellsOf 47) 0 44 1=ad:=by kernel_rfl
theorem sg:(prog.info? 5).map (fun i=>(i.zero,i.size,i.bytes))=B (B (.int .u8 0),1,1):=by kernel_rfl
theorem qC:prog.cellsOf 5=1:=by kernel_rfl
theorem qD(d:Nat)(a v q:Y)(ha:a= .pointer C∨a=jK d)(R:ab)(w:F)(h:O w (aa d #[a,v,q] 47*R)):
  U prog 68 #[.pointer (B (I d 0 C))] w (cF (.tuple #[]) (aa d #[jK d,v,q] 47*R) w):=by
 obtain⟨j,hj,hjs⟩:=Option.map_eq_some_iff.1 se;obtain⟨c0,c1,c2⟩:=h.cells3;have f0:=h.free 0;have hsh:w.shape? d=B (47,3):=by simp[World.shape?,h.heap]
 have cl:=h.lt;rcases ha with rfl|rfl
 ·have h2:=h.set 0 (jK d)
  go_enter func68,ntmps68;go_wp2;rw[Lib.run_to_unsafe w (I d 0 C) underlying41 underlying184 hj (by rw[hjs];decide) hsh (Nat.zero_lt_succ 2)];simp only[Result.andThen];rw[Oper.upon_value];go_wp2;rw[run_callFunc_extern func108 (by kernel_rfl) (by kernel_rfl) (by kernel_rfl) (e:=Extern.AbiNoEscape.same) (by kernel_rfl)];rw[Lib.run_noEscape];simp only[Result.andThen];rw[Oper.upon_value];go_wp2;rw[Lib.run_from_unsafe w (I d 0 C) underlying184 underlying41 hj hsh sf];simp only[Result.andThen];rw[Oper.upon_value];go_wp2;go_end0
  exact⟨rfl,h2,(T w).set _ _⟩
 ·have c3:w.cell? (I d 0 C)=B (.pointer (B (I d 0 C))):=c0
  clear c0;go_enter func68,ntmps68;go_wp2;rw[Lib.run_neq_ptr_same w _ underlying41 hj];go_wp2;go_end0
  exact⟨rfl,h,T w⟩
theorem yt(d:Nat)(a v q:Y)(R:ab)(w:F)(h:O w (aa d #[a,v,q] 47*R)):
  U prog 12 #[.pointer (B (I d 0 C))] w (cF (.tuple #[]) (aa d #[.pointer C,.slice C 0 0,q] 47*R) w):=by
 obtain⟨c0,c1,c2⟩:=h.cells3;obtain⟨f0,f1,f2⟩:=h.frees3;have cl:=h.lt;have h2:=(h.set 0 (.pointer C)).set 1 (.slice C 0 0);go_enter func12,ntmps12;go_wp2;go_end0
 exact⟨rfl,h2,((T w).set _ _).set _ _⟩
theorem yu(d:Nat)(G:Y→ab)(told:List UInt8)(s:ByteArray)(hs:s.data.toList≠[])(hb:told.length+s.size≤140737488355328)(R:ab)(w:F)(h:O w (dG d G told*R)):
  U prog 43 #[.pointer (B (I d 0 C)),.string s] w (cF (.tuple #[D E s.size,.nilIface]) (dG d G (told++s.data.toList)*R) w):=by
 obtain⟨i,hi,hz,hs1,hb1⟩:=info_parts sg;obtain⟨a,v,q,ha,-,h⟩:=iI h;unfold gS at h;have HS:=X (fun(w':F) (v':Y) (h:O w' (gS d (jK d) v' q (told++s.data.toList) (G q*R)))=>jU (.inr rfl) (fun he=>absurd (List.append_eq_nil_iff.1 he).2 hs) h);unfold gS at HS;generalize G q*R=Q at*
 go_enter func43,ntmps43;go_wp2_with fail
 refine(qD d a v q ha _ w h).mono ?_;rintro e w1 ⟨rfl,h1,x1⟩;clear h ha;obtain⟨c0,c1,c2⟩:=h1.cells3;have cl:=h1.lt;have h2:O w1 (bt 5 1 v told.length (Lib.byteCells told)*(aa d #[jK d,v,q] 47*Q)):=h1.eq (by ac_rfl);go_wp2_with(at_builtin;refine km rfl _ _ 42 9 rfl underlying42 underlying9 hi hz hs1 hb1 _ _ _ rfl h2 s rfl hb ?_)
 intro v2 w2 h3 x3;clear h1 h2 c0 c1 c2 cl;have h4:O w2 (aa d #[jK d,v,q] 47*(bt 5 1 v2 (told.length+s.size) (Lib.byteCells told++Lib.byteCells s.data.toList)*Q)):=h3.eq (by ac_rfl);obtain⟨c0,c1,c2⟩:=h4.cells3;obtain⟨f0,f1,f2⟩:=h4.frees3;have cl:=h4.lt;have hv:∃A n c,v2= .slice A n c:=by
  rcases h3.rowCases with ⟨hv,_⟩|⟨g,cap,cur,hv,_⟩
  ·exact⟨_,_,_,hv⟩
  ·exact⟨_,_,_,hv⟩
 obtain⟨A,n,c,rfl⟩:=hv;have h5:=h4.set 1 (.slice A n c);have xe:ak w w2:=x1.trans x3;clear h3 h4 x1 x3;go_wp2;go_ret2
 refine⟨rfl,HS.out _ (.slice A n c) (h5.eq ?_),xe.set _ _⟩;have hl:(told++s.data.toList).length =told.length+s.size:=by rw[J,Array.length_toList];rfl
 rw[hl,Lib.byteCells_append];rfl
theorem Has.gone{w w':F}{R:ab}{g:Nat}{cs:Array Y}{t:TypeId}(h:O w (aa g cs t*R))(ho:∀k,k<w.heap.size→k≠g→w'.heap[k]? =w.heap[k]?):O w' R:=by
 obtain⟨_,s,h1,h2,d,rfl,rfl,q⟩:=h;refine⟨h2,fun k o hk=> ?_,q⟩;have hne:k≠g:=by
  rintro rfl;rcases d k with e'|e'
  ·simp[Hpm.single] at e'
  ·rw[e'] at hk;cases hk
 have h0:=Hpm.sub_union_right d s k o hk;have hlt:k<w.heap.size:=(Array.getElem?_eq_some_iff.1 h0).1;show w'.heap[k]? =B o;rw[ho k hlt hne];exact h0
theorem od(w:F)(g n k:Nat)(h:k≠g):(w.freeze (I g 0 C) n).heap[k]? =w.heap[k]? :=by
 unfold World.freeze;split
 ·rfl
 ·simp[Array.getElem?_modify,Ne.symm h]
theorem Ext.freeze{a w:F}(h:ak a w)(p:ap)(n:Nat):ak a (w.freeze p n):=by
 unfold World.freeze;split
 ·exact h
 ·exact⟨h.os,h.tape,h.output,by simpa using h.size⟩
theorem wg(d m:Nat)(S:Option Sc)(told:List UInt8)(R:ab)(w:F)(h:O w (aG d m S told*R)):
  U prog 14 #[.pointer (B (I d 0 C))] w (cF (.string ⟨told.toArray⟩) (aQ d m S*R) w):=by
 obtain⟨a,v,q,-,hv,h⟩:=eM h;unfold gS at h;have HS:=X (fun(w':F) (h:O w' (aa d #[a,v,q] 47*(kh q m S*R)))=>(by
  unfold aQ;refine aw.2 ⟨a,aw.2 ⟨v,aw.2 ⟨q,?_⟩⟩⟩;rw[aN];exact h:O w' (aQ d m S*R)))
 obtain⟨c0,c1,c2⟩:=h.drew.cells3;have cl:=h.lt;have hd:O w (bt 5 1 v told.length (Lib.byteCells told)*(aa d #[a,v,q] 47*(kh q m S*R))):=h.eq (by ac_rfl);by_cases h0:told=[]
 ·obtain rfl:=hv h0
  subst h0;have hUS:(Builtin.unsafeString_ #[62,3] 9 #[.pointer C,.int .i64 0]).run prog w.drew= .ok (.string .empty) w.drew:=Lib.run_unsafeString_none w.drew _ _ _ C;have hSD:(Builtin.unsafeSliceData_ #[42] 62 #[.slice C 0 0]).run prog w.drew= .ok (.pointer C) w.drew:=rfl;have hR:=hd.right;clear h hd hv;go_enter func14,ntmps14;go_wp2;go_region
  all_goals (go_wp2;go_ret;exact⟨rfl,HS.out _ hR,(T w).drew⟩)
 ·clear hv
  rcases Has.rowCases hd with ⟨_,hn,_⟩|⟨g,cap,cur,rfl,hn,hc,hs,htk,hB⟩
  ·exact absurd (List.length_eq_zero_iff.1 hn) h0
  have hl0:told.length≠0:=by simpa using h0
  have hSD:(Builtin.unsafeSliceData_ #[42] 62 #[.slice (B (I g 0 C)) told.length cap]).run prog w.drew= .ok (.pointer (B (I g 0 C))) w.drew:=Lib.run_unsafeSliceData_row _ _ _ _ _ _ (by omega);have hUS:(Builtin.unsafeString_ #[62,3] 9 #[.pointer (B (I g 0 C)),.int .i64 told.length]).run prog w.drew= .ok (.string ⟨told.toArray⟩) (w.drew.freeze (I g 0 C) told.length):=by
   refine Lib.run_unsafeString_row w.drew 62 3 9 5 underlying62 qC g cur.size (by have hg':w.drew.heap[g]? =B (.cells cur 5 (0,0)):=hB.heap;simp[World.shape?,hg']) told h0 (by omega) (by unfold maxLen at hc;omega) ?_;intro j x hx;exact(Has.ownsRow hd).cells (g:=g) rfl j (.int .u8 x.toNat) (by simp[Lib.byteCells,hx])
  have hR:O (w.drew.freeze (I g 0 C) told.length) (aa d #[a,.slice (B (I g 0 C)) told.length cap,q] 47*(kh q m S*R)):=Has.gone (w:=w.drew) hB.drew fun k _ hk=>od _ _ _ _ hk;have hE:=(T w).drew.freeze (I g 0 C) told.length;clear h hd hB hs htk hc hn;go_enter func14,ntmps14;go_wp2;go_region
  all_goals (go_wp2;go_ret;exact⟨rfl,HS.out _ hR,hE⟩)
open Go.Shelf Go.RowKit Go.Lib Go.Sort
def kS:Go.Shelf.Ren:=⟨fun|156=>44|165=>69|166=>43|169=>14|240=>68|241=>109|276=>108|277=>139|n=>n,fun|31=>22|9=>9|3=>3|4=>4|0=>0|20=>20|72=>44|76=>109|70=>41|37=>42|75=>108|127=>62|164=>184|5=>5|80=>50|n=>n,fun|n=>n⟩
theorem wh:Go.Proofs.Lays.n156 prog kS:={
 mixed:=by kernel_rfl
 f156:=func44.trans (congrArg B (by kernel_rfl))
 f165:=func69.trans (congrArg B (by kernel_rfl))
 f166:=func43.trans (congrArg B (by kernel_rfl))
 f169:=func14.trans (congrArg B (by kernel_rfl))
 f240:=func68.trans (congrArg B (by kernel_rfl))
 f241:=func109.trans (congrArg B (by kernel_rfl))
 f276:=func108.trans (congrArg B (by kernel_rfl))
 f277:=func139.trans (congrArg B (by kernel_rfl))
 t0:=underlying0
 a0:=Tryz.isAgg0
 z0:=Tryz.sizeOf0
 v0:=Tryz.zeroValue0
 t3:=underlying3
 a3:=Tryz.isAgg3
 z3:=Tryz.sizeOf3
 v3:=Tryz.zeroValue3
 t4:=underlying4
 a4:=Tryz.isAgg4
 z4:=Tryz.sizeOf4
 v4:=Tryz.zeroValue4
 t9:=underlying9
 a9:=Tryz.isAgg9
 z9:=Tryz.sizeOf9
 v9:=Tryz.zeroValue9
 t20:=underlying20
 a20:=Tryz.isAgg20
 z20:=Tryz.sizeOf20
 v20:=Tryz.zeroValue20
 t31:=underlying22
 a31:=Tryz.isAgg22
 z31:=Tryz.sizeOf22
 v31:=Tryz.zeroValue22
 t37:=underlying42
 a37:=Tryz.isAgg42
 z37:=Tryz.sizeOf42
 v37:=Tryz.zeroValue42
 t70:=underlying41
 a70:=Tryz.isAgg41
 z70:=Tryz.sizeOf41
 v70:=Tryz.zeroValue41
 t72:=underlying44
 a72:=Tryz.isAgg44
 z72:=Tryz.sizeOf44
 v72:=Tryz.zeroValue44
 t75:=underlying108
 a75:=Tryz.isAgg108
 z75:=Tryz.sizeOf108
 v75:=Tryz.zeroValue108
 t76:=underlying109
 a76:=Tryz.isAgg109
 z76:=Tryz.sizeOf109
 v76:=Tryz.zeroValue109
 t127:=underlying62
 a127:=Tryz.isAgg62
 z127:=Tryz.sizeOf62
 v127:=Tryz.zeroValue62
 t164:=underlying184
 a164:=Tryz.isAgg184
 z164:=Tryz.sizeOf184
 v164:=Tryz.zeroValue184}
theorem kn:Builder.Extra prog kS:={
 sizeBuilder:=by kernel_rfl
 liesBuilder:=by kernel_rfl
 t5:=underlying5
 a5:=Tryz.isAgg5
 z5:=Tryz.sizeOf5
 v5:=Tryz.zeroValue5
 infoByte:=by kernel_rfl
 cellsByte:=by kernel_rfl
 sizeByte:=by kernel_rfl
 neB5:=by decide}
theorem oe(bk o c:Nat)(xs:List ByteArray)(sep:ByteArray)(w:F)(hcells:∀(j:Nat) x,xs[j]? =B x→w.cell? ⟨bk,o+j,C⟩=B (.string x))(hbk:bk<w.heap.size)(hN:xs.length≤140737488355328)(hcap:xs.length≤c)(hlen:(Lib.join (xs.map (·.data.toList)) sep.data.toList).length ≤140737488355328):
  U prog 44 #[.slice (B (I bk o C)) xs.length c,.string sep] w fun e w'=>e= .returned (.string ⟨(Lib.join (xs.map (·.data.toList)) sep.data.toList).toArray⟩)∧Below w.heap.size w w':=Any.strings_Join wh kn bk o c xs sep w hcells hbk hN hcap hlen
def og:Go.Shelf.Ren:=⟨fun|171=>42|243=>67|246=>107|283=>135|284=>136|285=>137|286=>138|129=>169|317=>168|318=>170|319=>171|320=>172|337=>205|338=>206|n=>n,fun|3=>3|9=>9|2=>2|4=>4|171=>221|0=>0|53=>92|37=>42|5=>5|173=>224|212=>261|51=>174|20=>20|213=>262|46=>39|232=>308|233=>309|n=>n,fun|17=>3|18=>4|19=>5|n=>n⟩
theorem tR:Go.Proofs.LaysM.n171 prog og:={
 mixed:=by kernel_rfl
 f129:=func169.trans (congrArg B (by kernel_rfl))
 f171:=func42.trans (congrArg B (by kernel_rfl))
 f243:=func67.trans (congrArg B (by kernel_rfl))
 f246:=func107.trans (congrArg B (by kernel_rfl))
 f283:=func135.trans (congrArg B (by kernel_rfl))
 f284:=func136.trans (congrArg B (by kernel_rfl))
 f285:=func137.trans (congrArg B (by kernel_rfl))
 f286:=func138.trans (congrArg B (by kernel_rfl))
 f317:=func168.trans (congrArg B (by kernel_rfl))
 f318:=func170.trans (congrArg B (by kernel_rfl))
 f319:=func171.trans (congrArg B (by kernel_rfl))
 f320:=func172.trans (congrArg B (by kernel_rfl))
 f337:=func205.trans (congrArg B (by kernel_rfl))
 f338:=func206.trans (congrArg B (by kernel_rfl))
 t0:=underlying0
 a0:=Tryz.isAgg0
 z0:=Tryz.sizeOf0
 v0:=Tryz.zeroValue0
 t2:=underlying2
 a2:=Tryz.isAgg2
 z2:=Tryz.sizeOf2
 v2:=Tryz.zeroValue2
 t3:=underlying3
 a3:=Tryz.isAgg3
 z3:=Tryz.sizeOf3
 v3:=Tryz.zeroValue3
 t4:=underlying4
 a4:=Tryz.isAgg4
 z4:=Tryz.sizeOf4
 v4:=Tryz.zeroValue4
 t5:=underlying5
 a5:=Tryz.isAgg5
 z5:=Tryz.sizeOf5
 v5:=Tryz.zeroValue5
 t9:=underlying9
 a9:=Tryz.isAgg9
 z9:=Tryz.sizeOf9
 v9:=Tryz.zeroValue9
 t20:=underlying20
 a20:=Tryz.isAgg20
 z20:=Tryz.sizeOf20
 v20:=Tryz.zeroValue20
 t37:=underlying42
 a37:=Tryz.isAgg42
 z37:=Tryz.sizeOf42
 v37:=Tryz.zeroValue42
 t46:=underlying39
 a46:=Tryz.isAgg39
 z46:=Tryz.sizeOf39
 v46:=Tryz.zeroValue39
 t51:=underlying174
 a51:=Tryz.isAgg174
 z51:=Tryz.sizeOf174
 v51:=Tryz.zeroValue174
 t53:=underlying92
 a53:=Tryz.isAgg92
 z53:=Tryz.sizeOf92
 v53:=Tryz.zeroValue92
 t171:=underlying221
 a171:=Tryz.isAgg221
 z171:=Tryz.sizeOf221
 v171:=Tryz.zeroValue221
 t173:=underlying224
 a173:=Tryz.isAgg224
 z173:=Tryz.sizeOf224
 v173:=Tryz.zeroValue224
 t212:=underlying261
 a212:=Tryz.isAgg261
 z212:=Tryz.sizeOf261
 v212:=Tryz.zeroValue261
 t213:=underlying262
 a213:=Tryz.isAgg262
 z213:=Tryz.sizeOf262
 t232:=underlying308
 a232:=Tryz.isAgg308
 z232:=Tryz.sizeOf308
 v232:=Tryz.zeroValue308
 t233:=underlying309
 a233:=Tryz.isAgg309
 z233:=Tryz.sizeOf309
 v233:=Tryz.zeroValue309
 g17:=by kernel_rfl
 g18:=by kernel_rfl
 g19:=by kernel_rfl
 i0:=by kernel_rfl
 i2:=by kernel_rfl
 i3:=by kernel_rfl
 i4:=by kernel_rfl
 i5:=by kernel_rfl
 i9:=by kernel_rfl
 i20:=by kernel_rfl
 i37:=by kernel_rfl
 i46:=by kernel_rfl
 i51:=by kernel_rfl
 i53:=by kernel_rfl
 i171:=by kernel_rfl
 i173:=by kernel_rfl
 i212:=by kernel_rfl
 i232:=by kernel_rfl
 i233:=by kernel_rfl
 m17:=by kernel_rfl
 m18:=by kernel_rfl
 m19:=by kernel_rfl}
theorem oh(n:Int)(h0: -9223372036854775808≤n)(h1:n≤9223372036854775807)(w:F)(htab:Lib.TabIs prog w "internal/strconv.uint64pow10" .u64 Lib.pow10Tab):
  U prog 42 #[.int .i64 n] w fun e w'=>e= .returned (.string ⟨(Lib.itoa n).toArray⟩)∧∃k os,w'=grow (w.drewN k) os:=Any.strconv_Itoa tR n h0 h1 w htab
def oi:Go.Shelf.Ren:=⟨fun|172=>41|244=>65|245=>66|247=>102|279=>103|280=>104|281=>105|282=>106|287=>132|316=>133|171=>42|205=>134|321=>166|322=>167|243=>67|246=>107|283=>135|284=>136|285=>137|286=>138|129=>169|317=>168|318=>170|319=>171|320=>172|337=>205|338=>206|n=>n,fun|9=>9|3=>3|75=>108|76=>109|4=>4|5=>5|167=>177|37=>42|0=>0|85=>178|2=>2|168=>180|53=>92|175=>215|46=>39|210=>219|127=>62|145=>260|143=>258|21=>21|171=>221|173=>224|212=>261|51=>174|20=>20|213=>262|232=>308|233=>309|80=>50|n=>n,fun|15=>1|16=>2|17=>3|18=>4|19=>5|n=>n⟩
theorem lF:Go.Proofs.LaysC.n172 prog oi:={
 mixed:=by kernel_rfl
 f129:=func169.trans (congrArg B (by kernel_rfl))
 f171:=func42.trans (congrArg B (by kernel_rfl))
 f172:=func41.trans (congrArg B (by kernel_rfl))
 f205:=func134.trans (congrArg B (by kernel_rfl))
 f243:=func67.trans (congrArg B (by kernel_rfl))
 f244:=func65.trans (congrArg B (by kernel_rfl))
 f245:=func66.trans (congrArg B (by kernel_rfl))
 f246:=func107.trans (congrArg B (by kernel_rfl))
 f247:=func102.trans (congrArg B (by kernel_rfl))
 f279:=func103.trans (congrArg B (by kernel_rfl))
 f280:=func104.trans (congrArg B (by kernel_rfl))
 f281:=func105.trans (congrArg B (by kernel_rfl))
 f282:=func106.trans (congrArg B (by kernel_rfl))
 f283:=func135.trans (congrArg B (by kernel_rfl))
 f284:=func136.trans (congrArg B (by kernel_rfl))
 f285:=func137.trans (congrArg B (by kernel_rfl))
 f286:=func138.trans (congrArg B (by kernel_rfl))
 f287:=func132.trans (congrArg B (by kernel_rfl))
 f316:=func133.trans (congrArg B (by kernel_rfl))
 f317:=func168.trans (congrArg B (by kernel_rfl))
 f318:=func170.trans (congrArg B (by kernel_rfl))
 f319:=func171.trans (congrArg B (by kernel_rfl))
 f320:=func172.trans (congrArg B (by kernel_rfl))
 f321:=func166.trans (congrArg B (by kernel_rfl))
 f322:=func167.trans (congrArg B (by kernel_rfl))
 f337:=func205.trans (congrArg B (by kernel_rfl))
 f338:=func206.trans (congrArg B (by kernel_rfl))
 t0:=underlying0
 a0:=Tryz.isAgg0
 z0:=Tryz.sizeOf0
 v0:=Tryz.zeroValue0
 t2:=underlying2
 a2:=Tryz.isAgg2
 z2:=Tryz.sizeOf2
 v2:=Tryz.zeroValue2
 t3:=underlying3
 a3:=Tryz.isAgg3
 z3:=Tryz.sizeOf3
 v3:=Tryz.zeroValue3
 t4:=underlying4
 a4:=Tryz.isAgg4
 z4:=Tryz.sizeOf4
 v4:=Tryz.zeroValue4
 t5:=underlying5
 a5:=Tryz.isAgg5
 z5:=Tryz.sizeOf5
 v5:=Tryz.zeroValue5
 t9:=underlying9
 a9:=Tryz.isAgg9
 z9:=Tryz.sizeOf9
 v9:=Tryz.zeroValue9
 t20:=underlying20
 a20:=Tryz.isAgg20
 z20:=Tryz.sizeOf20
 v20:=Tryz.zeroValue20
 t21:=underlying21
 a21:=Tryz.isAgg21
 z21:=Tryz.sizeOf21
 v21:=Tryz.zeroValue21
 t37:=underlying42
 a37:=Tryz.isAgg42
 z37:=Tryz.sizeOf42
 v37:=Tryz.zeroValue42
 t46:=underlying39
 a46:=Tryz.isAgg39
 z46:=Tryz.sizeOf39
 v46:=Tryz.zeroValue39
 t51:=underlying174
 a51:=Tryz.isAgg174
 z51:=Tryz.sizeOf174
 v51:=Tryz.zeroValue174
 t53:=underlying92
 a53:=Tryz.isAgg92
 z53:=Tryz.sizeOf92
 v53:=Tryz.zeroValue92
 t75:=underlying108
 a75:=Tryz.isAgg108
 z75:=Tryz.sizeOf108
 v75:=Tryz.zeroValue108
 t76:=underlying109
 a76:=Tryz.isAgg109
 z76:=Tryz.sizeOf109
 v76:=Tryz.zeroValue109
 t85:=underlying178
 a85:=Tryz.isAgg178
 z85:=Tryz.sizeOf178
 v85:=Tryz.zeroValue178
 t127:=underlying62
 a127:=Tryz.isAgg62
 z127:=Tryz.sizeOf62
 v127:=Tryz.zeroValue62
 t143:=underlying258
 a143:=Tryz.isAgg258
 z143:=Tryz.sizeOf258
 v143:=Tryz.zeroValue258
 t145:=underlying260
 a145:=Tryz.isAgg260
 z145:=Tryz.sizeOf260
 v145:=Tryz.zeroValue260
 t167:=underlying177
 a167:=Tryz.isAgg177
 z167:=Tryz.sizeOf177
 v167:=Tryz.zeroValue177
 t168:=underlying180
 a168:=Tryz.isAgg180
 z168:=Tryz.sizeOf180
 v168:=Tryz.zeroValue180
 t171:=underlying221
 a171:=Tryz.isAgg221
 z171:=Tryz.sizeOf221
 v171:=Tryz.zeroValue221
 t173:=underlying224
 a173:=Tryz.isAgg224
 z173:=Tryz.sizeOf224
 v173:=Tryz.zeroValue224
 t175:=underlying215
 a175:=Tryz.isAgg215
 z175:=Tryz.sizeOf215
 v175:=Tryz.zeroValue215
 t210:=underlying219
 a210:=Tryz.isAgg219
 z210:=Tryz.sizeOf219
 v210:=Tryz.zeroValue219
 t212:=underlying261
 a212:=Tryz.isAgg261
 z212:=Tryz.sizeOf261
 v212:=Tryz.zeroValue261
 t213:=underlying262
 a213:=Tryz.isAgg262
 z213:=Tryz.sizeOf262
 t232:=underlying308
 a232:=Tryz.isAgg308
 z232:=Tryz.sizeOf308
 v232:=Tryz.zeroValue308
 t233:=underlying309
 a233:=Tryz.isAgg309
 z233:=Tryz.sizeOf309
 v233:=Tryz.zeroValue309
 g15:=by kernel_rfl
 g16:=by kernel_rfl
 g17:=by kernel_rfl
 g18:=by kernel_rfl
 g19:=by kernel_rfl
 t80:=underlying50
 a80:=Tryz.isAgg50
 z80:=Tryz.sizeOf50
 v80:=Tryz.zeroValue50
 i0:=by kernel_rfl
 i2:=by kernel_rfl
 i3:=by kernel_rfl
 i4:=by kernel_rfl
 i5:=by kernel_rfl
 i9:=by kernel_rfl
 i20:=by kernel_rfl
 i21:=by kernel_rfl
 i37:=by kernel_rfl
 i46:=by kernel_rfl
 i51:=by kernel_rfl
 i53:=by kernel_rfl
 i75:=by kernel_rfl
 i76:=by kernel_rfl
 i80:=by kernel_rfl
 i85:=by kernel_rfl
 i127:=by kernel_rfl
 i143:=by kernel_rfl
 i145:=by kernel_rfl
 i167:=by kernel_rfl
 i168:=by kernel_rfl
 i171:=by kernel_rfl
 i173:=by kernel_rfl
 i175:=by kernel_rfl
 i210:=by kernel_rfl
 i212:=by kernel_rfl
 i232:=by kernel_rfl
 i233:=by kernel_rfl
 m15:=by kernel_rfl
 m16:=by kernel_rfl
 m17:=by kernel_rfl
 m18:=by kernel_rfl
 m19:=by kernel_rfl
 c0:=by kernel_rfl
 c2:=by kernel_rfl
 c3:=by kernel_rfl
 c4:=by kernel_rfl
 c5:=by kernel_rfl
 c9:=by kernel_rfl
 c20:=by kernel_rfl
 c21:=by kernel_rfl
 c37:=by kernel_rfl
 c46:=by kernel_rfl
 c51:=by kernel_rfl
 c53:=by kernel_rfl
 c75:=by kernel_rfl
 c76:=by kernel_rfl
 c80:=by kernel_rfl
 c85:=by kernel_rfl
 c127:=by kernel_rfl
 c143:=by kernel_rfl
 c145:=by kernel_rfl
 c167:=by kernel_rfl
 c168:=by kernel_rfl
 c171:=by kernel_rfl
 c173:=by kernel_rfl
 c175:=by kernel_rfl
 c210:=by kernel_rfl
 c212:=by kernel_rfl
 c213:=by kernel_rfl
 c232:=by kernel_rfl
 c233:=by kernel_rfl}
theorem lg(s:ByteArray)(hmax:s.size≤9223372036854775806)(v:Int)(h:Lib.atoiAll s.data.toList= .ok v)(w:F):
  U prog 41 #[.string s] w fun e w'=>e= .returned (.tuple #[.int .i64 v,.nilIface])∧(w'=w∨∃t,w'=Lib.bytesWorld w 5 t):=Any.strconv_Atoi_ok lF s hmax v h w
theorem iJ(s:ByteArray)(hlim:s.size≤281474976710656)(h:Lib.atoiAll s.data.toList= .range)(tp:TypeId)(p:Y)(w:F)(hvar:w.var? prog "strconv.ErrRange" =B #[.iface tp p]):
  U prog 41 #[.string s] w fun e w'=>∃N,e= .returned (.tuple #[.int .i64 (Lib.atoiSat s.data.toList),.iface 180 (.pointer (B (I N 0 C)))])∧w.heap.size≤N∧w'.heap[N]? =B (.cells #[.string ⟨#[65,116,111,105]⟩,.string s,.iface tp p] 219 (0,0))∧Below w.heap.size w w':=Any.strconv_Atoi_range_var lF s hlim h tp p w hvar
def oX:Go.Shelf.Ren:=⟨fun|144=>11|143=>17|219=>40|217=>61|225=>62|224=>63|267=>64|266=>100|314=>101|n=>n,fun|9=>9|4=>4|3=>3|5=>5|46=>39|146=>175|51=>174|n=>n,fun|1=>0|n=>n⟩
theorem wi:Go.Proofs.Lays.n144 prog oX:={
 mixed:=by kernel_rfl
 f143:=func17.trans (congrArg B (by kernel_rfl))
 f144:=func11.trans (congrArg B (by kernel_rfl))
 f217:=func61.trans (congrArg B (by kernel_rfl))
 f219:=func40.trans (congrArg B (by kernel_rfl))
 f224:=func63.trans (congrArg B (by kernel_rfl))
 f225:=func62.trans (congrArg B (by kernel_rfl))
 f266:=func100.trans (congrArg B (by kernel_rfl))
 f267:=func64.trans (congrArg B (by kernel_rfl))
 f314:=func101.trans (congrArg B (by kernel_rfl))
 t3:=underlying3
 a3:=Tryz.isAgg3
 z3:=Tryz.sizeOf3
 v3:=Tryz.zeroValue3
 t4:=underlying4
 a4:=Tryz.isAgg4
 z4:=Tryz.sizeOf4
 v4:=Tryz.zeroValue4
 t5:=underlying5
 a5:=Tryz.isAgg5
 z5:=Tryz.sizeOf5
 v5:=Tryz.zeroValue5
 t9:=underlying9
 a9:=Tryz.isAgg9
 z9:=Tryz.sizeOf9
 v9:=Tryz.zeroValue9
 t46:=underlying39
 a46:=Tryz.isAgg39
 z46:=Tryz.sizeOf39
 v46:=Tryz.zeroValue39
 t51:=underlying174
 a51:=Tryz.isAgg174
 z51:=Tryz.sizeOf174
 v51:=Tryz.zeroValue174
 t146:=underlying175
 a146:=Tryz.isAgg175
 z146:=Tryz.sizeOf175
 v146:=Tryz.zeroValue175
 g1:=by kernel_rfl}
theorem ja(s:ByteArray)(c:UInt8)(w:F):
  U prog 11 #[.string s,.string ⟨#[c]⟩] w fun e w'=>e= .returned (.bool (decide (0≤Lib.indexByte s.data.toList c)))∧w'=w:=Any.strings_Contains_one wi s c w
def oY:Go.Shelf.Ren:=⟨fun|229=>18|n=>n,fun|9=>9|40=>54|31=>22|152=>104|3=>3|0=>0|4=>4|21=>21|154=>106|n=>n,fun|n=>n⟩
theorem wj:Go.Proofs.Lays.n229 prog oY:={
 mixed:=by kernel_rfl
 f229:=func18.trans (congrArg B (by kernel_rfl))
 t0:=underlying0
 a0:=Tryz.isAgg0
 z0:=Tryz.sizeOf0
 v0:=Tryz.zeroValue0
 t3:=underlying3
 a3:=Tryz.isAgg3
 z3:=Tryz.sizeOf3
 v3:=Tryz.zeroValue3
 t4:=underlying4
 a4:=Tryz.isAgg4
 z4:=Tryz.sizeOf4
 v4:=Tryz.zeroValue4
 t9:=underlying9
 a9:=Tryz.isAgg9
 z9:=Tryz.sizeOf9
 v9:=Tryz.zeroValue9
 t21:=underlying21
 a21:=Tryz.isAgg21
 z21:=Tryz.sizeOf21
 v21:=Tryz.zeroValue21
 t31:=underlying22
 a31:=Tryz.isAgg22
 z31:=Tryz.sizeOf22
 v31:=Tryz.zeroValue22
 t40:=underlying54
 a40:=Tryz.isAgg54
 z40:=Tryz.sizeOf54
 v40:=Tryz.zeroValue54
 t152:=underlying104
 a152:=Tryz.isAgg104
 z152:=Tryz.sizeOf104
 v152:=Tryz.zeroValue104
 t154:=underlying106
 a154:=Tryz.isAgg106
 z154:=Tryz.sizeOf106
 v154:=Tryz.zeroValue106}
theorem ib(g:Nat)(lb:Array Y)(eg:∀args w,(callFunc g args).run prog w= .ok (.enter g args) w)(p:Nat→Bool)(s:ByteArray)(w:F)(hs:s.size≤4294967296)(hp:PredAtRunes prog g lb p w):
  U prog 18 #[.string s,.func (.func g) #[] lb] w fun e w'=>∃A,e= .returned (.slice (B (I A 0 C)) (Lib.goFieldsP p s).length (Lib.goFieldsP p s).length)∧w.heap.size≤A∧
   w'.ownsRow w.heap.size 9 1 (.slice (B (I A 0 C)) (Lib.goFieldsP p s).length (Lib.goFieldsP p s).length) (Lib.goFieldsP p s).length ((Lib.goFieldsP p s).map Value.string)∧Below w.heap.size w w':=Any.strings_FieldsFunc_runes wj g lb eg p s w hs hp (by kernel_rfl) (by kernel_rfl)
end Go.Proofs.YtmfheghbgihdmaaGreatDoor
