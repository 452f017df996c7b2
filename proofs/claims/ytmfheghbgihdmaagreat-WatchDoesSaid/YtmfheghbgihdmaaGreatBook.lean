/- Contracts of package book: New, List, Copy, Find, Drop. -/
import Derived.Test.YtmfheghbgihdmaaGreatCoreP
import Derived.Test.YtmfheghbgihdmaaGreatWalkM2
import Derived.Test.YtmfheghbgihdmaaGreatRefPage
import Derived.Test.YtmfheghbgihdmaaGreatFrames3
import Derived.Shelf.Spec.SlicesInsert
import Derived.Laws.NewBlocks
import Derived.Lib.AppendZerosOnto
import Derived.Deep.RegionLaw
import Derived.Deep.AppendLies
import Derived.Test.YtmfheghbgihdmaaGreatMpRow
import Derived.Test.YtmfheghbgihdmaaGreatRowsO
namespace Go.Proofs.YtmfheghbgihdmaaGreat
open Go.Value renaming bool→vB
open Option renaming none→d,some→y
open Go.Value renaming int→f
open Go.IntKind renaming i64→o,wrap_i64→U
open Go.Lib renaming hid→s
open Go.Addr renaming mk→z
open Go.Proofs.YtmfheghbgihdmaaGreat.Bk renaming pos→B,find→L,bad→N,Ok→O,add→X,ans→Y,addC→Z,addC_check→ad,place→af,dropR→ag,dropC→an,dropL→ax,addC_bad→a3,addC_ok→a4,protR→a5,protC→a6,protL→a7,protB→bb
open Go renaming bodyPost_ret→C,World→E,Calls→F
open Go.Proofs.YtmfheghbgihdmaaGreat renaming Has→D,Mp→M,Ext→S
open Bool renaming false→H,true→I
open List renaming length_append→J
open Go.Proofs.YtmfheghbgihdmaaGreat.Ext renaming refl→K,cells→T
open Tryz
open Go.RowKit
set_option maxRecDepth 100000
theorem xq(R:ab)(w:E)(h:D w R):F prog 81 #[] w fun e w'=>∃p,cI (.pointer (y (z p 0 d))) (bq p []*R) w e w':=by
 have h1:=h.new #[.slice d 0 0] 211;have h2:D (w.alloc (.cells #[.slice d 0 0] 211)) (aa w.heap.size #[.slice d 0 0] 211*(bO (.slice d ([]:List M).length 0) []*R)):=(Has.rowNil h1).p2;go_enter func81,ntmps81;go_wp2;go_ret;exact⟨_,rfl,fW h2,(K w).alloc _⟩
theorem uE(p:Nat)(l:List M)(R:ab)(w:E)(hs:l.length≤1000000)(h:D w (bq p l*R)):
  F prog 85 #[.pointer (y (z p 0 d))] w (p7 l w):=by
 obtain⟨A,c,h⟩:=d9 h;have hC:=rK l A l.length c _ w hs h.p2;have c0:=h.cell 0;have hp:=h.lt;go_enter func85,ntmps85;go_wp2_with(refine hC.mono ?_;rintro e w2 ⟨A',n',c',rfl,h2,x2⟩)
 go_ret;exact⟨A',n',c',rfl,h2,x2⟩
theorem vX(p:Nat)(l:List M)(R:ab)(w:E)(hs:l.length≤1000000)(h:D w (bq p l*R)):
  F prog 138 #[.pointer (y (z p 0 d))] w fun e w'=>∃q,cI (.pointer (y (z q 0 d))) (bq q l*(bq p l*R)) w e w':=by
 have hC:=uE p l R w hs h;go_enter func138,ntmps138;go_wp2_with fail
 refine hC.mono ?_;rintro e w2 ⟨A',n',c',rfl,h2,x2⟩;obtain rfl:=dK h2;have h3:=(h.onto' h2).new #[.slice A' l.length c'] 211;have x3:=x2.alloc (.cells #[.slice A' l.length c'] 211);go_wp2_with fail
 go_ret;exact⟨_,rfl,fW h3,x3⟩
theorem vY(p:Nat)(l:List M)(k:Int)(R:ab)(w:E)(hl:O l)(hk:cL k)(h:D w (bq p l*R)):
  F prog 180 #[.pointer (y (z p 0 d)),.int .i64 k] w (Pure (.tuple #[kI (L l k),vB (L l k).isSome]) w):=by
 have h1:=h.new #[f o 0,f o 0,f o 0,f o 0] 39;have H1:=(aT w).new #[f o 0,f o 0,f o 0,f o 0] 39;have x1:=(K w).alloc (.cells #[f o 0,f o 0,f o 0,f o 0] 39);have hB:=nr l hl k hk p _ _ h1.p2;have hpl:=af hl k;rcases hpl with ⟨hf,_⟩|⟨hi,ho,hf,h0,_⟩
 ·rw[hf] at hB⊢
  clear h h1 hf hl;go_enter func180,ntmps180;go_wp2_with(refine hB.mono ?_;rintro e w2 ⟨i,_,rfl,_,b2⟩;have H3:=H1.below b2;have x3:=x1.below b2;obtain⟨d0,d1,d2,d3⟩:=H3.cells4;obtain⟨f0,f1,f2,f3⟩:=H3.frees4;have fl:=H3.lt)
  refine ak (fun wz=>D wz (aa w.heap.size #[f o 0,f o 0,f o 0,f o 0] 39*(bS w w.heap.size))∧S w wz) ⟨H3.set4 _ _ _ _,ah⟩ ?_;rintro wz ⟨hz,xz⟩;exact C (av results180 rfl rfl (aV hz)) rfl ⟨rfl,aq hz.right xz⟩
 ·rw[hf] at hB⊢
  have hq:=fun i (e:0≤k→i=B l k)=>e h0;generalize B l k=q at*
  clear h hf hl ho;go_enter func180,ntmps180;go_wp2_with(refine hB.mono ?_;rintro e w2 ⟨i,_,rfl,hiq,b2⟩;obtain rfl:=hq _ hiq;clear hiq hq;have H3:=H1.below b2;have x3:=x1.below b2;obtain⟨A,c,h3⟩:=d9 (h1.below b2).p2;obtain⟨d0,d1,d2,d3⟩:=H3.cells4;obtain⟨f0,f1,f2,f3⟩:=H3.frees4;have fl:=H3.lt;have k0:=h3.cell 0;have kl:=h3.lt;obtain⟨g,rfl,gb,g0,g1,g2,g3⟩:=dS h3.right hi)
  generalize l[i]=x at*
  refine ak (fun wz=>D wz (aa w.heap.size #[f o x.page,f o x.size,f o x.frame,f o x.rights] 39*(bS w w.heap.size))∧S w wz) ⟨H3.set4 _ _ _ _,ah⟩ ?_;rintro wz ⟨hz,xz⟩;exact C (av results180 rfl rfl (aV hz)) rfl ⟨rfl,aq hz.right xz⟩
set_option maxHeartbeats 2000000 in
theorem vZ(p:Nat)(l:List M)(k:Int)(R:ab)(w:E)(hl:O l)(hk:cL k)(h:D w (bq p l*R)):
  F prog 140 #[.pointer (y (z p 0 d)),.int .i64 k] w (cI (.tuple #[kI (ag l k),f o (an l k)]) (bq p (ax l k)*R) w):=by
 have H1:=h.new #[f o 0,f o 0,f o 0,f o 0] 39;have x1:=(K w).alloc (.cells #[f o 0,f o 0,f o 0,f o 0] 39);have HH:=dm k;have e0:=H1.p2;cases hb:cP k with
 |false=>
  rw[hb] at HH;unfold ag an ax;rw[hb];clear hb e0;go_enter func140,ntmps140;go_wp2_with(refine(HH _).mono ?_;rintro e w2 ⟨rfl,hw⟩;have H3:=hw.symm▸H1;have x3:=hw.symm▸x1;clear hw;obtain⟨d0,d1,d2,d3⟩:=H3.cells4;obtain⟨f0,f1,f2,f3⟩:=H3.frees4;have fl:=H3.lt)
  refine ak (fun wz=>D wz (aa w.heap.size #[f o 0,f o 0,f o 0,f o 0] 39*(bq p l*R))∧S w wz) ⟨H3.set4 _ _ _ _,ah⟩ ?_;rintro wz ⟨hz,xz⟩;exact C (av results140 rfl rfl (aV hz)) rfl ⟨rfl,hz.right,xz⟩
 |true=>
  rw[hb] at HH;unfold ag an ax;rw[hb];have hB:=nr l hl k hk p _ _ e0;rcases af hl k with ⟨hf,hd,_⟩|⟨hi,ho,hf,h0,_,hd,_⟩
  ·rw[hf] at hB
   rw[if_pos rfl,if_pos rfl,if_pos rfl,hf,hd];clear h e0 hf hl hd hb;go_enter func140,ntmps140;go_wp2_with(first|(go_at_call 158;refine(HH _).mono ?_;rintro e w2 ⟨rfl,rfl⟩)|(go_at_call 175;refine hB.mono ?_;rintro e w2 ⟨i,_,rfl,_,b2⟩;have H3:=H1.below b2;have x3:=x1.below b2;obtain⟨d0,d1,d2,d3⟩:=H3.cells4;obtain⟨f0,f1,f2,f3⟩:=H3.frees4;have fl:=H3.lt))
   refine ak (fun wz=>D wz (aa w.heap.size #[f o 0,f o 0,f o 0,f o 0] 39*(bq p l*R))∧S w wz) ⟨H3.set4 _ _ _ _,ah⟩ ?_;rintro wz ⟨hz,xz⟩;exact C (av results140 rfl rfl (aV hz)) rfl ⟨rfl,hz.right,xz⟩
  ·rw[hf] at hB
   rw[if_pos rfl,if_pos rfl,if_pos rfl,hf,hd];change F _ _ _ w (cI (.tuple #[kI (y l[B l k]),f o 0]) _ w);have hq:=fun i (e:0≤k→i=B l k)=>e h0;have HL:=s hl.le;have hhi:=hi;generalize hxq:l[B l k]=x at*
   have HX:=s (show∀h,l[B l k]'h=x from fun _=>hxq);generalize B l k=q at*
   clear h hf hl ho hb hd e0 hxq;go_enter func140,ntmps140;go_wp2_with(first|(go_at_call 158;refine(HH _).mono ?_;rintro e w2 ⟨rfl,rfl⟩)|(go_at_call 175;refine hB.mono ?_;rintro e w2 ⟨i,_,rfl,hiq,b2⟩;obtain rfl:=hq _ hiq;clear hiq hq hB;have H3:=H1.below b2;have x3:=x1.below b2;clear H1 x1;obtain⟨A,c,h3⟩:=d9 H3.p2;have k0:=h3.cell 0;have kl:=h3.lt;obtain⟨g,rfl,gb,g0,g1,g2,g3⟩:=dS h3.right hi;rw[HX.out hi] at g0 g1 g2 g3;have hbig:=gS h3.right;have hw1:wrap64 ((i:Int)+1)=((i+1:Nat):Int):=(by have:=HL.out;unfold wrap64;omega)))
   have h4:=h3.new #[f o x.page,f o x.size,f o x.frame,f o x.rights] 39;have h5:D (w2.alloc (.cells #[f o x.page,f o x.size,f o x.frame,f o x.rights] 39)) (bO (.slice (y (z g 0 d)) l.length c) l*(aa p #[.slice (y (z g 0 d)) l.length c] 211*(aa w2.heap.size #[f o x.page,f o x.size,f o x.frame,f o x.rights] 39*(aa w.heap.size #[f o 0,f o 0,f o 0,f o 0] 39*R)))):=h4.eq (by(simp only[aG,ar,bj]));have x5:=x3.alloc (.cells #[f o x.page,f o x.size,f o x.frame,f o x.rights] 39);have hD:=qx l i (i+1) g l.length c _ _ (by omega) (by omega) h5;have hdl:i+(l.length - (i+1))=(l.take i++l.drop (i+1)).length :=by simp;omega
   rw[hdl] at hD;clear hdl h4 h5 h3 H3 x3 k0 kl g0 g1 g2 g3 hi hhi HX HL;generalize l.take i++l.drop (i+1)=l' at*
   go_wp2_with fail
   refine hD.mono ?_;rintro e w6 ⟨rfl,h6,x6⟩;have x7:=x5.trans x6;clear x5 x6 hD;have c0:=h6.right.cell 0;have cf:=h6.right.free 0;have cl:=h6.right.lt;have hne:=h6.right.ne;have hne':=hne.symm;have h7:D (w6.setCell (z p 0 d) (.slice (y (z g 0 d)) l'.length c)) (aa p #[.slice (y (z g 0 d)) l'.length c] 211*_):=h6.p2.set 0 (.slice (y (z g 0 d)) l'.length c);obtain⟨m0,m1,m2,m3⟩:=h6.right.right.cells4;have ml:=h6.right.right.lt;have h8:D _ (aa w.heap.size #[f o 0,f o 0,f o 0,f o 0] 39*(aa p #[.slice (y (z g 0 d)) l'.length c] 211*(bO (.slice (y (z g 0 d)) l'.length c) l'*(aa w2.heap.size #[f o x.page,f o x.size,f o x.frame,f o x.rights] 39*R)))):=h7.eq (by(simp only[aG,ar,bj]));have h9:D w6 (aa p #[.slice (y (z g 0 d)) l.length c] 211*(aa w.heap.size #[f o 0,f o 0,f o 0,f o 0] 39*(bO (.slice (y (z g 0 d)) l'.length c) l'*(aa w2.heap.size #[f o x.page,f o x.size,f o x.frame,f o x.rights] 39*R)))):=h6.eq (by(simp only[aG,ar,bj]));have hnr:=h9.ne;have hnr':=hnr.symm;obtain⟨d0,d1,d2,d3⟩:=h9.right.cells4;obtain⟨f0,f1,f2,f3⟩:=h9.right.frees4;have fl:=h9.right.lt;clear h9;go_wp2_with fail
   refine ak (fun wz=>D wz (aa w.heap.size #[f o x.page,f o x.size,f o x.frame,f o x.rights] 39*(aa p #[.slice (y (z g 0 d)) l'.length c] 211*(bO (.slice (y (z g 0 d)) l'.length c) l'*(aa w2.heap.size #[f o x.page,f o x.size,f o x.frame,f o x.rights] 39*R))))∧S w wz) ⟨h8.set4 _ _ _ _,ah⟩ ?_;rintro wz ⟨hz,xz⟩;exact C (av results140 rfl rfl (aV hz)) rfl ⟨rfl,fW hz.right.drop3,xz⟩
def kd(l:List M)(R:ab)(w:E)(e:Ending)(w':E):Prop:=∃A c,e= .returned (.slice A l.length c)∧D w' (bO (.slice A l.length c) l*R)∧S w w'
theorem pa(l:List M)(m:M)(n c V:Nat)(A:Option Addr)(R:ab)(w:E)(hbig:l.length≤1000000)
  (h:D w (bO (.slice A n c) l*(aa V #[f o m.page,f o m.size,f o m.frame,f o m.rights] 39*R))):
  F prog 177 #[.slice A n c,.int .i64 l.length,.slice (y (z V 0 d)) 1 1] w (kd (l++[m]) R w):=by
 obtain rfl:=dK h;obtain⟨hb1,hb2⟩:=fV h;have hrow:D w (bZ 39 4 (.slice A l.length c) l.length (aY l)*(aa V #[f o m.page,f o m.size,f o m.frame,f o m.rights] 39*R)):=h;have hne:Hid (∀j u,m.cells[j]? =y u→w.cell? (((z V 0 d):Addr).add j)=y u):=fun j u hu=>by
  rw[Addr.add_lit,Nat.zero_add,h.right.cell];simpa [Mp.cells] using hu
 go_enter func177,ntmps177;go_wp2_with(at_builtin;refine aW rfl _ _ 44 rfl underlying44 it _ _ _ rfl hrow (z V 0 d) 1 1 m.cells rfl rfl hne.out (jo m) (by unfold maxLen;omega) (by omega) ?_)
 all_goals
  intro v' w2 h' x';obtain⟨A',c',rfl⟩:=h'.rowForm;go_wp2_with fail
  go_ret;refine⟨A',c',by rw[J];rfl,?_,x'⟩;unfold bO;rw[J,jn];exact h'.p2.right
theorem np(l:List M)(m:M)(n c V i g:Nat)(R:ab)(w:E)(hbig:l.length≤1000000)(hi:i<l.length)(hc:l.length+1≤c)
  (h:D w (bO (.slice (y (z g 0 d)) n c) l*(aa V #[f o m.page,f o m.size,f o m.frame,f o m.rights] 39*R))):
  F prog 177 #[.slice (y (z g 0 d)) n c,.int .i64 i,.slice (y (z V 0 d)) 1 1] w (kd (l.take i++m::l.drop i) R w):=by
 obtain rfl:=dK h;obtain⟨hb1,hb2⟩:=fV h;obtain⟨hn1,cur,hcg,h1,h2,h3,h4,hb⟩:=Has.rowAt (e:=39) (size:=4) h (by omega);injection hcg with hcg
 injection hcg with hcg
 subst hcg;have hc63:c≤9223372036854775807:=by unfold maxLen at h2;omega
 have hVg:V≠g:=fun e=>by
  have:=hb.ne;exact this e.symm
 have hsV:w.shape? V=y (39,4):=by
  have:=h.right.heap;simp[World.shape?,this]
 have hsg:w.shape? g=y (39,c*4):=by
  have:=hb.heap;simp[World.shape?,this,h3]
 have hfa:=h.right.free 0;have hfe:=h.right.free 4;have hov:∀lb cb,(callFunc 192 #[.slice (y (z V 0 d)) 1 1,.slice (y ⟨g,(i+1)*4,d⟩) lb cb]).run prog w= .ok (.value (.bool H)) w:=fun lb cb=>by
  rw[run_callFunc_extern func192 (by kernel_rfl) (by kernel_rfl) (by kernel_rfl) (e:=Extern.SlicesOverlaps.overlaps #[44,44] #[4]) (by kernel_rfl),
   Lib.run_overlaps_apart w 44 4 39 underlying44 4 (by intro w;rfl) (z V 0 d) ⟨g,(i+1)*4,d⟩ 1 1 lb cb hVg _ _ 4 (c*4) hsV hsg (by omega) hfa hfe]
  rfl
 have hi0:=h;have hdl:((aY l).drop (i*4)).length =(l.length - i)*4:=by rw[List.length_drop,dE];omega
 have hcap:=fV h;have hcell:∀k,k<c*4→(w.cell? (z g k d)).isSome =I:=fun k hk=>by
  rw[hb.cell,Array.getElem?_eq_getElem (by omega)];rfl
 have hfree:∀k,w.frozen? (z g k d)=H:=fun k=>hb.free k;have hsz:(prog.info? 39).map (·.size)=y 4:=by
  obtain⟨i0,hi0,_,hz,_⟩:=info_parts nq;rw[hi0];simp[hz]
 have hcp1:∀ty dc sc,(Builtin.copy_ #[44,44] ty #[.slice (y ⟨g,(i+1)*4,d⟩) (l.length - i) dc,.slice (y ⟨g,i*4,d⟩) (l.length+1 - i) sc]).run prog w.drew= .ok (goInt (l.length - i:Nat)) (w.drew.setCells g ((i+1)*4) ((aY l).drop (i*4))):=fun ty dc sc=>
  fS w.drew _ _ ty 39 g ((i+1)*4) (l.length - i) dc ⟨g,i*4,d⟩ (l.length+1 - i) sc 4 (l.length - i) ((aY l).drop (i*4)) underlying44 hsz (by simp only[Nat.min_def];split<;>omega) hdl
   (fun j v hj=>by
    rw[Addr.add_lit];exact iD h i j v hj)
   (fun j hj=>hcell _ (by omega)) (fun j hj=>hfree _) (fun v hv=>gR l v (List.mem_of_mem_drop hv))
 have hfin:=Has.rowShift (e:=39) (size:=4) (i:=i) (m:=1) h.drew (by omega) hc m.cells rfl;have hV:=(Has.rowShift (e:=39) (size:=4) (i:=i) (m:=1) h.drew (by omega) hc m.cells rfl).right;obtain⟨W1,hW1⟩:∃W1,W1=w.drew.setCells g ((i+1)*4) ((aY l).drop (i*4)):=⟨_,rfl⟩;rw[←hW1] at hcp1 hfin;have hcp2:∀(W:E),(∀x,W.cell? x=W1.cell? x)→(∀x,W.frozen? x=W1.frozen? x)→∀ty dc,(Builtin.copy_ #[44,44] ty #[.slice (y ⟨g,i*4,d⟩) (l.length+1 - i) dc,.slice (y (z V 0 d)) 1 1]).run prog W= .ok (goInt (1:Nat)) (W.setCells g (i*4) m.cells):=fun W hWc hWf ty dc=>
  fS W _ _ ty 39 g (i*4) (l.length+1 - i) dc (z V 0 d) 1 1 4 1 m.cells underlying44 hsz (by simp only[Nat.min_def];split<;>omega) rfl
   (fun j v hj=>by
    rw[Addr.add_lit,hWc,hW1,World.cell?_setCells_out g _ _ _ _ (fun h _=>absurd h hVg),Nat.zero_add];show w.cell? _=_;rw[h.right.cell];simpa [Mp.cells] using hj)
   (fun j hj=>by
    rw[hWc,hW1];have h4:m.cells.length=4:=rfl;refine Go.Proofs.isSome_setCells g ((aY l).drop (i*4)) ((i+1)*4) w.drew (fun t ht=> ?_) (i*4+j) (hcell (i*4+j) (by omega));exact hcell _ (by omega)) (fun j hj=>by rw[hWf,hW1,World.frozen?_setCells];exact hfree _) (jo m)
 have hw1:IntKind.i64.wrap ((i:Int)+1)=(i:Int)+1:=by rw[U];omega
 have hb2:¬(c=i+1):=by omega
 have hb4:¬(c=i):=by omega
 have hb3:(i:Int)≤(l.length:Int)+1:=by omega
 have hz2:¬((i:Int)=(l.length:Int)):=by omega
 have htn:((i:Int)+1).toNat =i+1:=by omega
 have hb0:(0:Int)≤(i:Int)+1:=by omega
 have hil:i≤l.length:=by omega
 have mixed:prog.follows .mixedOrders =I:=by kernel_rfl
 clear hi0 hcell hfree hsz hdl hb hV hsV hsg hfa hfe h1 h2 h3 h4 hcap;have HF:=s hfin;have HW:=s hW1;clear hfin hW1 h;go_enter func177,ntmps177;go_wp2_with(simp only[hov])
 go_region_law_o (refine Go.Proofs.step_copy_runI rfl _ _ 44 44 rfl _ _ (by simp[Act.eval,Act.put]) (by simp[Act.eval,Act.put]) (hcp1 _ _ _) ?_)
 go_wp2_with(at_builtin;refine Go.Proofs.wpList_copy_runI _ rfl _ _ 44 44 rfl _ _ rfl rfl (hcp2 _ (fun _=>rfl) (fun _=>rfl) _ _) ?_)
 go_ret;have hlen:(l.take i++m::l.drop i).length =l.length+1:=by simp;omega
 refine⟨y (z g 0 d),c,by rw[hlen];rfl,?_,?_⟩
 ·unfold bO
  rw[hlen];have e1:(aY l).take (i*4)++(m.cells++(aY l).drop (i*4))=aY (l.take i++m::l.drop i):=by
   rw[eL,show(aY l).take (i*4)=aY (l.take i) from fM iu l i,show(aY l).drop (i*4)=aY (l.drop i) from fL iu l i];rfl
  rw[←e1];exact HF.out.p2.right
 ·rw[HW.out]
  exact T _ _ _ (T _ _ _ (K w).drew)
set_option maxHeartbeats 4000000 in
theorem nV(l:List M)(m:M)(n c V i g:Nat)(R:ab)(w:E)(hbig:l.length≤1000000)(hi:i<l.length)(hc:c<l.length+1)
  (h:D w (bO (.slice (y (z g 0 d)) n c) l*(aa V #[f o m.page,f o m.size,f o m.frame,f o m.rights] 39*R))):
  F prog 177 #[.slice (y (z g 0 d)) n c,.int .i64 i,.slice (y (z V 0 d)) 1 1] w (kd (l.take i++m::l.drop i) R w):=by
 obtain rfl:=dK h;obtain⟨hb1,hb2⟩:=fV h;obtain⟨i0,hi0,hz0,hzs,hzb⟩:=info_parts nq;have hVw:=h.right.lt;have hgw:g<w.heap.size:=by
  obtain⟨b,hb,hlt,_⟩:=dS h hi;injection hb with hb
  injection hb with hb
  subst hb;exact hlt
 have hsz:(prog.info? 39).map (·.size)=y 4:=by rw[hi0];simp[hzs]
 have hti:(aY (l.take i)).length =i*4:=by rw[dE,List.length_take];omega
 have hte:aY (l.take i)=(aY l).take (i*4):=(fM iu l i).symm;have hold:(Builtin.firstCells i0.size i (.slice (y (z g 0 d)) i c)).run prog w.drew= .ok (aY (l.take i)).toArray w.drew:=by
  rw[hzs];exact run_firstCells_some w.drew 4 i (z g 0 d) i c (aY (l.take i)) hti (fun j v hj=>by
   rw[Addr.add_lit];rw[hte,List.getElem?_take] at hj;split at hj
   ·have:=iD h 0 j v (by simpa using hj)
    rwa [Nat.zero_mul] at this
   ·cases hj)
 have hkk:(l.length:Int)+1 - (i:Int)=((l.length+1 - i:Nat):Int):=by omega
 have hik:i+(l.length+1 - i)=l.length+1:=by omega
 have hrz:∀ty,(Builtin.append_ #[44,3] ty #[.slice (y (z g 0 d)) i c,.int .i64 ((l.length:Int)+1 - (i:Int))]).run prog w=
   .ok (.slice (y (z w.heap.size 0 d)) (l.length+1) (grownCap w (l.length+1) c 39)) (w.drew.alloc (.cells ((aY (l.take i)).toArray ++Builtin.zeroCells mpZero.cells (l.length+1 - i)++Builtin.zeroCells mpZero.cells (grownCap w (l.length+1) c 39 - (l.length+1))) 39)):=fun ty=>by
  have h:=Lib.run_append_grow_zeros w 44 3 ty 39 i0 _ .i64 .i64 underlying44 underlying3 hi0 hz0 (y (z g 0 d)) i c (aY (l.take i)) hold (l.length+1 - i) (by omega) (by omega) (by omega) (by omega) (by rw[hzb];omega) (by rw[hzb,hik];exact growslice_fits hc (by omega));rw[hik] at h;rw[hkk];exact h
 have hGn:l.length+1≤grownCap w (l.length+1) c 39:=grownCap_ge w _ _ _;have hGm:=grownCap_le_maxLen w (l.length+1) c 39 (by unfold maxLen;omega);generalize grownCap w (l.length+1) c 39=G at*
 have hzz:∀k,(Builtin.zeroCells mpZero.cells k).size =k*4:=fun k=>size_zeroCells _ _;have hzl:∀k,(Builtin.zeroCells mpZero.cells k).toList.length =k*4:=fun k=>by rw[Array.length_toList];exact hzz k
 obtain⟨ROW,hROW⟩:∃ROW:Array Value,ROW=(aY (l.take i)).toArray ++Builtin.zeroCells mpZero.cells (l.length+1 - i)++Builtin.zeroCells mpZero.cells (G - (l.length+1)):=⟨_,rfl⟩;rw[←hROW] at hrz;have hRs:ROW.size=G*4:=by
  rw[hROW];simp only[Array.size_append,hzz,List.size_toArray,hti];omega
 have hRt:ROW.toList.take ((l.length+1)*4)=aY (l.take i)++(Builtin.zeroCells mpZero.cells (l.length+1 - i)).toList :=by
  have hs:(aY (l.take i)++(Builtin.zeroCells mpZero.cells (l.length+1 - i)).toList).length =(l.length+1)*4:=by
   rw[J,hzl,hti];omega
  rw[hROW,Array.toList_append,Array.toList_append];show((aY (l.take i)++_)++_).take _=_;rw[←hs,List.take_left]
 have H1:=(h.new ROW 39).drew.rowOf (size:=4) (n:=l.length+1) (cap:=G) (by rw[J,hzl,hti];omega) hGn hGm hRs hRt;have hfin:=Has.rowGapD H1 (k:=i) hti m.cells (aY (l.drop i)) (by rw[hzl,dE,List.length_drop];have:m.cells.length=4:=rfl;omega);obtain⟨W1,hW1⟩:∃W1,W1=w.drew.alloc (.cells ROW 39):=⟨_,rfl⟩;rw[←hW1] at hrz;have hm4:m.cells.length=4:=rfl;rw[hm4,show i*4+4=(i+1)*4 by omega] at hfin;have hN:∀j,j< (l.length+1)*4→(W1.cell? (z w.heap.size j d)).isSome =I:=fun j hj=>by
  rw[hW1,World.cell?_alloc_at (w:=w.drew) ROW _ w.heap.size j rfl,Array.getElem?_eq_getElem (by omega)];rfl
 have hNf:∀j,W1.frozen? (z w.heap.size j d)=H:=fun j=>by rw[hW1];exact World.frozen?_alloc_at (w:=w.drew) ROW _ w.heap.size j rfl
 have hOb:∀j v,w.cell? (z g j d)=y v→W1.cell? (z g j d)=y v:=fun j v h=>by rw[hW1,World.cell?_alloc_past (w:=w.drew) _ g j hgw];exact h
 have hOv:∀j v,w.cell? (z V j d)=y v→W1.cell? (z V j d)=y v:=fun j v h=>by rw[hW1,World.cell?_alloc_past (w:=w.drew) _ V j hVw];exact h
 have hcpA:∀(W:E),(∀x,W.cell? x=W1.cell? x)→(∀x,W.frozen? x=W1.frozen? x)→∀ty dc,(Builtin.copy_ #[44,44] ty #[.slice (y ⟨w.heap.size,i*4,d⟩) (l.length+1 - i) dc,.slice (y (z V 0 d)) 1 1]).run prog W= .ok (goInt (1:Nat)) (W.setCells w.heap.size (i*4) m.cells):=fun W hWc hWf ty dc=>
  fS W _ _ ty 39 w.heap.size (i*4) (l.length+1 - i) dc (z V 0 d) 1 1 4 1 m.cells underlying44 hsz (by simp only[Nat.min_def];split<;>omega) rfl
   (fun j v hj=>by
    rw[Addr.add_lit,hWc,Nat.zero_add];refine hOv _ _ ?_;rw[h.right.cell];simpa [Mp.cells] using hj)
   (fun j hj=>by rw[hWc];exact hN _ (by omega)) (fun j hj=>by rw[hWf];exact hNf _) (jo m)
 have hdl:(aY (l.drop i)).length =(l.length - i)*4:=by rw[dE,List.length_drop]
 have hde:aY (l.drop i)=(aY l).drop (i*4):=(fL iu l i).symm;have hgN:g≠w.heap.size:=by omega
 have hcpB:∀(W:E),(∀x,W.cell? x=(W1.setCells w.heap.size (i*4) m.cells).cell? x)→(∀x,W.frozen? x=(W1.setCells w.heap.size (i*4) m.cells).frozen? x)→∀ty dc sc,(Builtin.copy_ #[44,44] ty #[.slice (y ⟨w.heap.size,(i+1)*4,d⟩) (l.length+1 - (i+1)) dc,.slice (y ⟨g,i*4,d⟩) (l.length - i) sc]).run prog W= .ok (goInt (l.length - i:Nat)) (W.setCells w.heap.size ((i+1)*4) (aY (l.drop i))):=fun W hWc hWf ty dc sc=>
  fS W _ _ ty 39 w.heap.size ((i+1)*4) (l.length+1 - (i+1)) dc ⟨g,i*4,d⟩ (l.length - i) sc 4 (l.length - i) (aY (l.drop i)) underlying44 hsz (by simp only[Nat.min_def];split<;>omega) hdl
   (fun j v hj=>by
    rw[Addr.add_lit,hWc,World.cell?_setCells_out _ _ _ _ _ (fun h _=>absurd h hgN)];refine hOb _ v (iD h i j v ?_);rwa [←hde])
   (fun j hj=>by rw[hWc];exact Go.Proofs.isSome_setCells _ _ _ _ (fun t ht=>hN _ (by omega)) _ (hN _ (by omega)))
   (fun j hj=>by rw[hWf,World.frozen?_setCells];exact hNf _) (fun v hv=>gR _ v hv)
 have hx:S w ((((w.alloc (.cells ROW 39)).drew.setCells w.heap.size (i*4) m.cells).drew).setCells w.heap.size ((i+1)*4) (aY (l.drop i))):=
  T _ _ _ (T _ _ _ ((K w).alloc _).drew).drew
 subst hW1;have hE1:∀x,((w.alloc (.cells ROW 39)).drew).cell? x=(w.drew.alloc (.cells ROW 39)).cell? x:=fun x=>rfl;have hE2:∀x,((w.alloc (.cells ROW 39)).drew).frozen? x=(w.drew.alloc (.cells ROW 39)).frozen? x:=fun x=>rfl;have hF1:∀x,(((w.alloc (.cells ROW 39)).drew.setCells w.heap.size (i*4) m.cells).drew).cell? x=((w.drew.alloc (.cells ROW 39)).setCells w.heap.size (i*4) m.cells).cell? x:=fun x=>rfl;have hF2:∀x,(((w.alloc (.cells ROW 39)).drew.setCells w.heap.size (i*4) m.cells).drew).frozen? x=((w.drew.alloc (.cells ROW 39)).setCells w.heap.size (i*4) m.cells).frozen? x:=fun x=>rfl;have hz2:¬((i:Int)=(l.length:Int)):=by omega
 have hz3:(c:Int)< (l.length:Int)+1:=by omega
 have hG63:G≤9223372036854775807:=by unfold maxLen at hGm;omega
 have hGi:¬(G=i):=by omega
 have hGim:¬(G=i+1):=by omega
 have hci:¬(c=i):=by omega
 have hw1:IntKind.i64.wrap ((i:Int)+1)=(i:Int)+1:=by rw[U];omega
 have hb0:(0:Int)≤(i:Int)+1:=by omega
 have hil:i≤l.length:=by omega
 have htn:((i:Int)+1).toNat =i+1:=by omega
 have hb3:(i:Int)≤(l.length:Int):=by omega
 have mixed:prog.follows .mixedOrders =I:=by kernel_rfl
 have HF:=s hfin;have HX:=s hx;clear hkk hik hzz hzl hold hROW hRs hRt H1 hfin hx hi0 hz0 hzs hzb hsz h hti hte hdl hde hN hNf hOb hOv hm4 hGm;go_enter func177,ntmps177;go_wp2_with(first
  |(at_builtin;refine Lib.wpList_append_run _ rfl _ _ _ _ rfl _ _ rfl rfl _ _ (hrz _) ?_)
  |(at_builtin;refine Go.Proofs.wpList_copy_runI _ rfl _ _ 44 44 rfl _ _ rfl rfl (hcpA _ hE1 hE2 _ _) ?_)
  |(at_builtin;refine Go.Proofs.wpList_copy_runI _ rfl _ _ 44 44 rfl _ _ rfl rfl (hcpB _ (fun _=>rfl) (fun _=>rfl) _ _ _) ?_))
 go_region_law_o (refine Go.Proofs.step_copy_runI rfl _ _ 44 44 rfl (.slice (y ⟨w.heap.size,(i+1)*4,d⟩) (l.length+1 - (i+1)) (G - (i+1))) (.slice (y ⟨g,i*4,d⟩) (l.length - i) (c - i)) (by simp[Act.eval,Act.put]) (by simp[Act.eval,Act.put]) (hcpB _ hF1 hF2 _ (G - (i+1)) (c - i)) ?_)
 go_wp2_with fail
 go_ret;have hlen:(l.take i++m::l.drop i).length =l.length+1:=by simp;omega
 refine⟨y (z w.heap.size 0 d),G,by rw[hlen];rfl,?_,HX.out⟩;unfold bO;rw[hlen];have e1:aY (l.take i)++(m.cells++aY (l.drop i))=aY (l.take i++m::l.drop i):=by
  rw[eL];rfl
 rw[←e1];exact HF.out.p2.right.p2.right
theorem qw(l:List M)(m:M)(n c V i:Nat)(A:Option Addr)(R:ab)(w:E)(hbig:l.length≤1000000)(hi:i≤l.length)
  (h:D w (bO (.slice A n c) l*(aa V #[f o m.page,f o m.size,f o m.frame,f o m.rights] 39*R))):
  F prog 177 #[.slice A n c,.int .i64 i,.slice (y (z V 0 d)) 1 1] w (kd (l.take i++m::l.drop i) R w):=by
 rcases Nat.lt_or_ge i l.length with hlt|hge
 ·obtain⟨g,rfl,_⟩:=dS h hlt
  rcases Nat.lt_or_ge c (l.length+1) with hc|hc
  ·exact nV l m n c V i g R w hbig hlt hc h
  ·exact np l m n c V i g R w hbig hlt hc h
 ·obtain rfl:i=l.length:=by omega
  rw[List.take_length,List.drop_length];exact pa l m n c V A R w hbig h
set_option maxHeartbeats 2000000 in
theorem xr(p:Nat)(l:List M)(m:M)(R:ab)(w:E)(hl:O l)(hm:cL m.page)(h:D w (bq p l*R)):
  F prog 139 #[.pointer (y (z p 0 d)),.agg #[f o m.page,f o m.size,f o m.frame,f o m.rights]] w (cI (f o (Z l m)) (bq p (X l m)*R) w):=by
 have H1:=h.new #[f o m.page,f o m.size,f o m.frame,f o m.rights] 39;have x1:=(K w).alloc (.cells #[f o m.page,f o m.size,f o m.frame,f o m.rights] 39);have HC:=jG m;obtain⟨c0,c1,c2,c3⟩:=H1.cells4;by_cases hc:ba m=0
 ·rw[hc] at HC
  have hmo:=ep hc;have hp0:=hmo.p0;obtain⟨hy1,hy2⟩:(Z l m=if N l m=I then 4 else 0)∧(X l m=if N l m=I then l else l.take (B l m.page)++m::l.drop (B l m.page)):=by
   cases hb:N l m with
   |true=>exact a3 hc hb
   |false=>exact a4 hc hb
  rw[hy1,hy2];clear hy1 hy2 h;have hle:=hl.le;have hfb:(L l m.page).isSome =I→N l m=I:=Bk.bad_find;have hba:=Bk.bad_at hl hmo;have hli:∀x∈l,cL x.page:=fun x hx=>by
   have:=(hl.chk x hx).p0;have:=(hl.chk x hx).p1;have:=(hl.chk x hx).sp;exact⟨by omega,by omega⟩
  have HL:=s hl;clear hl;go_enter func139,ntmps139;go_upto_region 4 with (go_at_call 148;refine(HC _).mono ?_;rintro e w2 ⟨rfl,b2⟩);have h2:=H1.below b2;have x2:=x1.below b2;clear H1 x1 b2 c0 c1 c2 c3 HC;obtain⟨c0,c1,c2,c3⟩:=h2.cells4;have cl:=h2.lt;have hB:=nr l HL.out m.page hm p _ _ h2.p2;go_upto_region 5 with (refine hB.mono ?_;rintro e w3 ⟨i,hil,rfl,hip,b3⟩);have hip:=hip hp0;have h3:=h2.below b3;have x3:=x2.below b3;clear h2 x2 b3 c0 c1 c2 c3 cl hB;obtain⟨A,c,h4⟩:=d9 h3.p2;obtain⟨c0,c1,c2,c3⟩:=h3.cells4;have e0:=h4.cell 0;rw[←hip] at hba;generalize N l m=bd at*
  generalize B l m.page=q at*
  subst hip;generalize (L l m.page).isSome =fs at*
  go_cut [40] (fun b40 wx=>b40=vB bd∧Below w3.heap.size w3 wx)
  case first=>
   have v0:=ae c0;have v1:=ae c1;have v2:=ae c2;have v3:=ae c3;have ve:=ae e0;clear c0 c1 c2 c3 e0;cases fs with
   |true=>
    have hbt:=hfb rfl;subst hbt;clear hba hfb;refine ap (by kernel_rfl) (by kernel_rfl) ?_;repeat(first|go_big_quiet_step (fail)|quiet_step (fail))
    refine wpQuiet_nil ?_;intro _ hw';obtain⟨uq,hw''⟩:=hw';subst hw'';go_wp2_with fail
    go_meet
    case rel=>exact⟨rfl,aB _ _⟩
   |false=>
    clear hfb;by_cases hlt:i<l.length
    ·rw[dif_pos hlt] at hba
     obtain⟨g,rfl,gb,g0,g1,g2,g3⟩:=dS h4.right hlt;have HM:=s (fun W=>oe m l[i] W hm (hli _ (List.getElem_mem hlt)));rw[←hba] at HM;have hdg:decide (i<l.length)=I:=decide_eq_true (by omega);have u0:=ae g0;have u1:=ae g1;have u2:=ae g2;have u3:=ae g3;clear g0 g1 g2 g3 hba hli hle;generalize l[i]=x at*
     refine ap (by kernel_rfl) (by kernel_rfl) ?_;repeat(first|go_big_quiet_step ((go_at_call 176;exact Pure.via (HM.out _)))|quiet_step ((go_at_call 176;exact Pure.via (HM.out _))))
     refine wpQuiet_nil ?_;intro _ hw';obtain⟨uq,hw''⟩:=hw';subst hw'';go_wp2_with fail
     go_meet
     case rel=>exact⟨rfl,aB _ _⟩
    ·rw[dif_neg hlt] at hba
     subst hba;have hdg:decide (i<l.length)=H:=decide_eq_false (by omega);clear hli hle;refine ap (by kernel_rfl) (by kernel_rfl) ?_;repeat(first|go_big_quiet_step (fail)|quiet_step (fail))
     refine wpQuiet_nil ?_;intro _ hw';obtain⟨uq,hw''⟩:=hw';subst hw'';go_wp2_with fail
     go_meet
     case rel=>exact⟨rfl,aB _ _⟩
  case rest=>
   obtain⟨rfl,b3⟩:=hcut;have h5:=h3.below b3;have x5:=x3.below b3;clear hfb hba hli;clear h3 x3 b3 h4 e0 c0 c1 c2 c3;cases bd with
   |true=>
    go_wp2_with fail
    go_ret;exact⟨rfl,h5.right,x5⟩
   |false=>
    obtain⟨A',c',h6⟩:=d9 h5.p2;have e0:=h6.cell 0;have ef:=h6.free 0;have el:=h6.lt;obtain⟨c0,c1,c2,c3⟩:=h5.cells4;have cl:=h5.lt;have h7:D ((wc.alloc (.cells #[f o m.page,f o m.size,f o m.frame,f o m.rights] 39)).drew) (bO (.slice A' l.length c') l*(aa wc.heap.size #[f o m.page,f o m.size,f o m.frame,f o m.rights] 39*(aa p #[.slice A' l.length c'] 211*(aa w.heap.size #[f o m.page,f o m.size,f o m.frame,f o m.rights] 39*R)))):=(h6.new #[f o m.page,f o m.size,f o m.frame,f o m.rights] 39).drew.eq (by(simp only[aG,ar,bj]));have x7:S w ((wc.alloc (.cells #[f o m.page,f o m.size,f o m.frame,f o m.rights] 39)).drew):=(x5.alloc _).drew;have HI:=s (qw l m l.length c' wc.heap.size i A' _ _ (by omega) hil h7);clear h5 h6 x5 h7;generalize l.take i++m::l.drop i=l' at*
    go_wp2_with fail
    go_region_law (go_simp;go_at_call 177;refine HI.out.mono ?_;rintro e w6 ⟨A2,c2,rfl,h8,x8⟩;have k0:=h8.right.cell 0;have kf:=h8.right.free 0;have kl:=h8.right.lt)
    all_goals
     go_wp2_with fail
     go_ret;exact⟨rfl,fW (h8.p2.set 0 (.slice A2 l'.length c2)).drop3,(x7.trans x8).set _ _⟩
 ·have hn:(ba m !=0)=I:=by simpa using hc
  obtain⟨hy1,hy2⟩:=ad (l:=l) hc;rw[hy1,hy2];clear hy1 hy2 hc;generalize ba m=c at*
  go_enter func139,ntmps139;go_wp2_with(refine(HC _).mono ?_;rintro e w2 ⟨rfl,b2⟩)
  go_ret;exact⟨rfl,(H1.below b2).right,x1.below b2⟩
theorem nW{w:E}{R:ab}{g c:Nat}{l:List M}(i:Nat)(r:Int)(h:D w (bO (.slice (y (z g 0 d)) l.length c) l*R))(hi:i<l.length):
  D (w.setCell ⟨g,i*4+3,d⟩ (f o r)) (bO (.slice (y (z g 0 d)) l.length c) (l.take i++{l[i] with rights:=r}::l.drop (i+1))*R):=by
 have h1:=Has.rowSet (e:=39) (size:=4) h (i:=i*4+3) (by omega) (f o r);have hz:(l.take i++{l[i] with rights:=r}::l.drop (i+1)).length =l.length:=by simp;omega
 have he:(aY l).set (i*4+3) (f o r)=aY (l.take i++{l[i] with rights:=r}::l.drop (i+1)):=by
  have hs:l=l.take i++l[i]::l.drop (i+1):=by rw[←List.drop_eq_getElem_cons hi,List.take_append_drop]
  have e1:aY l=aY (l.take i)++(l[i].cells ++aY (l.drop (i+1))):=by
   conv=>lhs;rw[hs]
   rw[eL];rfl
  have e2:(aY (l.take i)).length =i*4:=by rw[dE,List.length_take];omega
  rw[e1,eL,List.set_append_right _ _ (by omega),e2,show i*4+3 - i*4=3 by omega];rfl
 unfold bO;rw[hz,←he];exact h1
set_option maxHeartbeats 2000000 in
theorem rH(p:Nat)(l:List M)(k r:Int)(R:ab)(w:E)(hl:O l)(hk:cL k)(h:D w (bq p l*R)):
  F prog 141 #[.pointer (y (z p 0 d)),.int .i64 k,.int .i64 r] w (cI (.tuple #[kI (a5 l k r),f o (a6 l k r)]) (bq p (a7 l k r)*R) w):=by
 have H1:=h.new #[f o 0,f o 0,f o 0,f o 0] 39;have x1:=(K w).alloc (.cells #[f o 0,f o 0,f o 0,f o 0] 39);have HH:=dm k;unfold a5 a6 a7;cases hb:bb k r with
 |false=>
  change F _ _ _ w (cI (.tuple #[kI d,f o 1]) (bq p l*R) w);cases hh:cP k with
  |false=>
   rw[hh] at HH;clear hb hh;clear hk hl h;go_enter func141,ntmps141;go_wp2_with(refine(HH _).mono ?_;rintro e w2 ⟨rfl,hw⟩;have H3:=hw.symm▸H1;have x3:=hw.symm▸x1;clear hw;obtain⟨d0,d1,d2,d3⟩:=H3.cells4;obtain⟨f0,f1,f2,f3⟩:=H3.frees4;have fl:=H3.lt)
   refine ak (fun wz=>D wz (aa w.heap.size #[f o 0,f o 0,f o 0,f o 0] 39*(bq p l*R))∧S w wz) ⟨H3.set4 _ _ _ _,ah⟩ ?_;rintro wz ⟨hz,xz⟩;exact C (av results141 rfl rfl (aV hz)) rfl ⟨rfl,hz.right,xz⟩
  |true=>
   rw[hh] at HH;have hr:r<0∨7<r:=by
    unfold bb at hb;rw[hh] at hb;rcases Int.lt_or_le r 0 with h0|h0
    ·exact .inl h0
    ·rw[decide_eq_true h0] at hb
     simp at hb;exact .inr hb
   clear hb hh;rcases hr with h0|h7
   ·have hd:decide (r<0)=I:=decide_eq_true h0
    clear hk hl h;go_enter func141,ntmps141;go_wp2_with(refine(HH _).mono ?_;rintro e w2 ⟨rfl,hw⟩;have H3:=hw.symm▸H1;have x3:=hw.symm▸x1;clear hw;obtain⟨d0,d1,d2,d3⟩:=H3.cells4;obtain⟨f0,f1,f2,f3⟩:=H3.frees4;have fl:=H3.lt)
    refine ak (fun wz=>D wz (aa w.heap.size #[f o 0,f o 0,f o 0,f o 0] 39*(bq p l*R))∧S w wz) ⟨H3.set4 _ _ _ _,ah⟩ ?_;rintro wz ⟨hz,xz⟩;exact C (av results141 rfl rfl (aV hz)) rfl ⟨rfl,hz.right,xz⟩
   ·have hd:decide (r<0)=H:=decide_eq_false (by omega)
    have hd7:decide (7<r)=I:=decide_eq_true h7;clear hk hl h;go_enter func141,ntmps141;go_wp2_with(refine(HH _).mono ?_;rintro e w2 ⟨rfl,hw⟩;have H3:=hw.symm▸H1;have x3:=hw.symm▸x1;clear hw;obtain⟨d0,d1,d2,d3⟩:=H3.cells4;obtain⟨f0,f1,f2,f3⟩:=H3.frees4;have fl:=H3.lt)
    refine ak (fun wz=>D wz (aa w.heap.size #[f o 0,f o 0,f o 0,f o 0] 39*(bq p l*R))∧S w wz) ⟨H3.set4 _ _ _ _,ah⟩ ?_;rintro wz ⟨hz,xz⟩;exact C (av results141 rfl rfl (aV hz)) rfl ⟨rfl,hz.right,xz⟩
 |true=>
  have hbi:=Bk.protB_iff.1 hb;have hh:cP k=I:=by unfold cP;simp;omega
  obtain⟨h0,h4,hr0,hr7⟩:=hbi;have hd:decide (r<0)=H:=decide_eq_false (by omega);have hd7:decide (7<r)=H:=decide_eq_false (by omega);rw[hh] at HH;rw[if_pos rfl,if_pos rfl,if_pos rfl];have hB:=nr l hl k hk p _ _ H1.p2;rcases af hl k with ⟨hf,_,hp⟩|⟨hi,ho,hf,_,_,_,hp⟩
  ·rw[hf] at hB
   rw[hf,hp r];change F _ _ _ w (cI (.tuple #[kI d,f o 5]) (bq p l*R) w);clear h hf hl hp hb hh;go_enter func141,ntmps141;go_wp2_with(first|(go_at_call 158;refine(HH _).mono ?_;rintro e w2 ⟨rfl,rfl⟩)|(go_at_call 175;refine hB.mono ?_;rintro e w2 ⟨i,_,rfl,_,b2⟩;have H3:=H1.below b2;have x3:=x1.below b2;obtain⟨d0,d1,d2,d3⟩:=H3.cells4;obtain⟨f0,f1,f2,f3⟩:=H3.frees4;have fl:=H3.lt))
   refine ak (fun wz=>D wz (aa w.heap.size #[f o 0,f o 0,f o 0,f o 0] 39*(bq p l*R))∧S w wz) ⟨H3.set4 _ _ _ _,ah⟩ ?_;rintro wz ⟨hz,xz⟩;exact C (av results141 rfl rfl (aV hz)) rfl ⟨rfl,hz.right,xz⟩
  ·rw[hf] at hB
   rw[hf,hp r];change F _ _ _ w (cI (.tuple #[kI (y {l[B l k] with rights:=r}),f o 0]) _ w);have hq:=fun i (e:0≤k→i=B l k)=>e h0;generalize B l k=q at*
   clear h hf hl ho hb hp hh;go_enter func141,ntmps141;go_upto_region 6 with (first|(go_at_call 158;refine(HH _).mono ?_;rintro e w2 ⟨rfl,rfl⟩)|(go_at_call 175;refine hB.mono ?_;rintro e w2 ⟨i,_,rfl,hiq,b2⟩;obtain rfl:=hq _ hiq;clear hiq hq hB));have H3:=H1.below b2;have x3:=x1.below b2;clear H1 x1 b2;obtain⟨A,c,h3⟩:=d9 H3.p2;have k0:=h3.cell 0;have kl:=h3.lt;obtain⟨g,rfl,gb,g0,g1,g2,g3⟩:=dS h3.right hi;have hbig:=gS h3.right;have h4:=nW i r h3.p2 hi;have x4:=x3.set ⟨g,i*4+3,d⟩ (f o r);have gf:w2.frozen? ⟨g,i*4+3,d⟩=H:=by
    obtain⟨b,hb,_,_,hf⟩:=Has.rowGet (e:=39) (size:=4) h3.right (i:=i*4+3) (u:=(aY l)[i*4+3]'(by rw[dE];omega)) (List.getElem?_eq_getElem _);injection hb with hb
    injection hb with hb
    subst hb;exact hf
   have hrow:=Has.rowAt (e:=39) (size:=4) h3.p2 (by omega);obtain⟨g',cur,hg',_,_,_,_,hblk⟩:=hrow;injection hg' with hg'
   injection hg' with hg'
   subst hg';have hpg:=hblk.ne;have hpg':=hpg.symm;have hblk2:D w2 (aa g cur 39*(aa w.heap.size #[f o 0,f o 0,f o 0,f o 0] 39*(aa p #[.slice (y (z g 0 d)) l.length c] 211*R))):=hblk.eq (by(simp only[aG,ar,bj]));have hrg:=hblk2.ne;have hrg':=hrg.symm;obtain⟨d0,d1,d2,d3⟩:=hblk2.right.cells4;obtain⟨f0,f1,f2,f3⟩:=hblk2.right.frees4;have fl:=hblk2.right.lt;clear hblk hblk2;have hz:(l.take i++{l[i] with rights:=r}::l.drop (i+1)).length =l.length:=by simp;omega
   have HZ:=s hz;clear hz;generalize hxo:l[i]=x at*
   have HX:=s hxo;clear hxo;have h5:D (w2.setCell ⟨g,i*4+3,d⟩ (f o r)) (aa w.heap.size #[f o 0,f o 0,f o 0,f o 0] 39*(aa p #[.slice (y (z g 0 d)) l.length c] 211*(bO (.slice (y (z g 0 d)) l.length c) (l.take i++{x with rights:=r}::l.drop (i+1))*R))):=h4.eq (by(simp only[aG,ar,bj]));clear h3 h4 H3;go_wp2_with fail
   refine ak (fun wz=>D wz (aa w.heap.size #[f o x.page,f o x.size,f o x.frame,f o r] 39*(aa p #[.slice (y (z g 0 d)) l.length c] 211*(bO (.slice (y (z g 0 d)) l.length c) (l.take i++{x with rights:=r}::l.drop (i+1))*R)))∧S w wz) ⟨h5.set4 _ _ _ _,ah⟩ ?_;rintro wz ⟨hz,xz⟩;exact C (av results141 rfl rfl (aV hz)) rfl (by have e1:=HX.out;subst e1;exact⟨rfl,fW (A:=y (z g 0 d)) (c:=c) (by rw[HZ.out];exact hz.right),xz⟩)
theorem tH(p:Nat)(l:List M)(a:Ac)(R:ab)(w:E)(hl:O l)(ha:cL a.page)(h:D w (bq p l*R)):
  F prog 145 #[.pointer (y (z p 0 d)),.agg #[f o a.page,f o a.kind,vB a.user]] w (Pure (Y l a).val w):=by
 have h1:=(aT w).new #[f o a.page,f o a.kind,vB a.user] 41;have H2:=h1.new #[f o 0,f o 0,f o 0] 34;have G2:=(h.new #[f o a.page,f o a.kind,vB a.user] 41).new #[f o 0,f o 0,f o 0] 34;have x2:=((K w).alloc (.cells #[f o a.page,f o a.kind,vB a.user] 41)).alloc (.cells #[f o 0,f o 0,f o 0] 34);simp only[World.size_alloc] at H2 G2;have G3:D _ (bq p l*(aa (w.heap.size+1) #[f o 0,f o 0,f o 0] 34*(aa w.heap.size #[f o a.page,f o a.kind,vB a.user] 41*R))):=G2.eq (by(simp only[aG,ar,bj]));have hF:=vY p l a.page _ _ hl ha G3;have c0:=G2.right.cell 0;cases hf:L l a.page with
 |none=>
  have hy:=s (show Y l a=⟨1,0,0⟩ by unfold Y;rw[hf]);rw[hf] at hF;change F _ _ _ _ (Pure (.tuple #[.agg #[f o 0,f o 0,f o 0,f o 0],vB H]) _) at hF;clear h h1 G3 G2 hf hl;go_enter func145,ntmps145;go_wp2_with(refine hF.mono ?_;rintro e w3 ⟨rfl,b3⟩;have H3:=H2.below b3;have x3:=x2.below b3;obtain⟨d0,d1,d2⟩:=H3.cells3;obtain⟨f0,f1,f2⟩:=H3.frees3;have fl:=H3.lt)
  refine ak (fun wz=>D wz (aa (w.heap.size+1) #[f o 1,f o 0,f o 0] 34*(aa w.heap.size #[f o a.page,f o a.kind,vB a.user] 41*bS w w.heap.size))∧S w wz) ⟨(((H3.set 0 (f o 1)).set 1 (f o 0)).set 2 (f o 0)).alloc (.cells #[f o 0,f o 0,f o 0,f o 0] 39),ah⟩ ?_;rintro wz ⟨hz,xz⟩;exact C (aD results145 rfl (br hz)) rfl ⟨by rw[hy.out];rfl,aq hz.right.right xz⟩
 |some x=>
  have hy:=s (show Y l a=bJ x a by unfold Y;rw[hf]);rw[hf] at hF;change F _ _ _ _ (Pure (.tuple #[.agg #[f o x.page,f o x.size,f o x.frame,f o x.rights],vB I]) _) at hF;clear h h1 G3 G2 hf hl;go_enter func145,ntmps145;go_wp2_with(first|(go_at_call 180;refine hF.mono ?_;rintro e w3 ⟨rfl,b3⟩;have H3:=H2.below b3;have x3:=x2.below b3;clear c0;obtain⟨a0,a1,a2⟩:=H3.right.cells3;have al:=H3.right.lt)|(fail))
  have H4:=H3.alloc (.cells #[f o x.page,f o x.size,f o x.frame,f o x.rights] 39);have x4:=x3.alloc (.cells #[f o x.page,f o x.size,f o x.frame,f o x.rights] 39);have HA:=s (fun W=>jZ x a.page a.kind a.user W);have hy2:=hy;clear hy;generalize bJ x ⟨a.page,a.kind,a.user⟩=r at*
  go_wp2_with(refine(HA.out _).mono ?_;rintro e w5 ⟨rfl,b5⟩;have H5:=H4.below b5;have x5:=x4.below b5;obtain⟨r0,r1,r2⟩:=H5.cells3;obtain⟨f0,f1,f2⟩:=H5.frees3;have fl:=H5.lt)
  refine ak (fun wz=>D wz (aa (w.heap.size+1) #[f o r.fin,f o r.frame,f o r.rights] 34*(aa w.heap.size #[f o a.page,f o a.kind,vB a.user] 41*bS w w.heap.size))∧S w wz) ⟨((H5.set 0 (f o r.fin)).set 1 (f o r.frame)).set 2 (f o r.rights),ah⟩ ?_;rintro wz ⟨hz,xz⟩;exact C (aD results145 rfl (br hz)) rfl ⟨by rw[hy2.out];rfl,aq hz.right.right xz⟩
def bg(q:Nat)(l:List M):ab:=ex fun A=>ex fun c=>aa q #[.slice A l.length c] 91*bO (.slice A l.length c) l
theorem gu{q:Nat}{l:List M}{P:ab}{w:E}(h:D w (bg q l*P)):∃A c,D w (aa q #[.slice A l.length c] 91*(bO (.slice A l.length c) l*P)):=by
 unfold bg at h;obtain⟨A,h⟩:=aH.1 h;obtain⟨c,h⟩:=aH.1 h;exact⟨A,c,h.a1⟩
theorem cD{q c:Nat}{A:Option Addr}{l:List M}{P:ab}{w:E}(h:D w (aa q #[.slice A l.length c] 91*(bO (.slice A l.length c) l*P))):D w (bg q l*P):=by
 unfold bg;exact aH.2 ⟨A,aH.2 ⟨c,h.a2⟩⟩
def Bk.idx(l:List M)(p:Int):Int:=if(L l p).isSome =I then(B l p:Int) else -1
theorem Bk.idx_hit{l:List M}(hl:O l){p:Int}{i:Nat}(hi:i<l.length)(ho:over l[i] p=I):Bk.idx l p=i:=by
 obtain⟨e1,e2⟩:=Bk.over_at hl hi ho;unfold Bk.idx;rw[e2];simp;omega
theorem Bk.idx_miss{l:List M}{p:Int}(h:∀j (hj:j<l.length),over l[j] p=H):Bk.idx l p= -1:=by
 have:L l p=d:=List.find?_eq_none.2 fun x hx=>by
  obtain⟨j,hj,rfl⟩:=List.getElem_of_mem hx;rw[h j hj];simp
 unfold Bk.idx;rw[this];rfl
theorem MapOk.i64{m:M}(h:MapOk m):Go.Proofs.YtmfheghbgihdmaaGreat.cL m.page:=⟨by have:=h.p0;omega,by have:=h.p1;have:=h.sp;omega⟩
theorem wg(q:Nat)(l:List M)(k:Int)(R:ab)(w:E)(hl:O l)(hk:cL k)(h:D w (bg q l*R)):
  F prog 91 #[.pointer (y (z q 0 d)),.int .i64 k] w (Pure (f o (Bk.idx l k)) w):=by
 obtain⟨A,c,h⟩:=gu h;have hbig:=hl.le;have hli:∀x∈l,cL x.page:=fun x hx=>(hl.chk x hx).i64;have HL:=s hl;clear hl;have c0:=h.cell 0;go_enter func91,ntmps91;go_wp2_with fail
 go_loopw [5] (fun s5 wr=>∃i:Nat,i≤l.length∧s5=f o i∧Below w.heap.size w wr∧Hid (∀j (hj:j<l.length),j<i→over l[j] k=H)) (fun s5 _=>l.length - (intOf s5).toNat)
 case atStart=>exact⟨0,Nat.zero_le _,rfl,Below.refl _ _,s fun j _ h=>absurd h (Nat.not_lt_zero _)⟩
 case round=>
  obtain⟨i,hi,rfl,BW,HA⟩:=hrel;have h':=h.below BW;clear c0;have c0:=h'.cell 0;have cl:=h'.lt;have BW':=s BW;clear BW;by_cases hlt:i<l.length
  ·obtain⟨b,rfl,hb,d0,d1,d2,d3⟩:=dS h'.right hlt
   have HC:=s (iW l[i] k wr (hli _ (List.getElem_mem hlt)) hk);generalize hx:l[i]=x at d0 d1 d2 d3 HC;have HX:=s hx;clear hx h' h;cases hq:over x k with
   |true=>
    rw[hq] at HC;go_wp2_with(refine HC.out.mono ?_;rintro e w' ⟨rfl,hb'⟩)
    go_ret;exact⟨by rw[Bk.idx_hit HL.out hlt (by rw[HX.out];exact hq)];rfl,BW'.out.trans (hb'.mono BW'.out.size)⟩
   |false=>
    rw[hq] at HC;go_wp2_with(refine HC.out.mono ?_;rintro e w' ⟨rfl,hb'⟩)
    go_roundw
    case rel=>
     refine⟨i+1,by omega,by go_num,BW'.out.trans (hb'.mono BW'.out.size),s fun j hj hjk=> ?_⟩;by_cases e:j=i
     ·subst e;rw[HX.out];exact hq
     ·exact HA.out j hj (by omega)
    case measure=>simp[intOf];omega
  ·have:i=l.length:=by omega
   subst this;go_wp2_with fail
   go_ret;exact⟨by rw[Bk.idx_miss fun j hj=>HA.out j hj hj];rfl,BW'.out⟩
theorem wh(q:Nat)(l:List M)(R:ab)(w:E)(hs:l.length≤1000000)(h:D w (bg q l*R)):
  F prog 87 #[.pointer (y (z q 0 d))] w fun e w'=>∃p,cI (.pointer (y (z p 0 d))) (bg p l*(bg q l*R)) w e w':=by
 obtain⟨A,c,h⟩:=gu h;have c0:=h.cell 0;have cl:=h.lt;have h1:D w (bZ 39 4 (.slice d 0 0) 0 []*(bO (.slice A l.length c) l*(aa q #[.slice A l.length c] 91*R))):=Has.rowNil h.p2;go_enter func87,ntmps87;go_wp2_with(at_builtin;refine kg rfl _ _ 44 rfl underlying44 it _ _ _ rfl _ _ _ rfl h1 (gR l) ?c1 ?c2 ?_)
 case c1=>unfold maxLen;omega
 case c2=>omega
 intro A' c' w2 h2 x2;have h3:=h2.new #[.slice A' l.length c'] 91;have x3:=x2.alloc (.cells #[.slice A' l.length c'] 91);go_wp2_with fail
 go_ret;have h4:D (w2.alloc (.cells #[.slice A' l.length c'] 91)) (aa q #[.slice A l.length c] 91*(bO (.slice A l.length c) l*(aa w2.heap.size #[.slice A' l.length c'] 91*(bO (.slice A' l.length c') l*R)))):=h3.eq (by unfold bO;(simp only[aG,ar,bj]));exact⟨_,rfl,cD (A:=A') (c:=c') ((cD h4).eq (by(simp only[aG,ar,bj]))),x3⟩
theorem tI{w:E}{R:ab}{g n c:Nat}{l:List M}(h:D w (bO (.slice (y (z g 0 d)) n c) l*R)){k:Nat}(hk:k<l.length):
  g<w.heap.size∧(w.cell? ⟨g,k*4,d⟩=y (f o l[k].page)∧w.cell? ⟨g,k*4+1,d⟩=y (f o l[k].size)∧w.cell? ⟨g,k*4+2,d⟩=y (f o l[k].frame)∧w.cell? ⟨g,k*4+3,d⟩=y (f o l[k].rights)):=by
 obtain⟨b,e,h1,h2⟩:=dS h hk;injection e with e
 injection e with e
 subst e;exact⟨h1,h2⟩
theorem gI{w:E}{R:ab}{v:Value}{out:List M}{x:M}(h:D w (bZ 39 4 v (out.length+1) (aY out++x.cells)*R)):∃A c,v= .slice A (out++[x]).length c∧D w (bO (.slice A (out++[x]).length c) (out++[x])*R):=by
 have hl:(out++[x]).length =out.length+1:=by simp
 have hf:∃A c,v= .slice A (out.length+1) c:=by
  rcases h.rowCases with ⟨hv,hn,_,_⟩|⟨g,cap,cur,hv,_⟩
  ·omega
  ·exact⟨_,_,hv⟩
 obtain⟨A,c,rfl⟩:=hf;refine⟨A,c,by rw[hl],?_⟩;unfold bO;rw[jn,hl];exact h
def jg(l:List M)(m:M)(i:Nat):List M:=Bk.part l m (B l m.page) i
set_option maxHeartbeats 4000000 in
theorem wi(q:Nat)(l:List M)(m:M)(R:ab)(w:E)(hl:O l)(hm:cL m.page)(h:D w (bg q l*R)):
  F prog 88 #[.pointer (y (z q 0 d)),.agg #[f o m.page,f o m.size,f o m.frame,f o m.rights]] w (cI (f o (Z l m)) (bg q (X l m)*R) w):=by
 have H1:=h.new #[f o m.page,f o m.size,f o m.frame,f o m.rights] 39;have x1:=(K w).alloc (.cells #[f o m.page,f o m.size,f o m.frame,f o m.rights] 39);have HC:=gx m;obtain⟨c0,c1,c2,c3⟩:=H1.cells4;by_cases hc:ba m=0
 ·rw[hc] at HC
  have hmo:=ep hc;have hle:=hl.le;have hli:∀x∈l,cL x.page:=fun x hx=>(hl.chk x hx).i64;have HL:=s hl;clear hl h;have hpl:=Bk.pos_le l m.page;go_enter func88,ntmps88;go_wp2_with(refine(HC _).mono ?_;rintro e w2 ⟨rfl,b2⟩)
  have h2:=H1.below b2;have x2:=x1.below b2;clear H1 x1 b2 c0 c1 c2 c3 HC;have h3:D w2 (bO (.slice d ([]:List M).length 0) []*(aa w.heap.size #[f o m.page,f o m.size,f o m.frame,f o m.rights] 39*(bg q l*R))):=Has.rowNil h2;have h4:D w2 (bg q l*(bO (.slice d ([]:List M).length 0) []*(aa w.heap.size #[f o m.page,f o m.size,f o m.frame,f o m.rights] 39*R))):=h3.eq (by(simp only[aG,ar,bj]));clear h2 h3;go_loopw [6,7,8] (fun s6 s7 s8 wr=>∃(i:Nat) (A':Option Addr) (c':Nat),i≤l.length∧s8=f o i∧s7=vB (decide (B l m.page<i))∧s6= .slice A' (jg l m i).length c'∧Hid (∀j (hj:j<l.length),j<i→du l[j] m=H)∧
    D wr (bg q l*(bO (.slice A' (jg l m i).length c') (jg l m i)*(aa w.heap.size #[f o m.page,f o m.size,f o m.frame,f o m.rights] 39*R)))∧S w wr) (fun _ _ s8 _=>l.length - (intOf s8).toNat)
  case atStart=>exact⟨0,d,0,Nat.zero_le _,rfl,rfl,rfl,s fun j _ h=>absurd h (Nat.not_lt_zero _),h4,x2⟩
  case round=>
   clear h4 x2;obtain⟨i,A',c',hi,rfl,rfl,rfl,HN,hr,hx⟩:=hrel;have hll:(jg l m i).length ≤i+1:=by unfold jg Bk.part;split<;>simp<;>omega
   obtain⟨A,c,ho⟩:=gu hr;clear hr;have e0:=ho.cell 0;have el:=ho.lt;by_cases hlt:i<l.length
   ·obtain⟨b,rfl,hb,d0,d1,d2,d3⟩:=dS ho.right hlt
    obtain⟨c0,c1,c2,c3⟩:=ho.r3.cells4;have HB:=s (fun hn=>Bk.behind HL.out hmo hlt hn);have HM:=s (fun W=>oB l[i] m W (hli _ (List.getElem_mem hlt)) hm);have HBD:=s (show du l[i] m=I→Z l m=4∧X l m=l from fun h=>a3 hc (List.any_eq_true.2 ⟨l[i],List.getElem_mem hlt,h⟩));have HLO:=s (show i<B l m.page→jg l m (i+1)=jg l m i++[l[i]] from fun h=>Bk.part_low h hlt);have HHI:=s (show B l m.page<i→jg l m (i+1)=jg l m i++[l[i]] from fun h=>Bk.part_high h hlt);have HAT:=s (show B l m.page=i→jg l m (i+1)=jg l m i++[m]++[l[i]] from fun h=>by unfold jg;rw[h];exact Bk.part_at hlt);have HX:=s (show∀j (hj:j<l.length),j=i→l[j]=l[i] from fun j hj h=>by subst h;rfl);have HXC:=s (fun(W:E) (P:ab) (h:D W (bO (.slice (y (z b 0 d)) l.length c) l*P))=>tI h hlt);generalize l[i]=x at*
    generalize jg l m i=out at*
    have v0:=ae e0;have u0:=ae d0;have u1:=ae d1;have u2:=ae d2;have u3:=ae d3;have t0:=ae c0;have t1:=ae c1;have t2:=ae c2;have t3:=ae c3;cases hq:du x m with
    |true=>
     obtain⟨hy1,hy2⟩:=HBD.out hq;rw[hq] at HM;have HY1:=s hy1;have HY2:=s hy2;clear hy1 hy2 HBD HLO HHI HAT HB hq;go_wp2_with fail
     refine ap (by kernel_rfl) (by kernel_rfl) ?_;repeat(first|go_big_quiet_step ((go_at_call 146;exact Pure.via (HM.out _)))|quiet_step ((go_at_call 146;exact Pure.via (HM.out _))))
     refine wpQuiet_nil ?_;intro _ hw';obtain⟨uq,hw''⟩:=hw';subst hw'';go_wp2_with fail
     go_ret;rw[HY1.out,HY2.out];exact⟨rfl,(cD (ho.via uq)).drop3.p2.right,hx.below (aB _ _)⟩
    |false=>
     have hbe:=HB.out hq;rw[hq] at HM;have HN':Hid (∀j (hj:j<l.length),j<i+1→du l[j] m=H):=s fun j hj h=>by
      by_cases e:j=i
      ·rw[HX.out j hj e];exact hq
      ·exact HN.out j hj (by omega)
     clear HBD HB hq HX HN;go_wp2_with fail
     refine ap (by kernel_rfl) (by kernel_rfl) ?_;repeat(first|go_big_quiet_step ((go_at_call 146;exact Pure.via (HM.out _)))|quiet_step ((go_at_call 146;exact Pure.via (HM.out _))))
     refine wpQuiet_nil ?_;intro _ hw';obtain⟨uq,hw''⟩:=hw';subst hw'';have hv:=ho.via uq;have xv:=hx.below (aB wr uq);clear HM v0 u0 u1 u2 u3 t0 t1 t2 t3 c0 c1 c2 c3 d0 d1 d2 d3 e0 el hb ho hx;generalize fJ wr uq=wv at*
     clear wr uq;have e0:=hv.cell 0;have el:=hv.lt;obtain⟨hb,d0,d1,d2,d3⟩:=HXC.out _ _ hv.right;obtain⟨c0,c1,c2,c3⟩:=hv.r3.cells4;have cl:=hv.r3.lt;have v0:=ae e0;have u0:=ae d0;have t0:=ae c0;rcases Nat.lt_trichotomy (B l m.page) i with hki|hki|hki
     ·have hd:decide (B l m.page<i)=I:=decide_eq_true hki
      have HE:=s (HHI.out hki);have hd2:(I:Bool)=decide (B l m.page<i+1):=(decide_eq_true (by omega)).symm;have HD2:=s hd2;clear HHI HLO HAT hbe hd2;go_wp2_with fail
      refine ap (by kernel_rfl) (by kernel_rfl) ?_;repeat(first|go_big_quiet_step (fail)|quiet_step (fail))
      refine wpQuiet_nil ?_;intro _ hw';obtain⟨uq,hw''⟩:=hw';subst hw'';have hr2:D (fJ wv uq) (bZ 39 4 (.slice A' out.length c') out.length (aY out)*(aa q #[.slice (y (z b 0 d)) l.length c] 91*(bO (.slice (y (z b 0 d)) l.length c) l*(aa w.heap.size #[f o m.page,f o m.size,f o m.frame,f o m.rights] 39*R)))):=(hv.via uq).eq (by unfold bO;(simp only[aG,ar,bj]));have x2:=xv.below (aB wv uq);clear v0 u0 t0 e0 el hb d0 d1 d2 d3 c0 c1 c2 c3 cl hv xv;generalize fJ wv uq=wy at*
      have e0:=hr2.right.cell 0;have el:=hr2.right.lt;obtain⟨hb,d0,d1,d2,d3⟩:=HXC.out _ _ hr2.right.right;go_wp2_with(at_builtin;refine aW rfl _ _ 44 rfl underlying44 it _ _ _ rfl (hr2.alloc (.cells #[f o x.page,f o x.size,f o x.frame,f o x.rights] 39)) (z wy.heap.size 0 d) 1 1 x.cells rfl rfl (dx wy x.cells 39) (jo x) ?_ ?_ ?_)
      rotate_left;rotate_left
      ·intro v3 w3 h3 x3
       obtain⟨A3,c3,rfl,g3⟩:=gI h3;clear h3;go_wp2_with fail
       go_roundw
       case rel=>exact⟨i+1,A3,c3,by omega,by go_num,by rw[←HD2.out],by rw[HE.out],HN',by rw[HE.out];exact(cD (A:=y (z b 0 d)) (c:=c) (g3.eq (by(simp only[aG,ar,bj])))),(x2.alloc _).trans x3⟩
       case measure=>simp[intOf];omega
      ·unfold maxLen;omega
      ·omega
     ·have hd:decide (B l m.page<i)=H:=decide_eq_false (by omega)
      have hbe2:decide (m.page<x.page)=I:=by rw[hbe];exact decide_eq_true (by omega)
      have HE:=s (HAT.out hki);have HD2:=s (show(I:Bool)=decide (B l m.page<i+1) from(decide_eq_true (by omega)).symm);clear HHI HLO HAT hbe hki;go_wp2_with fail
      refine ap (by kernel_rfl) (by kernel_rfl) ?_;repeat(first|go_big_quiet_step (fail)|quiet_step (fail))
      refine wpQuiet_nil ?_;intro _ hw';obtain⟨uq,hw''⟩:=hw';subst hw'';have hr2:D (fJ wv uq) (bZ 39 4 (.slice A' out.length c') out.length (aY out)*(aa q #[.slice (y (z b 0 d)) l.length c] 91*(bO (.slice (y (z b 0 d)) l.length c) l*(aa w.heap.size #[f o m.page,f o m.size,f o m.frame,f o m.rights] 39*R)))):=(hv.via uq).eq (by unfold bO;(simp only[aG,ar,bj]));have x2:=xv.below (aB wv uq);clear v0 u0 t0 e0 el hb d0 d1 d2 d3 c0 c1 c2 c3 cl hv xv hd hbe2;generalize fJ wv uq=wy at*
      obtain⟨c0,c1,c2,c3⟩:=hr2.r3.cells4;have cl:=hr2.r3.lt;go_wp2_with(at_builtin;refine aW rfl _ _ 44 rfl underlying44 it _ _ _ rfl (hr2.alloc (.cells #[f o m.page,f o m.size,f o m.frame,f o m.rights] 39)) (z wy.heap.size 0 d) 1 1 m.cells rfl rfl (dx wy m.cells 39) (jo m) ?_ ?_ ?_)
      rotate_left;rotate_left
      ·intro v3 w3 h3 x3
       obtain⟨A3,c3',rfl,g3⟩:=gI h3;have h3':D w3 (bZ 39 4 (.slice A3 (out++[m]).length c3') (out++[m]).length (aY (out++[m]))*_):=g3;clear c0 c1 c2 c3 cl h3;have e0:=g3.right.cell 0;have el:=g3.right.lt;obtain⟨hb,d0,d1,d2,d3⟩:=HXC.out _ _ g3.right.right;have hl3:(out++[m]).length ≤i+2:=by simp;omega
       generalize out++[m]=out2 at*
       go_wp2_with(at_builtin;refine aW rfl _ _ 44 rfl underlying44 it _ _ _ rfl (h3'.alloc (.cells #[f o x.page,f o x.size,f o x.frame,f o x.rights] 39)) (z w3.heap.size 0 d) 1 1 x.cells rfl rfl (dx w3 x.cells 39) (jo x) ?_ ?_ ?_)
       rotate_left;rotate_left
       ·intro v4 w4 h4 x4
        obtain⟨A4,c4,rfl,g4⟩:=gI h4;clear h4;go_wp2_with fail
        go_roundw
        case rel=>exact⟨i+1,A4,c4,by omega,by go_num,by rw[←HD2.out],by rw[HE.out],HN',by rw[HE.out];exact(cD (A:=y (z b 0 d)) (c:=c) (g4.eq (by(simp only[aG,ar,bj])))),((x2.alloc _).trans x3).alloc _ |>.trans x4⟩
        case measure=>simp[intOf];omega
       ·unfold maxLen;omega
       ·omega
      ·unfold maxLen;omega
      ·omega
     ·have hd:decide (B l m.page<i)=H:=decide_eq_false (by omega)
      have hbe2:decide (m.page<x.page)=H:=by rw[hbe];exact decide_eq_false (by omega)
      have HE:=s (HLO.out hki);have HD2:=s (show(H:Bool)=decide (B l m.page<i+1) from(decide_eq_false (by omega)).symm);clear HHI HLO HAT hbe;go_wp2_with fail
      refine ap (by kernel_rfl) (by kernel_rfl) ?_;repeat(first|go_big_quiet_step (fail)|quiet_step (fail))
      refine wpQuiet_nil ?_;intro _ hw';obtain⟨uq,hw''⟩:=hw';subst hw'';have hr2:D (fJ wv uq) (bZ 39 4 (.slice A' out.length c') out.length (aY out)*(aa q #[.slice (y (z b 0 d)) l.length c] 91*(bO (.slice (y (z b 0 d)) l.length c) l*(aa w.heap.size #[f o m.page,f o m.size,f o m.frame,f o m.rights] 39*R)))):=(hv.via uq).eq (by unfold bO;(simp only[aG,ar,bj]));have x2:=xv.below (aB wv uq);clear v0 u0 t0 e0 el hb d0 d1 d2 d3 c0 c1 c2 c3 cl hv xv hbe2;generalize fJ wv uq=wy at*
      have e0:=hr2.right.cell 0;have el:=hr2.right.lt;obtain⟨hb,d0,d1,d2,d3⟩:=HXC.out _ _ hr2.right.right;go_wp2_with(at_builtin;refine aW rfl _ _ 44 rfl underlying44 it _ _ _ rfl (hr2.alloc (.cells #[f o x.page,f o x.size,f o x.frame,f o x.rights] 39)) (z wy.heap.size 0 d) 1 1 x.cells rfl rfl (dx wy x.cells 39) (jo x) ?_ ?_ ?_)
      rotate_left;rotate_left
      ·intro v3 w3 h3 x3
       obtain⟨A3,c3,rfl,g3⟩:=gI h3;clear h3;go_wp2_with fail
       go_roundw
       case rel=>exact⟨i+1,A3,c3,by omega,by go_num,by rw[←HD2.out],by rw[HE.out],HN',by rw[HE.out];exact(cD (A:=y (z b 0 d)) (c:=c) (g3.eq (by(simp only[aG,ar,bj])))),(x2.alloc _).trans x3⟩
       case measure=>simp[intOf];omega
      ·unfold maxLen;omega
      ·omega
   ·have hil:i=l.length:=by omega
    subst hil;have hnb:N l m=H:=by
     unfold N;rw[List.any_eq_false];intro x hx;obtain⟨j,hj,rfl⟩:=List.getElem_of_mem hx;rw[HN.out j hj hj];simp
    obtain⟨hy1,hy2⟩:=a4 hc hnb;have HY1:=s hy1;have HY2:=s hy2;clear hy1 hy2 HN hnb;obtain⟨c0,c1,c2,c3⟩:=ho.r3.cells4;have cl:=ho.r3.lt;have ef:=ho.free 0;by_cases hk:B l m.page<l.length
    ·have hd:decide (B l m.page<l.length)=I:=decide_eq_true hk
     have HE:=s (show jg l m l.length=X l m by rw[HY2.out];exact Bk.part_end hk);generalize jg l m l.length=out at*
     go_wp2_with fail
     go_ret;rw[HY1.out,←HE.out];have h5':D (wr.setCell (z q 0 d) (.slice A' out.length c')) (aa q #[.slice A' out.length c'] 91*_):=ho.set 0 (.slice A' out.length c');have h5:=h5'.eq (Q:=aa q #[.slice A' out.length c'] 91*(bO (.slice A' out.length c') out*(R*(bO (.slice A l.length c) l*aa w.heap.size #[f o m.page,f o m.size,f o m.frame,f o m.rights] 39)))) (by(simp only[aG,ar,bj]));exact⟨rfl,(cD h5).a2.left,hx.set _ _⟩
    ·have hd:decide (B l m.page<l.length)=H:=decide_eq_false hk
     have HE:=s (show jg l m l.length++[m]=X l m by
      rw[HY2.out];have e:B l m.page=l.length:=by omega
      unfold jg;rw[e];exact Bk.part_last l m)
     generalize jg l m l.length=out at*
     have hr2:D wr (bZ 39 4 (.slice A' out.length c') out.length (aY out)*(aa q #[.slice A l.length c] 91*(R*(bO (.slice A l.length c) l*aa w.heap.size #[f o m.page,f o m.size,f o m.frame,f o m.rights] 39)))):=ho.eq (by unfold bO;(simp only[aG,ar,bj]));clear ho;go_wp2_with(at_builtin;refine aW rfl _ _ 44 rfl underlying44 it _ _ _ rfl (hr2.alloc (.cells #[f o m.page,f o m.size,f o m.frame,f o m.rights] 39)) (z wr.heap.size 0 d) 1 1 m.cells rfl rfl (dx wr m.cells 39) (jo m) ?_ ?_ ?_)
     rotate_left;rotate_left
     ·intro v3 w3 h3 x3
      obtain⟨A3,c3,rfl,g3⟩:=gI h3;clear e0 el ef h3;have e0:=g3.right.cell 0;have el:=g3.right.lt;have ef:=g3.right.free 0;generalize out++[m]=out2 at*
      go_wp2_with fail
      go_ret;rw[HY1.out,←HE.out];exact⟨rfl,(cD (g3.p2.set 0 (.slice A3 out2.length c3))).a2.left,((hx.alloc _).trans x3).set _ _⟩
     ·unfold maxLen;omega
     ·omega
 ·have hn:(ba m !=0)=I:=by simpa using hc
  obtain⟨hy1,hy2⟩:=ad (l:=l) hc;rw[hy1,hy2];clear hy1 hy2 hc;generalize ba m=c at*
  go_enter func88,ntmps88;go_wp2_with(refine(HC _).mono ?_;rintro e w2 ⟨rfl,b2⟩)
  go_ret;exact⟨rfl,(H1.below b2).right,x1.below b2⟩
end Go.Proofs.YtmfheghbgihdmaaGreat
