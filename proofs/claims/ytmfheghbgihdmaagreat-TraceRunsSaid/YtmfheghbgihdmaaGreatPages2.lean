/- Contracts of the document's book: Drop, Answer. -/
import Derived.Test.YtmfheghbgihdmaaGreatBook
import Derived.StillTailTactics
import Derived.Test.YtmfheghbgihdmaaGreatMpRow
import Derived.Test.YtmfheghbgihdmaaGreatFrames3
import Derived.Test.YtmfheghbgihdmaaGreatTblM3
import Derived.Test.YtmfheghbgihdmaaGreatRefEnt5
import Derived.Test.YtmfheghbgihdmaaGreatWalkM2
import Derived.Test.YtmfheghbgihdmaaGreatRefPage
namespace Go.Proofs.YtmfheghbgihdmaaGreat
open Go.Value renaming bool→vB
open Go.Addr renaming mk→aMk
open Bool renaming true→f,false→D
open Go.Value renaming int→B
open Go.IntKind renaming i64→C
open Go renaming bodyPost_ret→E,Calls→V
open Option renaming some→F,none→K
open Go.Proofs.YtmfheghbgihdmaaGreat.Ms renaming has_iff→G,new→a6,giveS→bs
open Go.Proofs.YtmfheghbgihdmaaGreat renaming over→H,Has→O,Ext→a4,Ends→bi
open Go.Lib renaming hid→I
open Go.Proofs.YtmfheghbgihdmaaGreat.Bk renaming pos→J,dropL→N,del→S,Ok→T,idx→U,dropC→Y,protL→Z,protB_iff→ad,add→af,prot→ag,find→ax,ans→a5,addC→a7,dropR→bb,place→bd,find_mem→bf,protR→bk,protC→bl
open List renaming getElem?_eq_some_iff→Q
open Tryz
open Go.RowKit
set_option maxRecDepth 100000
def Bk.skip(l:List Mp)(k i:Nat):List Mp:=(l.take i).eraseIdx k
theorem Bk.skip_one{l:List Mp}{k i:Nat}(hi:i<l.length)(hk:i≠k):Bk.skip l k (i+1)=Bk.skip l k i++[l[i]]:=by
 unfold Bk.skip;rw[List.take_succ_eq_append_getElem hi];rcases Nat.lt_or_gt_of_ne hk with h|h
 ·rw[List.eraseIdx_of_length_le (by simp;omega),List.eraseIdx_of_length_le (by simp;omega)]
 ·rw[List.eraseIdx_append_of_lt_length (by simp;omega)]
theorem Bk.skip_it{l:List Mp}{i:Nat}(hi:i<l.length):Bk.skip l i (i+1)=Bk.skip l i i:=by
 unfold Bk.skip;have e0:(l.take i).eraseIdx i=l.take i:=List.eraseIdx_of_length_le (by simp;omega);have e1:i - (l.take i).length =0:=by simp;omega
 rw[List.take_succ_eq_append_getElem hi,List.eraseIdx_append_of_length_le (by simp;omega),e0,e1];simp
theorem Bk.skip_end(l:List Mp)(k:Nat):Bk.skip l k l.length=l.take k++l.drop (k+1):=by
 unfold Bk.skip;rw[List.take_length,List.eraseIdx_eq_take_drop_succ]
set_option maxHeartbeats 4000000 in
theorem ww(q:Nat)(l:List Mp)(k:Int)(R:ae)(w:World)(hl:T l)(hk:cy k)(h:O w (be q l*R)):
  V prog 89 #[.pointer (F (aMk q 0 K)),.int .i64 k] w (cN (.tuple #[lI (bb l k),B C (Y l k)]) (be q (N l k)*R) w):=by
 have H1:=h.new #[B C 0,B C 0,B C 0,B C 0] 39;have x1:=(Ext.refl w).alloc (.cells #[B C 0,B C 0,B C 0,B C 0] 39);unfold bb Y N;cases hb:cZ k with
 |false=>
  have hr:k<0∨4096≤k:=by
   unfold cZ at hb;rcases Int.lt_or_le k 0 with h0|h0
   ·exact .inl h0
   ·rw[decide_eq_true h0] at hb
    simp at hb;exact .inr hb
  obtain⟨d0,d1,d2,d3⟩:=H1.cells4;obtain⟨f0,f1,f2,f3⟩:=H1.frees4;have fl:=H1.lt;clear hb;rcases hr with h0|h0
  ·have hd:decide (k<0)=f:=decide_eq_true h0
   go_enter func89,ntmps89;go_wp2_with fail
   refine ao (fun wz=>O wz (aa w.heap.size #[B C 0,B C 0,B C 0,B C 0] 39*(be q l*R))∧a4 w wz) ⟨H1,ai⟩ ?_;rintro wz ⟨hz,xz⟩;exact E (ay results89 rfl rfl (aY hz)) rfl ⟨rfl,hz.right,xz⟩
  ·have hd:decide (k<0)=D:=decide_eq_false (by omega)
   have hd2:decide (4096≤k)=f:=decide_eq_true h0;go_enter func89,ntmps89;go_wp2_with fail
   refine ao (fun wz=>O wz (aa w.heap.size #[B C 0,B C 0,B C 0,B C 0] 39*(be q l*R))∧a4 w wz) ⟨H1,ai⟩ ?_;rintro wz ⟨hz,xz⟩;exact E (ay results89 rfl rfl (aY hz)) rfl ⟨rfl,hz.right,xz⟩
 |true=>
  have hr:0≤k∧k<4096:=by
   unfold cZ at hb;simpa using hb
  obtain⟨k0,k4⟩:=hr;have hd:decide (k<0)=D:=decide_eq_false (by omega);have hd2:decide (4096≤k)=D:=decide_eq_false (by omega);have hF:=wi q l k _ _ hl hk H1.p2;rcases bd hl k with ⟨hf,hdl,_⟩|⟨hi,ho,hf,h0,_,hdl,_⟩
  ·have hx:U l k= -1:=by unfold U;rw[hf];rfl
   rw[if_pos rfl,if_pos rfl,if_pos rfl,hf,hdl];rw[hx] at hF;clear h hf hl hdl hb hx;go_enter func89,ntmps89;go_wp2_with(refine hF.mono ?_;rintro e w2 ⟨rfl,b2⟩;have H3:=H1.below b2;have x3:=x1.below b2;obtain⟨d0,d1,d2,d3⟩:=H3.cells4;obtain⟨f0,f1,f2,f3⟩:=H3.frees4;have fl:=H3.lt)
   refine ao (fun wz=>O wz (aa w.heap.size #[B C 0,B C 0,B C 0,B C 0] 39*(be q l*R))∧a4 w wz) ⟨H3.set4 _ _ _ _,ai⟩ ?_;rintro wz ⟨hz,xz⟩;exact E (ay results89 rfl rfl (aY hz)) rfl ⟨rfl,hz.right,xz⟩
  ·have hx:U l k=J l k:=by unfold U;rw[hf];rfl
   rw[if_pos rfl,if_pos rfl,if_pos rfl,hf,hdl];rw[hx] at hF;change V _ _ _ w (cN (.tuple #[lI (F l[J l k]),B C 0]) _ w);rw[←Bk.skip_end];have hle:=hl.le;generalize J l k=p at*
   clear h hf hl ho hb hdl hx h0;go_enter func89,ntmps89;go_wp2_with(refine hF.mono ?_;rintro e w2 ⟨rfl,b2⟩)
   have h2:=H1.below b2;have x2:=x1.below b2;clear H1 x1 hF b2;have h3:O w2 (bh (.slice K ([]:List Mp).length 0) []*(aa w.heap.size #[B C 0,B C 0,B C 0,B C 0] 39*(be q l*R))):=Has.rowNil h2;have h4:O w2 (be q l*(bh (.slice K ([]:List Mp).length 0) []*(aa w.heap.size #[B C 0,B C 0,B C 0,B C 0] 39*R))):=h3.eq (by(simp only[aI,av,bo]));clear h2 h3;go_loopw [7,8] (fun s7 s8 wr=>∃(i:Nat) (A':Option Addr) (c':Nat),i≤l.length∧s8=B C i∧s7= .slice A' (Bk.skip l p i).length c'∧
     O wr (be q l*(bh (.slice A' (Bk.skip l p i).length c') (Bk.skip l p i)*(aa w.heap.size #[B C 0,B C 0,B C 0,B C 0] 39*R)))∧a4 w wr) (fun _ s8 _=>l.length - (intOf s8).toNat)
   case atStart=>exact⟨0,K,0,Nat.zero_le _,rfl,rfl,h4,x2⟩
   case round=>
    clear h4 x2;obtain⟨i,A',c',hi2,rfl,rfl,hr,hx⟩:=hrel;have hll:(Bk.skip l p i).length ≤i:=by unfold Bk.skip;have:=List.length_eraseIdx_le (l.take i) p;simp at this;omega
    obtain⟨A,c,ho⟩:=eW hr;clear hr;have e0:=ho.cell 0;have el:=ho.lt;by_cases hlt:i<l.length
    ·obtain⟨b,rfl,hb,d0,d1,d2,d3⟩:=dF ho.right hlt
     by_cases hip:i=p
     ·subst hip
      have HE:=I (Bk.skip_it hlt);generalize l[i]=x at*
      generalize Bk.skip l i i=out at*
      have hne:((i:Int) !=i)=D:=by simp
      go_wp2_with fail
      go_roundw
      case rel=>exact⟨i+1,A',c',by omega,by go_num,by rw[HE.out],by rw[HE.out];exact cJ ho,hx⟩
      case measure=>simp[intOf];omega
     ·have HE:=I (Bk.skip_one (k:=p) hlt hip)
      generalize l[i]=x at*
      generalize Bk.skip l p i=out at*
      have hne:((i:Int) !=p)=f:=by simp;omega
      have hr2:O wr (cj 39 4 (.slice A' out.length c') out.length (a8 out)*(aa q #[.slice (F (aMk b 0 K)) l.length c] 91*(bh (.slice (F (aMk b 0 K)) l.length c) l*(aa w.heap.size #[B C 0,B C 0,B C 0,B C 0] 39*R)))):=ho.eq (by unfold bh;(simp only[aI,av,bo]));go_wp2_with(at_builtin;refine aN rfl _ _ 44 rfl underlying44 iK _ _ _ rfl (hr2.alloc (.cells #[B C x.page,B C x.size,B C x.frame,B C x.rights] 39)) (aMk wr.heap.size 0 K) 1 1 x.cells rfl rfl (dq wr x.cells 39) (jF x) ?_ ?_ ?_)
      rotate_left;rotate_left
      ·intro v3 w3 h3 x3
       obtain⟨A3,c3,rfl,g3⟩:=gX h3;clear h3;go_wp2_with fail
       go_roundw
       case rel=>exact⟨i+1,A3,c3,by omega,by go_num,by rw[HE.out],by rw[HE.out];exact(cJ (A:=F (aMk b 0 K)) (c:=c) (g3.eq (by(simp only[aI,av,bo])))),(hx.alloc _).trans x3⟩
       case measure=>simp[intOf];omega
      ·unfold maxLen;omega
      ·omega
    ·have hil:i=l.length:=by omega
     subst hil;obtain⟨b,rfl,hb,d0,d1,d2,d3⟩:=dF ho.right hi;generalize hxo:l[p]=x at*
     generalize hou:Bk.skip l p l.length=out at*
     have HX:=I hxo;have HO:=I hou;clear hxo hou;have hr2:O wr (aa q #[.slice (F (aMk b 0 K)) l.length c] 91*(aa w.heap.size #[B C 0,B C 0,B C 0,B C 0] 39*(bh (.slice A' out.length c') out*(R*bh (.slice (F (aMk b 0 K)) l.length c) l)))):=ho.eq (by(simp only[aI,av,bo]));clear ho;have ef:=hr2.free 0;have hne:=hr2.ne;have hne':=hne.symm;have hm5:O (wr.setCell (aMk q 0 K) (.slice A' out.length c')) (aa q #[.slice A' out.length c'] 91*_):=hr2.set 0 (.slice A' out.length c');obtain⟨r0,r1,r2,r3⟩:=hr2.right.cells4;obtain⟨f0,f1,f2,f3⟩:=hr2.right.frees4;have rl:=hr2.right.lt;go_wp2_with fail
     refine ao (fun wz=>O wz (aa w.heap.size #[B C x.page,B C x.size,B C x.frame,B C x.rights] 39*(aa q #[.slice A' out.length c'] 91*(bh (.slice A' out.length c') out*(R*bh (.slice (F (aMk b 0 K)) l.length c) l))))∧a4 w wz) ⟨(hm5.p2.set4 _ _ _ _).alloc _,ai⟩ ?_;rintro wz ⟨hz,xz⟩;exact E (ay results89 rfl rfl (aY hz)) rfl (by have e1:=HX.out;have e2:=HO.out;subst e1;subst e2;exact⟨rfl,(cJ hz.right).a2.left,xz⟩)
theorem ry(q:Nat)(l:List Mp)(a:Ac)(R:ae)(w:World)(hl:T l)(ha:cy a.page)(h:O w (be q l*R)):
  V prog 41 #[.pointer (F (aMk q 0 K)),.agg #[B C a.page,B C a.kind,vB a.user]] w (Pure (a5 l a).val w):=by
 obtain⟨A,c,h0⟩:=eW h;have h1:=(aM w).new #[B C a.page,B C a.kind,vB a.user] 41;have H2:=h1.new #[B C 0,B C 0,B C 0] 34;have G2:=(h0.new #[B C a.page,B C a.kind,vB a.user] 41).new #[B C 0,B C 0,B C 0] 34;have x2:=((Ext.refl w).alloc (.cells #[B C a.page,B C a.kind,vB a.user] 41)).alloc (.cells #[B C 0,B C 0,B C 0] 34);simp only[World.size_alloc] at H2 G2;have G3:O _ (aa q #[.slice A l.length c] 91*(bh (.slice A l.length c) l*(aa (w.heap.size+1) #[B C 0,B C 0,B C 0] 34*(aa w.heap.size #[B C a.page,B C a.kind,vB a.user] 41*R)))):=G2.eq (by(simp only[aI,av,bo]));have hF:=wi q l a.page _ _ hl ha (cJ G3);have c0:=G2.right.cell 0;rcases bd hl a.page with ⟨hf,_⟩|⟨hi,ho,hf,h0,_⟩
 ·have hx:U l a.page= -1:=by unfold U;rw[hf];rfl
  have hy:=I (show a5 l a=⟨1,0,0⟩ by unfold a5;rw[hf]);rw[hx] at hF;clear h h0 h1 G3 G2 hf hl hx;go_enter func41,ntmps41;go_wp2_with(refine hF.mono ?_;rintro e w3 ⟨rfl,b3⟩;have H3:=H2.below b3;have x3:=x2.below b3;obtain⟨d0,d1,d2⟩:=H3.cells3;obtain⟨f0,f1,f2⟩:=H3.frees3;have fl:=H3.lt)
  refine ao (fun wz=>O wz (aa (w.heap.size+1) #[B C 1,B C 0,B C 0] 34*(aa w.heap.size #[B C a.page,B C a.kind,vB a.user] 41*a9 w w.heap.size))∧a4 w wz) ⟨((H3.set 0 (B C 1)).set 1 (B C 0)).set 2 (B C 0),ai⟩ ?_;rintro wz ⟨hz,xz⟩;exact E (aD results41 rfl (bq hz)) rfl ⟨by rw[hy.out];rfl,ap hz.right.right xz⟩
 ·have hx:U l a.page=J l a.page:=by unfold U;rw[hf];rfl
  have hy:=I (show a5 l a=bN l[J l a.page] a by unfold a5;rw[hf]);rw[hx] at hF;have hle:=hl.le;generalize J l a.page=p at*
  clear h h0 h1 hf hl hx ho G2;go_enter func41,ntmps41;go_wp2_with(refine hF.mono ?_;rintro e w3 ⟨rfl,b3⟩)
  have H3:=H2.below b3;have x3:=x2.below b3;have g3:=G3.below b3;clear c0;have c0:=g3.cell 0;have cl:=g3.lt;obtain⟨b,rfl,hb,d0,d1,d2,d3⟩:=dF g3.right hi;obtain⟨a0,a1,a2⟩:=g3.r3.cells3;have al:=g3.r3.lt;clear g3 G3 H2 x2 b3 hF;have HX:=I (show l[p]=l[p] from rfl);generalize hxo:l[p]=x at*
  clear HX;have HX:=I hxo;clear hxo;go_wp2_with fail
  go_still_tail 8,(by kernel_rfl)
  repeat still_step
  try refine wpStill_nil ?_
  have H4:=H3.drew;have x4:=x3.drew;have HA:=I (fun W=>gQ x a.page a.kind a.user W);have hy2:=hy;clear hy;generalize bN x ⟨a.page,a.kind,a.user⟩=r at*
  go_wp2_with(refine(HA.out _).mono ?_;rintro e w5 ⟨rfl,b5⟩;have H5:=H4.below b5;have x5:=x4.below b5;obtain⟨r0,r1,r2⟩:=H5.cells3;obtain⟨f0,f1,f2⟩:=H5.frees3;have fl:=H5.lt)
  refine ao (fun wz=>O wz (aa (w.heap.size+1) #[B C r.fin,B C r.frame,B C r.rights] 34*(aa w.heap.size #[B C a.page,B C a.kind,vB a.user] 41*a9 w w.heap.size))∧a4 w wz) ⟨((H5.set 0 (B C r.fin)).set 1 (B C r.frame)).set 2 (B C r.rights),ai⟩ ?_;rintro wz ⟨hz,xz⟩;exact E (aD results41 rfl (bq hz)) rfl ⟨by rw[hy2.out];rfl,ap hz.right.right xz⟩
theorem Bk.prot_add{l:List Mp}(h:T l){p r:Int}(hi:J l p<l.length)(ho:H l[J l p] p=f)(h0:0≤r)(h7:r≤7):af (S l p) {l[J l p] with rights:=r}=ag l p r:=by
 have e:l.dropWhile (Bk.before p)=l[J l p]::l.drop (J l p+1):=by rw[Bk.drop_pos,List.drop_eq_getElem_cons hi]
 obtain⟨h1,h2⟩:=Bk.ins_del h e ho h0 h7;unfold af;rw[if_pos ⟨pW (Bk.Ok.rights (h.chk _ (List.getElem_mem hi)) h0 h7),h1⟩];exact h2
set_option maxHeartbeats 4000000 in
theorem tS(q:Nat)(l:List Mp)(k r:Int)(R:ae)(w:World)(hl:T l)(hk:cy k)(h:O w (be q l*R)):
  V prog 90 #[.pointer (F (aMk q 0 K)),.int .i64 k,.int .i64 r] w (cN (.tuple #[lI (bk l k r),B C (bl l k r)]) (be q (Z l k r)*R) w):=by
 have H1:=h.new #[B C 0,B C 0,B C 0,B C 0] 39;have x1:=(Ext.refl w).alloc (.cells #[B C 0,B C 0,B C 0,B C 0] 39);unfold bk bl Z;cases hb:Bk.protB k r with
 |false=>
  change V _ _ _ w (cN (.tuple #[lI K,B C 1]) (be q l*R) w);have hr:¬(0≤k∧k<4096∧0≤r∧r≤7):=fun e=>by rw[ad.2 e] at hb;cases hb
  clear hb;by_cases a1:k<0
  ·have e1:decide (k<0)=f:=decide_eq_true a1
   clear h;go_enter func90,ntmps90;go_wp2_with fail
   refine ao (fun wz=>O wz (aa w.heap.size #[B C 0,B C 0,B C 0,B C 0] 39*(be q l*R))∧a4 w wz) ⟨H1,ai⟩ ?_;rintro wz ⟨hz,xz⟩;exact E (ay results90 rfl rfl (aY hz)) rfl ⟨rfl,hz.right,xz⟩
  have e1:decide (k<0)=D:=decide_eq_false a1;by_cases a2:4096≤k
  ·have e2:decide (4096≤k)=f:=decide_eq_true a2
   clear h;go_enter func90,ntmps90;go_wp2_with fail
   refine ao (fun wz=>O wz (aa w.heap.size #[B C 0,B C 0,B C 0,B C 0] 39*(be q l*R))∧a4 w wz) ⟨H1,ai⟩ ?_;rintro wz ⟨hz,xz⟩;exact E (ay results90 rfl rfl (aY hz)) rfl ⟨rfl,hz.right,xz⟩
  have e2:decide (4096≤k)=D:=decide_eq_false a2;by_cases a3:r<0
  ·have e3:decide (r<0)=f:=decide_eq_true a3
   clear h;go_enter func90,ntmps90;go_wp2_with fail
   refine ao (fun wz=>O wz (aa w.heap.size #[B C 0,B C 0,B C 0,B C 0] 39*(be q l*R))∧a4 w wz) ⟨H1,ai⟩ ?_;rintro wz ⟨hz,xz⟩;exact E (ay results90 rfl rfl (aY hz)) rfl ⟨rfl,hz.right,xz⟩
  have e3:decide (r<0)=D:=decide_eq_false a3;have e4:decide (7<r)=f:=decide_eq_true (by omega);clear h;go_enter func90,ntmps90;go_wp2_with fail
  refine ao (fun wz=>O wz (aa w.heap.size #[B C 0,B C 0,B C 0,B C 0] 39*(be q l*R))∧a4 w wz) ⟨H1,ai⟩ ?_;rintro wz ⟨hz,xz⟩;exact E (ay results90 rfl rfl (aY hz)) rfl ⟨rfl,hz.right,xz⟩
 |true=>
  obtain⟨k0,k4,r0,r7⟩:=ad.1 hb;have e1:decide (k<0)=D:=decide_eq_false (by omega);have e2:decide (4096≤k)=D:=decide_eq_false (by omega);have e3:decide (r<0)=D:=decide_eq_false (by omega);have e4:decide (7<r)=D:=decide_eq_false (by omega);have hh:cZ k=f:=by unfold cZ;simp;omega
  rw[if_pos rfl,if_pos rfl,if_pos rfl];have hD:=ww q l k _ _ hl hk H1.p2;unfold bb Y N at hD;rw[hh,if_pos rfl,if_pos rfl,if_pos rfl] at hD;rcases bd hl k with ⟨hf,hdl,hp⟩|⟨hi,ho,hf,_,_,hdl,hp⟩
  ·rw[hf,hdl] at hD
   rw[hf,hp r];change V _ _ _ w (cN (.tuple #[lI K,B C 5]) (be q l*R) w);change V _ _ _ _ (cN (.tuple #[.agg #[B C 0,B C 0,B C 0,B C 0],B C 5]) _ _) at hD;clear h hf hl hp hb hh hdl;go_enter func90,ntmps90;go_wp2_with(refine hD.mono ?_;rintro e w2 ⟨rfl,h2,x2⟩;obtain⟨d0,d1,d2,d3⟩:=h2.right.cells4;obtain⟨f0,f1,f2,f3⟩:=h2.right.frees4;have fl:=h2.right.lt)
   refine ao (fun wz=>O wz (aa w.heap.size #[B C 0,B C 0,B C 0,B C 0] 39*(be q l*R))∧a4 w wz) ⟨(h2.p2.set4 _ _ _ _).alloc (.cells #[B C 0,B C 0,B C 0,B C 0] 39),ai⟩ ?_;rintro wz ⟨hz,xz⟩;exact E (ay results90 rfl rfl (aY hz)) rfl ⟨rfl,hz.right,xz⟩
  ·have hadd:=I (Bk.prot_add hl hi ho r0 r7)
   have hdo:=hl.del k;have hmi:=(hl.chk _ (List.getElem_mem hi)).i64;rw[hf] at hD;rw[hf];change V _ _ _ w (cN (.tuple #[lI (F {l[J l k] with rights:=r}),B C 0]) (be q (ag l k r)*R) w);generalize hxo:l[J l k]=x at*
   clear hxo;rw[←hadd.out];have hA:=I (fun W R' h=>yo q (S l k) {x with rights:=r} R' W hdo hmi h);clear h hf hl hp hb hh hdl hadd ho hdo;generalize a7 (S l k) {x with rights:=r}=cc at*
   generalize af (S l k) {x with rights:=r}=l2 at*
   generalize S l k=l1 at*
   change V _ _ _ _ (cN (.tuple #[.agg #[B C x.page,B C x.size,B C x.frame,B C x.rights],B C 0]) _ _) at hD;go_enter func90,ntmps90;go_wp2_with(first|(go_at_call 89;refine hD.mono ?_;rintro e w2 ⟨rfl,h2,x2⟩)|(fail))
   have h3:=h2.new #[B C x.page,B C x.size,B C x.frame,B C r] 39;have h4:O _ (be q l1*(aa w2.heap.size #[B C x.page,B C x.size,B C x.frame,B C r] 39*(aa w.heap.size #[B C 0,B C 0,B C 0,B C 0] 39*R))):=h3.p2;have x4:=(x1.trans x2).alloc (.cells #[B C x.page,B C x.size,B C x.frame,B C r] 39);go_wp2_with(refine(hA.out _ _ h4).mono ?_;rintro e w5 ⟨rfl,h5,x5⟩;have h6:O w5 (aa w.heap.size #[B C 0,B C 0,B C 0,B C 0] 39*(aa w2.heap.size #[B C x.page,B C x.size,B C x.frame,B C r] 39*(be q l2*R))):=h5.eq (by(simp only[aI,av,bo]));obtain⟨d0,d1,d2,d3⟩:=h6.cells4;obtain⟨f0,f1,f2,f3⟩:=h6.frees4;have fl:=h6.lt;obtain⟨m0,m1,m2,m3⟩:=h6.right.cells4;have ml:=h6.right.lt;have x6:=x4.trans x5)
   refine ao (fun wz=>O wz (aa w.heap.size #[B C x.page,B C x.size,B C x.frame,B C r] 39*(aa w2.heap.size #[B C x.page,B C x.size,B C x.frame,B C r] 39*(be q l2*R)))∧a4 w wz) ⟨h6.set4 _ _ _ _,ai⟩ ?_;rintro wz ⟨hz,xz⟩;exact E (ay results90 rfl rfl (aY hz)) rfl ⟨rfl,hz.right.right,xz⟩
section
variable {s s':Ms} {r:Int} {gone:List Int} {X:Int→Prop}
theorem rZ(hw:∀a b,s'.wd a b=s.wd a b∨s'.wd a b=0)(hh:∀u,s'.has u=s.has u){q:Int}:∀(d:Nat) (t:Int),d≤4→bu s' r q d=F t→bu s r q d=F t:=by
 intro d;induction d with
 |zero=>intro t _ h;exact h
 |succ d ih=>
  intro t hd h;obtain⟨u,hu,hg,hf⟩:=fM.1 h;refine fM.2 ⟨u,ih u (by omega) hu,?_⟩;have g3:=(js.1 hg).2.2.1;have e:az s' u (au q (3 - d:Nat))=az s u (au q (3 - d:Nat)):=by
   rcases hw u.toNat (au q (3 - d:Nat)).toNat with e|e
   ·exact e
   ·have e:az s' u (au q (3 - d:Nat))=0:=e
    unfold cT at g3;rw[e,(eB (by omega)).2] at g3;cases g3
  unfold iw cT at hg;unfold cT at hf;rw[e,hh] at hg;rw[e] at hf;unfold iw cT;exact⟨hg,hf⟩
theorem r9(hu:∀u i,s.has u=f→0≤i→s'.has u=f∧(az s u i=0∨az s' u i=az s u i)){q:Int}(hq:dv q):∀(d:Nat) (t:Int),d≤4→bu s r q d=F t→bu s' r q d=F t:=by
 intro d;induction d with
 |zero=>intro t _ h;exact h
 |succ d ih=>
  intro t hd h;obtain⟨u,hu',hg,hf⟩:=fM.1 h;refine fM.2 ⟨u,ih u (by omega) hu',?_⟩;obtain⟨g1,_,g3,_⟩:=js.1 hg;have hi:=cq hq (show 3 - d≤3 by omega);obtain⟨k1,k2⟩:=hu u (au q (3 - d:Nat)) g1 hi.1;have e:az s' u (au q (3 - d:Nat))=az s u (au q (3 - d:Nat)):=by
   rcases k2 with e|e
   ·unfold cT at g3
    rw[e,(eB (by omega)).2] at g3;cases g3
   ·exact e
  unfold iw cT at hg;unfold cT at hf;unfold iw cT;rw[e,k1];rw[g1] at hg;exact⟨hg,hf⟩
theorem lr(s:Ms)(t i:Nat)(a b:Nat):(s.setW t i 0).wd a b=s.wd a b∨(s.setW t i 0).wd a b=0:=by
 show(if a=t∧b=i then(0:Int) else s.wd a b)=_∨(if a=t∧b=i then(0:Int) else s.wd a b)=0;split
 ·exact .inr rfl
 ·exact .inl rfl
theorem sa{p:Int}{tabs:List Int}:∀(k:Nat) (s:Ms) (a b:Nat),(ej p tabs k s).1.wd a b=s.wd a b∨(ej p tabs k s).1.wd a b=0:=by
 intro k;induction k with
 |zero=>intro s a b;exact lr _ _ _ _ _
 |succ k ih=>
  intro s a b;unfold ej;split
  ·rcases ih (s.setW (tabs.getD (k+1) 0).toNat (au p (3 - (k+1):Nat)).toNat 0) a b with e|e
   ·rw[e]
    exact lr _ _ _ _ _
   ·exact .inr e
  ·exact lr _ _ _ _ _
theorem sb(s:Ms)(r p:Int)(a b:Nat):(dr s r p).wd a b=s.wd a b∨(dr s r p).wd a b=0:=by
 unfold dr;split
 ·exact sa _ _ _ _
 ·exact .inl rfl
theorem tT(hw:Wf s r gone (fun _=>False))(hi:s.Inv){p:Int}(hf:bH s r p=0){q t:Int}{d:Nat}(hq:dv q)(hd:d≤3)(ht:bu s r q d=F t):
  bu (dr s r p) r q d=F t∨(t∈fA s r p∧bF (dr s r p) r q=K):=by
 obtain⟨w1,_,w3,_,w5,w6⟩:=na hw hi hf;have hh:∀u,(dr s r p).has u=s.has u:=fun u=>by unfold Ms.has;rw[w3,w5]
 have htu:=hw.nat hq hd ht;have hu:(dr s r p).tk t.toNat=f:=by rw[w5];exact htu.2.2
 rcases(w1.use t.toNat).1 hu with hT|hG
 ·rw[Int.toNat_of_nonneg htu.1] at hT
  obtain⟨q',d',hq',hd',ht'⟩:=hT;have h1:=rZ (sb s r p) hh d' t (by omega) ht';obtain⟨e,hpre⟩:=hw.inj q' q d' d t hq' hq hd' hd h1 ht;subst e;left;rw[←ht'];exact cH _ r hq hq' d' (by omega) hpre.symm
 ·rw[Int.toNat_of_nonneg htu.1] at hG
  have hng:t ∉ gone:=fun h=>hw.gt t h ⟨q,d,hq,hd,ht⟩;have hr:t∈fA s r p:=by
   rw[List.mem_append,List.mem_reverse] at hG;exact hG.resolve_right hng
  refine .inr ⟨hr,?_⟩;obtain⟨m1,m2⟩:=w6 q hq;by_cases ho:H (bR s r p) q=f
  ·rw[m1,if_pos ho]
  ·rw[m1,if_neg ho]
   cases hm:bF s r q with
   |none=>rfl
   |some m=>
    exfalso;have hway:=m2 (by simpa using ho) (by rw[hm];simp);obtain⟨e,u,he⟩:=hw.ends q hq;obtain⟨e',u',he'⟩:=w1.ends q hq;rw[ch hq.1 hq.2 he',ch hq.1 hq.2 he] at hway;injection hway with _ htabs _ _
    have hl:=congrArg List.length htabs;rw[lH,lH] at hl;obtain rfl:e'=e:=by omega
    have hde:d≤e':=by
     rcases Nat.lt_or_ge e' d with h|h
     ·have:=bO (dJ he.tab he.no) d h
      rw[ht] at this;cases this
     ·exact h
    obtain⟨v,hv⟩:=eU he'.tab hde;have hg:=congrArg (fun l=>l.getD d 0) htabs;rw[jh hv (by omega),jh ht (by omega)] at hg;subst hg;exact w1.gt v (by rw[List.mem_append,List.mem_reverse];exact .inl hr) ⟨q,d,hq,hd,hv⟩
theorem sd{p lw:Int}{sz:Nat}:∀(n:Nat) (t:Int) (s:Ms),s.Inv→s.n≤128→sz+n≤3→(dP s p lw sz n t).n =s.n∧∀a b,s.tk a=f→(dP s p lw sz n t).tk a=f∧((a=t.toNat∧b=(au p (sz+n:Nat)).toNat)∨(dP s p lw sz n t).wd a b=s.wd a b):=by
 intro n;induction n with
 |zero=>
  intro t s _ _ _;refine⟨rfl,fun a b ha=>⟨ha,?_⟩⟩;show _∨(if a=t.toNat∧b=(au p sz).toNat then lw else s.wd a b)=s.wd a b;by_cases h:a=t.toNat∧b=(au p sz).toNat
  ·exact .inl h
  ·right;rw[if_neg h]
 |succ n ih=>
  intro t s hi hn hs;unfold dP;cases hk:s.top with
  |none=>exact⟨rfl,fun a b ha=>⟨ha,.inr rfl⟩⟩
  |some k=>
   dsimp only;obtain⟨k1,k2⟩:=Ms.top_lt hi hk;have hI:((s.take k).setW t.toNat (au p (sz+n+1:Nat)).toNat (iR k (sz+n+1))).Inv :=(hi.take hk).setW _ _ (nt (by omega) (by omega) (by omega) (by omega));obtain⟨i1,i2⟩:=ih k _ hI hn (by omega);refine⟨i1,fun a b ha=> ?_⟩;have hak:a≠k:=by rintro rfl;rw[k2] at ha;cases ha
   have ha':((s.take k).setW t.toNat (au p (sz+n+1:Nat)).toNat (iR k (sz+n+1))).tk a=f:=by
    show bZ s.tk k f a=f;rw[iF _ _ hak];exact ha
   obtain⟨j1,j2⟩:=i2 a b ha';refine⟨j1,?_⟩;rcases j2 with j2|j2
   ·have:=j2.1
    simp at this;exact absurd this hak
   ·rw[j2]
    show _∨(if a=t.toNat∧b=(au p (sz+n+1:Nat)).toNat then iR k (sz+n+1) else(if a=k then 0 else s.wd a b))=s.wd a b;by_cases h:a=t.toNat∧b=(au p (sz+n+1:Nat)).toNat
    ·exact .inl h
    ·right;rw[if_neg h,if_neg hak]
theorem tU(hw:Wf s r gone (fun _=>False))(hi:s.Inv)(hn:s.n≤128)(x:Mp){q t:Int}{d:Nat}(hq:dv q)(hd:d≤3)(ht:bu s r q d=F t):bu (dQ s r x) r q d=F t:=by
 unfold dQ;by_cases hc:dd s r x=0
 ·rw[if_pos hc]
  unfold dd at hc;by_cases hk:bg x=0
  ·have hx:=eN hk
   have hp:=hx.inP;have hwc:=(jZ hw hp).1;rw[if_neg (by omega),if_neg (by rw[hwc];simp)] at hc;by_cases h:(bv s r x.page).e.there =f∨(bv s r x.page).lev <x.size
   ·rw[if_pos h] at hc;cases hc
   rw[not_or] at h;obtain⟨d0,t0,he⟩:=hw.ends _ hp;have hle:=he.le;rw[ch hp.1 hp.2 he] at h⊢;dsimp only at h⊢;obtain⟨z,hz,hz3⟩:∃z:Nat,x.size=z∧z<3:=by
    rcases hx.size with ⟨a,_⟩|⟨a,_⟩|⟨a,_⟩
    ·exact⟨0,a,by omega⟩
    ·exact⟨1,a,by omega⟩
    ·exact⟨2,a,by omega⟩
   rw[jv he.tab];rw[hz] at h⊢;have ht0:(cT s x.page t0 (3 - d0)).there =D:=by simpa using h.1
   have hz0:=(he.not ht0).2;have e1:(z:Int).toNat =z:=by omega
   have e2:(((3 - d0:Nat):Int) - (z:Int)).toNat =3 - d0 - z:=by omega
   rw[e1,e2];have hzd:z≤3 - d0:=by have:=h.2;omega
   have hsum:z+(3 - d0 - z)=3 - d0:=by omega
   obtain⟨c1,c2⟩:=sd (p:=x.page) (lw:=bx (dx x) z) (sz:=z) (3 - d0 - z) t0 s hi hn (by omega);rw[hsum] at c2;have hpi:=cq hp (show 3 - d0≤3 by omega);refine r9 (fun u i hu hi0=> ?_) hq d t (by omega) ht;obtain⟨u0,u1,u2⟩:=G.1 hu;obtain⟨j1,j2⟩:=c2 u.toNat i.toNat u2;refine⟨G.2 ⟨u0,by rw[c1];exact u1,j1⟩,?_⟩;rcases j2 with ⟨a,b⟩|j2
   ·left
    have htu:=(hw.nat hp he.le he.tab).1;obtain rfl:u=t0:=by omega
    obtain rfl:i=au x.page (3 - d0:Nat):=by omega
    exact hz0
   ·exact .inr j2
  ·rw[if_pos hk] at hc;exact absurd hc hk
 ·rw[if_neg hc];exact ht
theorem iX:∀(l:List Int) (s:Ms),s.Inv→(bI s l).Inv ∧(bI s l).n =s.n∧(bI s l).wd =s.wd∧∀a:Nat,(bI s l).tk a=f↔s.tk a=f∧(a:Int) ∉ l:=by
 intro l;induction l with
 |nil=>intro s hi;exact⟨hi,rfl,rfl,fun a=>by simp[bI]⟩
 |cons k l ih=>
  intro s hi;show(bI (s.giveS k) l).Inv ∧_;cases hk:s.has k with
  |true=>
   have e:s.giveS k=s.give k.toNat:=by unfold bs;rw[if_pos hk]
   rw[show bI s (k::l)=bI (s.give k.toNat) l by rw[←e];rfl,e];obtain⟨k0,k1,k2⟩:=G.1 hk;obtain⟨i1,i2,i3,i4⟩:=ih (s.give k.toNat) (hi.give k2);refine⟨i1,i2,i3,fun a=> ?_⟩;rw[i4 a];show bZ s.tk k.toNat D a=f∧_↔_;by_cases h:a=k.toNat
   ·subst h
    rw[ly];have:((k.toNat:Nat):Int)=k:=by omega
    rw[this];simp
   ·rw[iF _ _ h]
    have:(a:Int)≠k:=by omega
    simp[this]
  |false=>
   have e:s.giveS k=s:=by unfold bs;rw[if_neg (by rw[hk];simp)]
   rw[e,show bI s (k::l)=bI s l from(congrArg (fun x=>bI x l) e:bI (s.giveS k) l=bI s l)];obtain⟨i1,i2,i3,i4⟩:=ih s hi;refine⟨i1,i2,i3,fun a=> ?_⟩;rw[i4 a];constructor
   ·rintro⟨a1,a2⟩
    refine⟨a1,fun hm=> ?_⟩;rcases List.mem_cons.1 hm with h|h
    ·have hl:=hi.tkl a a1
     have hle:=hi.le;rw[←h] at hk;rw[Ms.has_nat hi,a1] at hk;cases hk
    ·exact a2 h
   ·rintro⟨a1,a2⟩
    exact⟨a1,fun hm=>a2 (List.mem_cons_of_mem _ hm)⟩
theorem gE(hw:Wf s r gone X)(hi:s.Inv){q:Int}(hq:dv q):∀d,d≤4→bu (bI s gone) r q d=bu s r q d:=by
 obtain⟨_,g2,g3,g4⟩:=iX gone s hi;intro d;induction d with
 |zero=>intro _;rfl
 |succ d ih=>
  intro hd;show(bu (bI s gone) r q d).bind _=(bu s r q d).bind _;rw[ih (by omega)];cases hu:bu s r q d with
  |none=>rfl
  |some u=>
   simp only[Option.bind_some];have hh:(bI s gone).has u=s.has u:=by
    rw[Bool.eq_iff_iff,G,G,g2,g4];constructor
    ·rintro⟨a,b,c,_⟩;exact⟨a,b,c⟩
    ·rintro⟨a,b,c⟩
     refine⟨a,b,c,fun hm=> ?_⟩;rw[Int.toNat_of_nonneg a] at hm;exact hw.gt u hm ⟨q,d,hq,by omega,hu⟩
   unfold iw cT az;rw[hh,g3]
theorem nV(hw:Wf s r gone X)(hi:s.Inv){q t:Int}{d:Nat}(hq:dv q)(he:bi s r q d t):bi (bI s gone) r q d t∧cT (bI s gone) q t (3 - d)=cT s q t (3 - d):=by
 obtain⟨_,g2,g3,g4⟩:=iX gone s hi;have hw':∀i,az (bI s gone) t i=az s t i:=fun i=>by unfold az;rw[g3]
 have hh:(bI s gone).has t=f:=by
  obtain⟨a,b,c⟩:=G.1 he.use;refine G.2 ⟨a,by rw[g2];exact b,(g4 _).2 ⟨c,fun hm=> ?_⟩⟩;rw[Int.toNat_of_nonneg a] at hm;exact hw.gt t hm ⟨q,d,hq,he.le,he.tab⟩
 refine⟨⟨he.le,(gE hw hi hq d (by have:=he.le;omega)).trans he.tab,hh,by rw[hw'];exact he.dec,?_⟩,by unfold cT;rw[hw']⟩;have:=he.no;unfold iw cT at this⊢;rw[hw',hh];rw[he.use] at this;exact this
theorem pC(hw:Wf s r gone X)(hi:s.Inv){q:Int}(hq:dv q):bv (bI s gone) r q=bv s r q:=by
 obtain⟨d,t,he⟩:=hw.ends q hq;obtain⟨h1,h2⟩:=nV hw hi hq he;rw[ch hq.1 hq.2 h1,ch hq.1 hq.2 he,h2];have:cW (bI s gone) r q (d+1)=cW s r q (d+1):=by
  unfold cW;refine List.map_congr_left fun x hx=> ?_;rw[gE hw hi hq x (by have:=List.mem_range.1 hx;have:=he.le;omega)]
 rw[this]
theorem tV(hw:Wf s r gone X)(hi:s.Inv)(t:Int):sR (bI s gone) r t↔sR s r t:=by
 constructor
 ·rintro⟨q,d,hq,hd,h⟩;exact⟨q,d,hq,hd,by rw[←gE hw hi hq d (by omega)];exact h⟩
 ·rintro⟨q,d,hq,hd,h⟩;exact⟨q,d,hq,hd,by rw[gE hw hi hq d (by omega)];exact h⟩
theorem Wf.give(hw:Wf s r gone X)(hi:s.Inv):Wf (bI s gone) r [] X:=by
 obtain⟨_,g2,g3,g4⟩:=iX gone s hi;refine⟨fun p hp=> ?_,fun p q d e t hp hq hd he h1 h2=> ?_,fun p d t hp hd h=> ?_,fun k=> ?_,List.nodup_nil,fun g hg=>(by cases hg),fun g hg=>(by cases hg)⟩
 ·obtain⟨d,t,he⟩:=hw.ends p hp
  exact⟨d,t,(nV hw hi hp he).1⟩
 ·rw[gE hw hi hp d (by omega)] at h1
  rw[gE hw hi hq e (by omega)] at h2;exact hw.inj p q d e t hp hq hd he h1 h2
 ·rw[gE hw hi hp (d+1) (by omega)] at h
  have:=hw.full p d t hp hd h;unfold az at this⊢;rw[g3];exact this
 ·rw[g4 k,hw.use k,tV hw hi]
  constructor
  ·rintro⟨a|a,b⟩
   ·exact .inl a
   ·exact absurd a b
  ·rintro(a|a)
   ·exact⟨.inl a,fun hm=>hw.gt _ hm a⟩
   ·cases a
end
def wV(o:Option Mp)(a:Ac):An:=match o with|none=>⟨1,0,0⟩|some m=>bN m a
def OnTree(s:Ms)(r:Int)(k:Ck):Prop:=∃d:Nat,d≤3∧k.level=((3 - d:Nat):Int)∧bu s r k.a.page d=F k.t
def Lost(s:Ms)(r:Int)(gone:List Int)(k:Ck):Prop:=k.t∈gone∧bF s r k.a.page=K
structure Marked (s s':Ms) (r:Int):Prop where
 n:s'.n=s.n
 tk:∀u,s'.tk u=s.tk u
 fr:s'.frees=s.frees
 tab:∀q,dv q→∀d,d≤4→bu s' r q d=bu s r q d
 map:∀q,dv q→bF s' r q=bF s r q
 lev:∀q,dv q→(bv s' r q).lev =(bv s r q).lev
 used:∀q,dv q→(bv s r q).e.used =f→(bv s' r q).e.used =f
 dirty:∀q,dv q→(bv s r q).e.dirty =f→(bv s' r q).e.dirty =f
theorem Marked.refl(s:Ms)(r:Int):Marked s s r:=⟨rfl,fun _=>rfl,rfl,fun _ _ _ _=>rfl,fun _ _=>rfl,fun _ _=>rfl,fun _ _ h=>h,fun _ _ h=>h⟩
structure Kept (s:Ms) (r:Int) (x:Ln):Prop where
 inP:dv x.m.page
 map:bF s r x.m.page=F x.m
 used:(bv s r x.m.page).e.used =f
 dirty:x.dirty=f→(bv s r x.m.page).e.dirty =f
theorem Kept.mark{s s':Ms}{r:Int}{x:Ln}(h:Kept s r x)(m:Marked s s' r):Kept s' r x:=
 ⟨h.inP,(m.map _ h.inP).trans h.map,m.used _ h.inP h.used,fun d=>m.dirty _ h.inP (h.dirty d)⟩
theorem OnTree.mark{s s':Ms}{r:Int}{k:Ck}(hp:dv k.a.page)(h:OnTree s r k)(m:Marked s s' r):OnTree s' r k:=by
 obtain⟨d,hd,hl,ht⟩:=h;exact⟨d,hd,hl,(m.tab _ hp d (by omega)).trans ht⟩
theorem Lost.mark{s s':Ms}{r:Int}{gone:List Int}{k:Ck}(hp:dv k.a.page)(h:Lost s r gone k)(m:Marked s s' r):Lost s' r gone k:=⟨h.1,(m.map _ hp).trans h.2⟩
theorem eX{a:Ac}(h:aw a=0):dv a.page:=by
 have:=i9 h;unfold cZ at this;simp at this;exact this
section
variable {s:Ms} {r:Int} {gone:List Int} {X:Int→Prop}
theorem qD(hw:Wf s r gone X){p q:Int}{m:Mp}(hp:dv p)(hq:dv q)(hm:bF s r p=F m)(ho:H m q=f):(bv s r q).e =(bv s r p).e ∧(bv s r q).lev =(bv s r p).lev :=by
 obtain⟨d,t,he⟩:=hw.ends p hp;rw[bp hp he] at hm;split at hm
 ·rename_i hl
  injection hm with hm
  obtain⟨h3,_,hov⟩:=he.map hp hl;rw[←hm,hov q] at ho;obtain⟨hs,hse⟩:=he.same hp hq (of_decide_eq_true ho);rw[ch hq.1 hq.2 hs,ch hp.1 hp.2 he,hse];exact⟨rfl,rfl⟩
 ·cases hm
theorem tW(hw:Wf s r gone X){p:Int}{m:Mp}(hp:dv p)(hm:bF s r p=F m):dv m.page∧H m m.page=f∧bF s r m.page=F m:=by
 obtain⟨h1,h2⟩:=hw.self hp hm;have hi:=h2.inP;have ho:H m m.page=f:=ed.2 ⟨by omega,by have:=h2.sp;omega⟩;exact⟨hi,ho,Wf.overMap hw hp hi hm ho hw⟩
theorem mH(s:Ms)(r:Int){k:Ck}(hon:k.on=f):OnTree s r (k.again r)∧(k.again r).a =k.a∧(k.again r).on =f:=by
 unfold Ck.again;rw[if_pos hon];exact⟨⟨0,by omega,rfl,rfl⟩,rfl,hon⟩
theorem se(hw:Wf s r gone (fun _=>False))(hi:s.Inv){p t:Int}{d:Nat}(hp:dv p)(he:bi s r p d t)(hl:(cT s p t (3 - d)).leaf =f)(a:Ac):
  Wf (cQ s p t d (bx (cu (cT s p t (3 - d)) a) (3 - d:Nat))) r gone (fun _=>False)∧(cQ s p t d (bx (cu (cT s p t (3 - d)) a) (3 - d:Nat))).Inv ∧
   Marked s (cQ s p t d (bx (cu (cT s p t (3 - d)) a) (3 - d:Nat))) r∧(bv (cQ s p t d (bx (cu (cT s p t (3 - d)) a) (3 - d:Nat))) r p).e =cu (cT s p t (3 - d)) a:=by
 have hef:=(iG he.dec).1;have hef:ak (cT s p t (3 - d)) ((3 - d:Nat):Int)=0:=hef;obtain⟨hf',hl'⟩:=rG a hef hl;obtain⟨w1,w2,w3⟩:=rF hw hi hp he hf' hl';obtain⟨k1,k2,_⟩:=ld hf';have hv:kv (bx (cu (cT s p t (3 - d)) a) (3 - d:Nat)) (3 - d):=⟨k1,by rw[k2,hl'];simp⟩;refine⟨w1,w2,⟨rfl,fun _=>rfl,rfl,fun q hq e hle=>fV hw hp he.le he.tab he.no hv hq e hle,fun q hq=> ?_,fun q hq=> ?_,fun q hq=> ?_,fun q hq=> ?_⟩,?_⟩
 ·have:=w3 q hq
  split at this
  ·unfold bF
   rw[this.1,this.2];dsimp only;rw[hl',hl,jq a hef hl]
  ·exact eZ this
 ·have:=w3 q hq
  split at this
  ·rw[this.1,this.2]
  ·rw[this]
 ·have:=w3 q hq
  split at this
  ·rw[this.1,this.2]
   intro _;rfl
  ·rw[this];exact id
 ·have:=w3 q hq
  split at this
  ·rw[this.1,this.2]
   dsimp only;intro h;unfold cu;dsimp only;rw[h];rfl
  ·rw[this];exact id
 ·have:=w3 p hp
  rw[if_pos rfl] at this;rw[this.1]
end
section
variable {s:Ms} {r:Int} {gone:List Int} {X:Int→Prop}
theorem Wf.perm{g:List Int}(hw:Wf s r gone X)(h:∀t,t∈g↔t∈gone)(nd:g.Nodup):Wf s r g X:=
 ⟨hw.ends,hw.inj,hw.full,fun k=>by rw[hw.use k,h],nd,fun t ht=>hw.gz t ((h t).1 ht),fun t ht=>hw.gt t ((h t).1 ht)⟩
theorem vp(hw:Wf s r gone (fun _=>False)){p ri:Int}(hf:iS s r p ri=0){q:Int}(hq:dv q):∀e,e≤4→bu (gV s r p ri) r q e=bu s r q e:=by
 have hr:0≤ri∧ri≤7:=by
  unfold iS at hf;split at hf
  ·cases hf
  ·omega
 have hf0:bH s r p=0:=by
  unfold iS at hf;rw[if_neg (by omega)] at hf;exact hf
 have hp:=gp hf0;obtain⟨d,t,he,hl,hwe,hm,h3,ho⟩:=hw.found hf0;have hef:ak (cT s p t (3 - d)) ((3 - d:Nat):Int)=0:=(iG he.dec).1;have hf':ak {cT s p t (3 - d) with rights:=ri} (3 - d:Nat)=0:=od hef hl hr.1 hr.2;have es:gV s r p ri=cQ s p t d (bx {cT s p t (3 - d) with rights:=ri} (3 - d:Nat)):=by
  unfold gV;rw[if_pos hf,hwe];dsimp only;rw[jv he.tab]
 obtain⟨k1,k2,_⟩:=ld hf';have hv:kv (bx {cT s p t (3 - d) with rights:=ri} (3 - d:Nat)) (3 - d):=⟨k1,by rw[k2];dsimp only;rw[hl];simp⟩;rw[es];exact fun e he'=>fV hw hp he.le he.tab he.no hv hq e he'
end
section
variable {s:Ms} {r:Int} {gone:List Int} {X:Int→Prop}
structure vq (s:Ms) (r:Int) (k:Ck) (p:Sp):Prop where
 fin:p.r.fin=f
 off:p.c=k.idle
 an:p.r.an=wV (bF s r k.a.page) k.a
 kept:p.r.an.fin=0→Kept p.s r p.r.ln∧H p.r.ln.m k.a.page=f∧(k.a.kind=1→p.r.ln.dirty=f)
structure wW (s:Ms) (r:Int) (k:Ck) (p:Sp):Prop where
 z:p.r=Rs.zero
 same:p.s=s
 on:p.c.on=f
 a:p.c.a=k.a
 tree:OnTree s r p.c
structure oC (s:Ms) (r:Int) (gone:List Int) (k:Ck) (p:Sp):Prop where
 code:p.code=0
 mark:Marked s p.s r
 wf:Wf p.s r gone (fun _=>False)
 inv:p.s.Inv
 fin:vq s r k p∨wW s r k p
theorem pD{k:Ck}{d:Nat}{s':Ms}{e':En}(hp:dv k.a.page)(he:bi s r k.a.page d k.t)(hlev:k.level=((3 - d:Nat):Int))(hl:(cT s k.a.page k.t (3 - d)).leaf =f)
  (hwf:Wf s' r gone (fun _=>False)) (hinv:s'.Inv) (hm:Marked s s' r) (hway:(bv s' r k.a.page).e =e') (hmp:aC e' ((3 - d:Nat):Int) k.a.page=aC (cT s k.a.page k.t (3 - d)) ((3 - d:Nat):Int) k.a.page)
  (hready:eF e' k.a=f):oC s r gone k (k.leafEnd s' e'):=by
 have hmap:bF s r k.a.page=F (aC e' ((3 - d:Nat):Int) k.a.page):=by
  rw[bp hp he,if_pos hl,hmp]
 have hu:e'.used=f∧(e'.dirty||k.a.kind !=1)=f:=by
  unfold eF at hready;rw[Bool.and_eq_true] at hready;exact hready
 refine⟨rfl,hm,hwf,hinv,.inl ⟨rfl,rfl,?_,fun _=> ?_⟩⟩
 ·rw[hmap,←hlev];rfl
 ·have hmap':bF s' r k.a.page=F (aC e' ((3 - d:Nat):Int) k.a.page):=(hm.map _ hp).trans hmap
  obtain⟨q1,q2,q3⟩:=tW hwf hp hmap';obtain⟨o1,_⟩:=hwf.self hp hmap';have hent:=(qD hwf hp q1 hmap' q2).1;have hln:(k.leafEnd s' e').r.ln =⟨aC e' ((3 - d:Nat):Int) k.a.page,e'.dirty⟩:=by unfold Ck.leafEnd;rw[hlev]
  rw[hln];refine⟨⟨q1,q3,by show(bv s' r _).e.used =f;rw[hent,hway];exact hu.1,fun h=>by show(bv s' r _).e.dirty =f;rw[hent,hway];exact h⟩,o1,fun h1=> ?_⟩;have:=hu.2;rw[h1] at this;simpa using this
theorem sf(hw:Wf s r gone (fun _=>False))(hi:s.Inv){k:Ck}(hk:k.Ok)(hon:k.on=f)(ht:OnTree s r k∨Lost s r gone k):oC s r gone k (aU s r k):=by
 have hp:=eX (hk.acc hon);have hag:=mH s r hon;have hAgain:oC s r gone k ⟨k.again r,s,Rs.zero,0⟩:=⟨rfl,Marked.refl s r,hw,hi,.inr ⟨rfl,rfl,hag.2.2,hag.2.1,hag.1⟩⟩;unfold aU;rw[if_neg (by rw[hon];simp)];rcases ht with ⟨d,hd,hlev,htab⟩|⟨hg,hnone⟩
 ·obtain⟨u1,u2⟩:=hw.at_ hp hd htab
  rw[if_neg (by rw[u1];simp)];have ew:k.word s=az s k.t (au k.a.page (3 - d:Nat)):=by unfold Ck.word;rw[hlev]
  by_cases hmk:k.mark=f∧k.word s≠k.w
  ·rw[if_pos hmk];exact hAgain
  rw[if_neg hmk,ew,hlev,if_neg (by rw[u2];simp)];have eE:aF (az s k.t (au k.a.page (3 - d:Nat))) ((3 - d:Nat):Int)=cT s k.a.page k.t (3 - d):=rfl;rw[eE];by_cases hth:(cT s k.a.page k.t (3 - d)).there =D
  ·rw[if_pos hth]
   have hgo:iw s k.a.page k.t (3 - d)=D:=by unfold iw;rw[hth];simp
   have he:bi s r k.a.page d k.t:=⟨hd,htab,u1,u2,hgo⟩;have hz:=(he.not hth).1;refine⟨rfl,Marked.refl s r,hw,hi,.inl ⟨rfl,rfl,?_,fun h=>(by cases h)⟩⟩;rw[bp hp he,hz];rfl
  rw[if_neg hth];by_cases hlf:(cT s k.a.page k.t (3 - d)).leaf =D
  ·rw[if_pos hlf]
   have hgo:iw s k.a.page k.t (3 - d)=f:=js.2 ⟨u1,u2,by simpa using hth,hlf⟩;have hd3:d<3:=by
    refine Decidable.byContradiction fun hn=> ?_;obtain rfl:d=3:=by omega
    have u2':bC (az s k.t (au k.a.page (0:Nat))) (0:Nat)=0:=u2;rcases fI u2' with h|h
    ·exact hth h
    ·have hlf':(aF (az s k.t (au k.a.page (0:Nat))) (0:Nat)).leaf =D:=hlf
     exact absurd (h.symm.trans hlf') (by simp)
   refine⟨rfl,Marked.refl s r,hw,hi,.inr ⟨rfl,rfl,hon,rfl,d+1,by omega,?_,fM.2 ⟨k.t,htab,hgo,rfl⟩⟩⟩;show((3 - d:Nat):Int) - 1=_;omega
  rw[if_neg hlf];have hl:(cT s k.a.page k.t (3 - d)).leaf =f:=by simpa using hlf
  have hgo:iw s k.a.page k.t (3 - d)=D:=by unfold iw;rw[hl];simp
  have he:bi s r k.a.page d k.t:=⟨hd,htab,u1,u2,hgo⟩;have hef:ak (cT s k.a.page k.t (3 - d)) ((3 - d:Nat):Int)=0:=(iG he.dec).1;have hmap:bF s r k.a.page=F (aC (cT s k.a.page k.t (3 - d)) ((3 - d:Nat):Int) k.a.page):=by rw[bp hp he,if_pos hl]
  by_cases hmay:may (cT s k.a.page k.t (3 - d)).rights k.a=D
  ·rw[if_pos hmay]
   refine⟨rfl,Marked.refl s r,hw,hi,.inl ⟨rfl,rfl,?_,fun h=>(by cases h)⟩⟩;rw[hmap];show _=bN _ k.a;unfold bN;rw[nb hef hl (i9 (hk.acc hon)),hmay];rfl
  rw[if_neg hmay];by_cases hm1:k.mark=f
  ·rw[if_pos hm1]
   obtain⟨m1,m2,m3,m4⟩:=se hw hi hp he hl k.a;exact pD hp he hlev hl m1 m2 m3 m4 (jq k.a hef hl) (rb _ _)
  rw[if_neg hm1];by_cases hrd:eF (cT s k.a.page k.t (3 - d)) k.a=f
  ·rw[if_pos hrd]
   exact pD hp he hlev hl hw hi (Marked.refl s r) (by rw[ch hp.1 hp.2 he]) rfl hrd
  rw[if_neg hrd];exact⟨rfl,Marked.refl s r,hw,hi,.inr ⟨rfl,rfl,hon,rfl,d,hd,rfl,htab⟩⟩
 ·obtain⟨g0,gz⟩:=hw.gz _ hg
  have htk:s.tk k.t.toNat=f:=(hw.use _).2 (.inr (by rw[Int.toNat_of_nonneg g0];exact hg));have hhas:s.has k.t=f:=G.2 ⟨g0,by have:=hi.tkl _ htk;have:=hi.le;omega,htk⟩;rw[if_neg (by rw[hhas];simp)];obtain⟨L,hL,hL3⟩:∃L:Nat,k.level=L∧L≤3:=⟨k.level.toNat,by have:=hk.l0 hon;omega,by have:=hk.l3 hon;omega⟩;have hix:=cq hp hL3;have ew:k.word s=0:=by
   unfold Ck.word;rw[hL];have:=gz (au k.a.page L).toNat (by omega);rwa [Int.toNat_of_nonneg hix.1] at this
  obtain⟨z1,z2⟩:=eB hL3;by_cases hm:k.mark=f
  ·have hne:k.word s≠k.w:=by
    rw[ew];intro h;have:=(hk.leaf hm).1;rw[←h,hL,z2] at this;cases this
   rw[if_pos ⟨hm,hne⟩];exact hAgain
  ·rw[if_neg (fun h=>hm h.1),ew,hL,if_neg (by rw[z1];simp),z2,if_pos (show En.zero.there=D from rfl)]
   refine⟨rfl,Marked.refl s r,hw,hi,.inl ⟨rfl,rfl,?_,fun h=>(by cases h)⟩⟩;rw[hnone];rfl
end
structure tX (σ:Sc) (P:List Mp) (k:Nat) (c:Cr):Prop where
 walk:c.k.on=f→OnTree σ.s 0 c.k∨(σ.wait k=f∧Lost σ.s 0 σ.gone c.k)
 line:∀x∈c.l,Kept σ.s 0 x∨(σ.wait k=f∧dH x.m σ.told=f∧ax P x.m.page=F x.m)
structure Safe (σ:Sc) (P:List Mp):Prop where
 ok:σ.Ok
 wf:Wf σ.s 0 σ.gone (fun _=>False)
 quiet:σ.busy=D→σ.gone=[]∧∀i,σ.wait i=D
 busy:σ.busy=f→∃i,i<σ.cs.length∧σ.wait i=f
 core:∀k c,σ.cs[k]? =F c→tX σ P k c
 prev:T P
namespace Safe
variable {σ:Sc} {P:List Mp}
theorem at_core{σ:Sc}{k:Nat}(hk:k<σ.cs.length):σ.cs[k]? =F (σ.core k):=by
 unfold Sc.core;rw[List.getD_eq_getElem?_getD,List.getElem?_eq_getElem hk];rfl
theorem set_core{cs:List Cr}{k j:Nat}{c x:Cr}(h:(cs.set k c)[j]? =F x):(j=k∧x=c)∨(j≠k∧cs[j]? =F x):=by
 rw[List.getElem?_set] at h;split at h
 ·rename_i hkj
  subst hkj;split at h
  ·injection h with h;exact .inl ⟨rfl,h.symm⟩
  ·cases h
 ·rename_i hkj
  exact .inr ⟨fun e=>hkj e.symm,h⟩
theorem evict(h:Safe σ P){k:Nat}(hk:k<σ.cs.length):Safe (σ.evict k).1 P:=by
 unfold Sc.evict;split
 ·exact h
 ·have hc:=Sc.core_ok h.ok k
  have hi:=h.core k _ (at_core hk);refine⟨h.ok.put k hc.1.evict hc.2,h.wf,h.quiet,fun hb=>by have:=h.busy hb;rwa [Sc.put_len],fun j c hj=> ?_,h.prev⟩;rcases set_core hj with ⟨rfl,rfl⟩|⟨hne,hj⟩
  ·exact⟨hi.walk,fun x hx=>hi.line x (List.mem_of_mem_tail hx)⟩
  ·exact⟨(h.core j c hj).walk,(h.core j c hj).line⟩
theorem begin_tree(s:Ms)(k:Ck)(a:Ac):OnTree s 0 (k.begin 0 a):=⟨0,by omega,rfl,rfl⟩
theorem access(h:Safe σ P){k:Nat}(hk:k<σ.cs.length)(a:Ac):Safe (σ.access k a).1 P:=by
 have hc:=Sc.core_ok h.ok k;have hi:=h.core k _ (at_core hk);refine⟨h.ok.put k hc.1 (uA hc.2),h.wf,h.quiet,fun hb=>by have:=h.busy hb;unfold Sc.access;rwa [Sc.put_len],fun j c hj=> ?_,h.prev⟩;rcases set_core hj with ⟨rfl,rfl⟩|⟨hne,hj⟩
 ·refine⟨fun hon=> ?_,hi.line⟩
  show OnTree σ.s 0 (db _ 0 _ a).c ∨_;unfold db at hon⊢;split;· rename_i hx;rw[if_pos hx] at hon;exact hi.walk hon
  rename_i hx;rw[if_neg hx] at hon;split;· rename_i hy;rw[if_pos hy] at hon;exact hi.walk hon
  rename_i hy;rw[if_neg hy] at hon;cases hh:jy (σ.core j).l a with
  |some r=>rw[hh] at hon;exact hi.walk hon
  |none=>exact .inl (begin_tree _ _ _)
 ·exact⟨(h.core j c hj).walk,(h.core j c hj).line⟩
theorem keep_mem{l:List Ln}{r:Rs}{x:Ln}(h:x∈ge l r):x∈l∨(r.fin=f∧r.an.fin=0∧x=r.ln):=by
 unfold ge at h;split at h
 ·rename_i hr
  unfold Tl.put at h;split at h
  ·rw[List.mem_append] at h
   rcases h with h|h
   ·exact .inl ((List.mem_filter.1 ((Tl.room_sub _).subset h)).1)
   ·simp at h
    exact .inr ⟨hr.1,hr.2,h⟩
  ·exact .inl h
 ·exact .inl h
theorem step_off{s:Ms}{r:Int}{k:Ck}(h:k.on=D):aU s r k=⟨k,s,Rs.zero,9⟩:=by unfold aU;rw[if_pos h]
theorem keep_zero(l:List Ln):ge l Rs.zero=l:=by unfold ge;rw[if_neg (by simp[Rs.zero])]
theorem walk_stepIn(h:Safe σ P){k:Nat}(hk:k<σ.cs.length)(hon:(σ.core k).k.on =f):oC σ.s 0 σ.gone (σ.core k).k (aU σ.s 0 (σ.core k).k):=by
 have hc:=Sc.core_ok h.ok k;exact sf h.wf h.ok.s.inv hc.2 hon (((h.core k _ (at_core hk)).walk hon).imp id (fun x=>x.2))
theorem walk(h:Safe σ P){k:Nat}(hk:k<σ.cs.length):Safe (σ.walk k).1 P:=by
 have hc:=Sc.core_ok h.ok k;have hi:=h.core k _ (at_core hk);cases hon:(σ.core k).k.on with
 |false=>
  unfold Sc.walk;rw[step_off hon,keep_zero];refine⟨⟨h.ok.s,(h.ok.put k hc.1 hc.2).c,(h.ok.put k hc.1 hc.2).few,(h.ok.put k hc.1 hc.2).one,(h.ok.put k hc.1 hc.2).w,h.ok.told⟩,h.wf,h.quiet,fun hb=>by have:=h.busy hb;rwa [show({σ.put k ⟨(σ.core k).l,(σ.core k).k⟩ with s:=σ.s}:Sc).cs.length =σ.cs.length from Sc.put_len _ _ _],fun j c hj=> ?_,h.prev⟩;rcases set_core hj with ⟨rfl,rfl⟩|⟨hne,hj⟩
  ·exact⟨hi.walk,hi.line⟩
  ·exact⟨(h.core j c hj).walk,(h.core j c hj).line⟩
 |true=>
  have hs:=h.walk_stepIn hk hon;have hpu:=h.ok.put k (c:=⟨ge (σ.core k).l (aU σ.s 0 (σ.core k).k).r,(aU σ.s 0 (σ.core k).k).c⟩) (uB hc.1 _) (hc.2.step _ _);refine⟨⟨⟨hs.inv,by rw[show(σ.walk k).1.s.n=σ.s.n from hs.mark.n];exact h.ok.s.small⟩,hpu.c,hpu.few,hpu.one,hpu.w,h.ok.told⟩,hs.wf,h.quiet,fun hb=> ?_,fun j c hj=> ?_,h.prev⟩
  ·have:=h.busy hb
   rwa [show(σ.walk k).1.cs.length=σ.cs.length from Sc.put_len _ _ _]
  ·rcases set_core hj with ⟨rfl,rfl⟩|⟨hne,hj⟩
   ·refine⟨fun hon'=> ?_,fun x hx=> ?_⟩
    ·rcases hs.fin with hf|hf
     ·have:((σ.core j).k.idle).on =f:=by rw[←hf.off];exact hon'
      cases this
     ·left
      show OnTree (aU σ.s 0 (σ.core j).k).s 0 _;rw[hf.same];exact hf.tree
    ·rcases keep_mem hx with hx|⟨h1,h2,h3⟩
     ·rcases hi.line x hx with hl|hl
      ·exact .inl (hl.mark hs.mark)
      ·exact .inr hl
     ·rcases hs.fin with hf|hf
      ·rw[h3];exact .inl (hf.kept h2).1
      ·rw[hf.z] at h1;cases h1
   ·have hj':=h.core j c hj
    refine⟨fun hon'=> ?_,fun x hx=> ?_⟩
    ·have hp:=eX ((h.ok.c c (List.mem_of_getElem? hj)).2.acc hon')
     rcases hj'.walk hon' with hl|hl
     ·exact .inl (hl.mark hp hs.mark)
     ·exact .inr ⟨hl.1,hl.2.mark hp hs.mark⟩
    ·rcases hj'.line x hx with hl|hl
     ·exact .inl (hl.mark hs.mark)
     ·exact .inr hl
theorem overB_false{ws:Nat→Bool}(h:eG ws=D):∃i,i<4∧ws i=f:=by
 unfold eG at h;cases h0:ws 0 with
 |true=>exact⟨0,by omega,h0⟩
 |false=>
  cases h1:ws 1 with
  |true=>exact⟨1,by omega,h1⟩
  |false=>
   cases h2:ws 2 with
   |true=>exact⟨2,by omega,h2⟩
   |false=>
    cases h3:ws 3 with
    |true=>exact⟨3,by omega,h3⟩
    |false=>rw[h0,h1,h2,h3] at h;cases h
theorem ack_off(ws:Nat→Bool)(k:Nat):cP ws k k=D:=by unfold cP;rw[if_pos rfl]
theorem ack_ne(ws:Nat→Bool){k j:Nat}(h:j≠k):cP ws k j=ws j:=by unfold cP;rw[if_neg h]
theorem heed_core(h:Safe σ P){k:Nat}(hk:k<σ.cs.length):∀j c,(σ.heed k).cs[j]? =F c→tX (σ.heed k) P j c:=by
 intro j c hj;have hi:=h.core k _ (at_core hk);rcases set_core hj with ⟨rfl,rfl⟩|⟨hne,hj⟩
 ·refine⟨fun hon=> .inl ?_,fun x hx=> .inl ?_⟩
  ·have hon':(σ.core j).k.on =f:=by
    unfold Ck.again at hon;split at hon
    ·assumption
    ·exact hon
   exact(mH σ.s 0 hon').1
  ·rcases hi.line x ((List.mem_filter.1 hx).1) with hl|hl
   ·exact hl
   ·have:=Tl.drop_apart _ _ x hx
    rw[hl.2.1] at this;cases this
 ·have hj':=h.core j c hj
  refine⟨fun hon=>(hj'.walk hon).imp id fun hl=>⟨(ack_ne _ hne).trans hl.1,hl.2⟩,fun x hx=>(hj'.line x hx).imp id fun hl=>⟨(ack_ne _ hne).trans hl.1,hl.2⟩⟩
theorem heed_ok(h:Safe σ P)(k:Nat):(σ.heed k).Ok :=by
 have hc:=Sc.core_ok h.ok k;have hp:=h.ok.put k (c:=⟨Tl.drop (σ.core k).l σ.told,(σ.core k).k.again 0⟩) (hc.1.drop _) (hc.2.again 0);refine⟨h.ok.s,hp.c,hp.few,hp.one,fun i hi=> ?_,h.ok.told⟩;have:=h.ok.w i (by have e:(σ.heed k).cs.length =σ.cs.length:=List.length_set ..;omega);show cP σ.wait k i=D;unfold cP;split
 ·rfl
 ·exact this
theorem ack(h:Safe σ P){k:Nat}(hk:k<σ.cs.length):Safe (σ.ack k).1 P:=by
 unfold Sc.ack;split
 ·exact h
 rename_i hwk;have hwk:σ.wait k=f:=by simpa using hwk
 have hb:σ.busy=f:=by
  cases hb:σ.busy with
  |true=>rfl
  |false=>rw[(h.quiet hb).2 k] at hwk;cases hwk
 have hlen:(σ.heed k).cs.length =σ.cs.length:=List.length_set ..;have hok:=h.heed_ok k;have hcore:=h.heed_core hk;split
 ·rename_i ho
  have hz:∀i,(σ.heed k).wait i=D:=by
   intro i;obtain⟨a0,a1,a2,a3⟩:=nZ ho;by_cases hi:i<4
   ·match i,hi with
    |0,_=>exact a0
    |1,_=>exact a1
    |2,_=>exact a2
    |3,_=>exact a3
   ·exact hok.w i (by have:=hok.few;omega)
  have hwf:Wf (bI σ.s σ.gone) 0 [] (fun _=>False):=h.wf.give h.ok.s.inv;obtain⟨g1,g2,_⟩:=iX σ.gone σ.s h.ok.s.inv;refine⟨⟨⟨g1,by show(bI σ.s σ.gone).n ≤128;rw[g2];exact h.ok.s.small⟩,hok.c,hok.few,hok.one,hok.w,hok.told⟩,hwf,fun _=>⟨rfl,hz⟩,fun hx=>(by cases hx),fun j c hj=> ?_,h.prev⟩;have hj':=hcore j c hj;refine⟨fun hon=> ?_,fun x hx=> ?_⟩
  ·rcases hj'.walk hon with hl|hl
   ·obtain⟨d,hd,hlv,ht⟩:=hl
    have hp:=eX ((hok.c c (List.mem_of_getElem? hj)).2.acc hon);exact .inl ⟨d,hd,hlv,(gE h.wf h.ok.s.inv hp d (by omega)).trans ht⟩
   ·rw[hz j] at hl;cases hl.1
  ·rcases hj'.line x hx with hl|hl
   ·have e:=pC h.wf h.ok.s.inv hl.inP
    exact .inl ⟨hl.inP,(eZ e).trans hl.map,by show(bv (bI σ.s σ.gone) 0 _).e.used =f;rw[e];exact hl.used,fun hd=>by show(bv (bI σ.s σ.gone) 0 _).e.dirty =f;rw[e];exact hl.dirty hd⟩
   ·rw[hz j] at hl;cases hl.1
 ·rename_i ho
  refine⟨hok,h.wf,fun hx=>(by rw[show(σ.heed k).busy =σ.busy from rfl,hb] at hx;cases hx),fun _=> ?_,hcore,h.prev⟩;obtain⟨i,_,hi⟩:=overB_false (by simpa using ho);refine⟨i,?_,hi⟩;refine Decidable.byContradiction fun hn=> ?_;have hn:¬i< (σ.heed k).cs.length :=hn;rw[hok.w i (by omega)] at hi;cases hi
theorem lk(h:Safe σ P):Lk σ.s 0 (bE σ.s 0):=(j9 h.wf).2.1
theorem findM_ok{s:Ms}{g:List Int}{X:Int→Prop}(hw:Wf s 0 g X){p:Int}(hf:bH s 0 p=0):bF s 0 p=F (bR s 0 p)∧MapOk (bR s 0 p)∧dv p:=by
 obtain⟨d,t,he,hl,hwe,hm,h3,ho⟩:=hw.found hf;exact⟨hm,(hw.self (gp hf) hm).2,gp hf⟩
theorem mapOk_ok{m:Mp}(h:MapOk m):m.ok:=by
 have:=h.p0;have:=h.p1;have:=h.sp;have:=h.f0;have:=h.f1;have:=h.r0;have:=h.r7;refine⟨?_,?_,?_,?_⟩<;>unfold cy
 ·omega
 ·rcases h.size with ⟨a,_⟩|⟨a,_⟩|⟨a,_⟩<;>omega
 ·omega
 ·omega
theorem stale{P:List Mp}{s:Ms}{x:Ln}{m:Mp}(hL:Lk s 0 P)(hk:Kept s 0 x)(ho:H m x.m.page=f):dH x.m m=f∧ax P x.m.page=F x.m:=
 ⟨by unfold dH;rw[ho];simp,(hL.same _ hk.inP).trans hk.map⟩
def prevOf(σ:Sc)(P:List Mp)(x:Stp):List Mp:=if σ.busy=D∧(x.kind=2∨x.kind=3)∧(σ.change x).2.code=0 then bE σ.s 0 else P
theorem post_wait{n i:Nat}(h:i<n):fj n i=f:=by unfold fj;simp[h]
theorem change(h:Safe σ P)(x:Stp)(hx:1≤x.kind∧x.kind≤3):Safe (σ.change x).1 (prevOf σ P x):=by
 cases hb:σ.busy with
 |true=>
  have e1:(σ.change x).1=σ:=by unfold Sc.change;rw[if_pos hb]
  have e2:prevOf σ P x=P:=by unfold prevOf;rw[if_neg (by rw[hb];simp)]
  rw[e1,e2];exact h
 |false=>
  obtain⟨hg,hwt⟩:=h.quiet hb;have hwf:=h.wf;rw[hg] at hwf;have hL:=h.lk;have hLok:T (bE σ.s 0):=hL.ok;have hfew:=h.ok.few;have hone:=h.ok.one;by_cases h1:x.kind=1
  ·have e1:(σ.change x).1={σ with s:=dQ σ.s 0 x.m}:=by unfold Sc.change;rw[if_neg (by rw[hb];simp),if_pos h1]
   have e2:prevOf σ P x=P:=by unfold prevOf;rw[if_neg (by omega)]
   rw[e1,e2];obtain⟨w1,w2,w3,w4⟩:=oP hwf h.ok.s.inv h.ok.s.small x.m;refine⟨⟨⟨w2,by show(dQ σ.s 0 x.m).n ≤128;rw[w3];exact h.ok.s.small⟩,h.ok.c,h.ok.few,h.ok.one,h.ok.w,h.ok.told⟩,by show Wf (dQ σ.s 0 x.m) 0 σ.gone _;rw[hg];exact w1,fun _=>⟨hg,hwt⟩,fun hbb=>(by rw[show({σ with s:=dQ σ.s 0 x.m}:Sc).busy =σ.busy from rfl,hb] at hbb;cases hbb),fun j c hj=> ?_,h.prev⟩;have hj':=h.core j c hj;refine⟨fun hon=> ?_,fun y hy=> ?_⟩
   ·have hp:=eX ((h.ok.c c (List.mem_of_getElem? hj)).2.acc hon)
    rcases hj'.walk hon with ⟨d,hd,hlv,ht⟩|hl
    ·exact .inl ⟨d,hd,hlv,tU hwf h.ok.s.inv h.ok.s.small x.m hp hd ht⟩
    ·rw[hwt j] at hl;cases hl.1
   ·rcases hj'.line y hy with hl|hl
    ·have e:=(w4 _ hl.inP).2.1 (by rw[hl.map];simp)
     exact .inl ⟨hl.inP,(eZ e).trans hl.map,by show(bv (dQ σ.s 0 x.m) 0 _).e.used =f;rw[e];exact hl.used,fun hd=>by show(bv (dQ σ.s 0 x.m) 0 _).e.dirty =f;rw[e];exact hl.dirty hd⟩
    ·rw[hwt j] at hl;cases hl.1
  by_cases h2:x.kind=2
  ·by_cases hf:bH σ.s 0 x.m.page=0
   ·have e0:σ.change x=(σ.post (dr σ.s 0 x.m.page) (bR σ.s 0 x.m.page) (fA σ.s 0 x.m.page),.no 0):=by unfold Sc.change;rw[if_neg (by rw[hb];simp),if_neg h1,if_pos h2,if_pos hf]
    have e2:prevOf σ P x=bE σ.s 0:=by unfold prevOf;rw[if_pos ⟨hb,.inl h2,by rw[e0];rfl⟩]
    rw[e0,e2];obtain⟨w1,w2,w3,w4,w5,w6⟩:=na hwf h.ok.s.inv hf;have hgn:(fA σ.s 0 x.m.page).Nodup :=by
     have:=w1.nd;rw[List.append_nil] at this;exact(List.pairwise_reverse.1 this).imp fun h=>h.symm
    have hw':Wf (dr σ.s 0 x.m.page) 0 (fA σ.s 0 x.m.page) (fun _=>False):=w1.perm (fun t=>by simp) hgn;obtain⟨f1,f2,f3⟩:=findM_ok hwf hf;refine⟨⟨⟨w2,by show(dr σ.s 0 x.m.page).n ≤128;rw[w3];exact h.ok.s.small⟩,h.ok.c,hfew,hone,fun i hi=> ?_,mapOk_ok f2⟩,hw',fun hbb=>(by cases hbb),fun _=>⟨0,hone,post_wait hone⟩,fun j c hj=> ?_,hLok⟩
    ·show fj σ.cs.length i=D
     have hi:σ.cs.length≤i:=hi;unfold fj;simp;omega
    ·have hj':=h.core j c hj
     have hjl:j<σ.cs.length:=(Q.1 hj).1;refine⟨fun hon=> ?_,fun y hy=> ?_⟩
     ·have hp:=eX ((h.ok.c c (List.mem_of_getElem? hj)).2.acc hon)
      rcases hj'.walk hon with ⟨d,hd,hlv,ht⟩|hl
      ·rcases tT hwf h.ok.s.inv hf hp hd ht with ht'|ht'
       ·exact .inl ⟨d,hd,hlv,ht'⟩
       ·exact .inr ⟨post_wait hjl,ht'.1,ht'.2⟩
      ·rw[hwt j] at hl;cases hl.1
     ·rcases hj'.line y hy with hl|hl
      ·by_cases ho:H (bR σ.s 0 x.m.page) y.m.page=f
       ·obtain⟨s1,s2⟩:=stale hL hl ho
        exact .inr ⟨post_wait hjl,s1,s2⟩
       ·have e:=(w6 _ hl.inP).2 (by simpa using ho) (by rw[hl.map];simp)
        exact .inl ⟨hl.inP,(eZ e).trans hl.map,by show(bv (dr σ.s 0 x.m.page) 0 _).e.used =f;rw[e];exact hl.used,fun hd=>by show(bv (dr σ.s 0 x.m.page) 0 _).e.dirty =f;rw[e];exact hl.dirty hd⟩
      ·rw[hwt j] at hl;cases hl.1
   ·have e0:σ.change x=(σ,.no (bH σ.s 0 x.m.page)):=by unfold Sc.change;rw[if_neg (by rw[hb];simp),if_neg h1,if_pos h2,if_neg hf]
    have e2:prevOf σ P x=P:=by unfold prevOf;rw[if_neg (by rw[e0];exact fun hh=>hf hh.2.2)]
    rw[e0,e2];exact h
  ·have h3:x.kind=3:=by omega
   by_cases hf:iS σ.s 0 x.m.page x.m.rights=0
   ·have e0:σ.change x=(σ.post (gV σ.s 0 x.m.page x.m.rights) (li σ.s 0 x.m.page x.m.rights) [],.no 0):=by unfold Sc.change;rw[if_neg (by rw[hb];simp),if_neg h1,if_neg h2,if_pos hf]
    have e2:prevOf σ P x=bE σ.s 0:=by unfold prevOf;rw[if_pos ⟨hb,.inr h3,by rw[e0];rfl⟩]
    rw[e0,e2];obtain⟨w1,w2,w3,w4,w5,w6⟩:=rH hwf h.ok.s.inv hf;have hf0:bH σ.s 0 x.m.page=0:=by
     unfold iS at hf;split at hf
     ·cases hf
     ·exact hf
    have hr:0≤x.m.rights∧x.m.rights≤7:=by
     unfold iS at hf;split at hf
     ·cases hf
     ·omega
    obtain⟨f1,f2,f3⟩:=findM_ok hwf hf0;have em:li σ.s 0 x.m.page x.m.rights={bR σ.s 0 x.m.page with rights:=x.m.rights}:=by unfold li;rw[if_pos hf]
    refine⟨⟨⟨w2,by show(gV σ.s 0 x.m.page x.m.rights).n ≤128;rw[w3];exact h.ok.s.small⟩,h.ok.c,hfew,hone,fun i hi=> ?_,?_⟩,w1,fun hbb=>(by cases hbb),fun _=>⟨0,hone,post_wait hone⟩,fun j c hj=> ?_,hLok⟩
    ·show fj σ.cs.length i=D
     have hi:σ.cs.length≤i:=hi;unfold fj;simp;omega
    ·show(li σ.s 0 x.m.page x.m.rights).ok
     rw[em];have:=mapOk_ok f2;exact⟨this.1,this.2.1,this.2.2.1,by unfold cy;dsimp only;omega⟩
    ·have hj':=h.core j c hj
     have hjl:j<σ.cs.length:=(Q.1 hj).1;refine⟨fun hon=> ?_,fun y hy=> ?_⟩
     ·have hp:=eX ((h.ok.c c (List.mem_of_getElem? hj)).2.acc hon)
      rcases hj'.walk hon with ⟨d,hd,hlv,ht⟩|hl
      ·exact .inl ⟨d,hd,hlv,(vp hwf hf hp d (by omega)).trans ht⟩
      ·rw[hwt j] at hl;cases hl.1
     ·rcases hj'.line y hy with hl|hl
      ·by_cases ho:H (bR σ.s 0 x.m.page) y.m.page=f
       ·obtain⟨s1,s2⟩:=stale (m:=li σ.s 0 x.m.page x.m.rights) hL hl (by rw[em];exact ho)
        exact .inr ⟨post_wait hjl,s1,s2⟩
       ·have e:=(w6 _ hl.inP).2 (by simpa using ho)
        exact .inl ⟨hl.inP,(eZ e).trans hl.map,by show(bv (gV σ.s 0 x.m.page x.m.rights) 0 _).e.used =f;rw[e];exact hl.used,fun hd=>by show(bv (gV σ.s 0 x.m.page x.m.rights) 0 _).e.dirty =f;rw[e];exact hl.dirty hd⟩
      ·rw[hwt j] at hl;cases hl.1
   ·have e0:σ.change x=(σ,.no (iS σ.s 0 x.m.page x.m.rights)):=by unfold Sc.change;rw[if_neg (by rw[hb];simp),if_neg h1,if_neg h2,if_neg hf]
    have e2:prevOf σ P x=P:=by unfold prevOf;rw[if_neg (by rw[e0];exact fun hh=>hf hh.2.2)]
    rw[e0,e2];exact h
theorem prev_not{x:Stp}(hx:¬(1≤x.kind∧x.kind≤3)):prevOf σ P x=P:=by unfold prevOf;rw[if_neg (by omega)]
theorem act(h:Safe σ P)(x:Stp):Safe (σ.act x).1 (prevOf σ P x):=by
 unfold Sc.act;split
 ·rename_i hx;exact h.change x hx
 rename_i hx;rw[prev_not hx];split;· exact h
 split;· exact h
 rename_i hc;have hk:x.core.toNat<σ.cs.length:=by omega
 split;· exact h.access hk x.a
 split;· exact h.walk hk
 split;· exact h.ack hk
 exact h.evict hk
end Safe
theorem Bk.find_iff{L:List Mp}(h:T L){q:Int}{m:Mp}:ax L q=F m↔m∈L∧H m q=f:=by
 constructor
 ·exact bf
 ·rintro⟨hm,ho⟩
  obtain⟨k,hk,rfl⟩:=List.getElem_of_mem hm;exact(Bk.over_at h hk ho).2
section
variable {s:Ms} {r:Int} {gone:List Int} {X:Int→Prop} {L:List Mp}
theorem wX(hw:Wf s r gone (fun _=>False))(hi:s.Inv)(hn:s.n≤128)(hL:Lk s r L){x:Mp}(hc:dd s r x=0):Lk (dQ s r x) r (af L x)∧a7 L x=0:=by
 have hac:a7 L x=0:=by
  rcases uz hw hL x with h|h
  ·rw[hc] at h;cases h.1
  ·rw[←h];exact hc
 refine⟨?_,hac⟩;unfold a7 at hac;by_cases hk:bg x=0
 ·rw[if_neg (by simpa using hk)] at hac
  have hx:=eN hk;have hb:Bk.bad L x=D:=by
   cases hb:Bk.bad L x with
   |false=>rfl
   |true=>rw[hb,if_pos rfl] at hac;cases hac
  have hadd:af L x=Bk.ins L x:=by unfold af;rw[if_pos ⟨hk,hb⟩]
  have hok:T (Bk.ins L x):=hL.ok.ins hx hb;rw[hadd];obtain⟨_,_,_,w4⟩:=oP hw hi hn x;refine⟨hok,fun q hq=> ?_⟩;rw[(w4 q hq).1,←hL.same q hq];refine Option.ext fun m=> ?_;rw[Bk.find_iff hok,Bk.mem_ins];by_cases ho:H x q=f
  ·rw[if_pos ⟨hc,ho⟩]
   constructor
   ·rintro⟨rfl|hm,h2⟩
    ·rfl
    ·have:=rD (hL.ok.chk m hm) hx h2 ho
     rw[Bk.bad_false hb m hm] at this;cases this
   ·intro h
    injection h with h
    subst h;exact⟨.inl rfl,ho⟩
  ·rw[if_neg (fun h=>ho h.2),Bk.find_iff hL.ok]
   constructor
   ·rintro⟨rfl|hm,h2⟩
    ·exact absurd h2 ho
    ·exact⟨hm,h2⟩
   ·rintro⟨hm,h2⟩
    exact⟨.inr hm,h2⟩
 ·rw[if_pos hk] at hac
  exact absurd hac hk
theorem pE(hw:Wf s r gone (fun _=>False))(hL:Lk s r L){p:Int}(hf:bH s r p=0):dv p∧cZ p=f∧ax L p=F (bR s r p)∧bR s r p∈L∧H (bR s r p) p=f:=by
 have hp:=gp hf;have hB:cZ p=f:=by unfold cZ;rw[decide_eq_true hp.1,decide_eq_true hp.2];rfl
 obtain⟨d,t,he,hl,hwe,hm,h3,ho⟩:=hw.found hf;have:=(hL.same p hp).trans hm;exact⟨hp,hB,this,bf this⟩
theorem wY(hw:Wf s r gone (fun _=>False))(hi:s.Inv)(hL:Lk s r L){p:Int}(hf:bH s r p=0):Lk (dr s r p) r (N L p):=by
 obtain⟨hp,hB,h1,h2,h3⟩:=pE hw hL hf;have hd:N L p=S L p:=by unfold N;rw[if_pos hB]
 have hok:T (S L p):=hL.ok.del p;rw[hd];obtain⟨_,_,_,_,_,w6⟩:=na hw hi hf;generalize bR s r p=M at*
 refine⟨hok,fun q hq=> ?_⟩;rw[(w6 q hq).1,←hL.same q hq];refine Option.ext fun m=> ?_;have one:∀m,m∈L→H m p=f→m=M:=fun m hm ho=>by
  have:=(Bk.find_iff hL.ok).2 ⟨hm,ho⟩;rw[h1] at this;injection this with this
  exact this.symm
 rw[Bk.find_iff hok];unfold S;rw[List.mem_filter];by_cases ho:H M q=f
 ·rw[if_pos ho]
  constructor
  ·rintro⟨⟨hm,hn⟩,hq'⟩
   have e1:=(Bk.find_iff hL.ok).2 ⟨hm,hq'⟩;have e2:=(Bk.find_iff hL.ok).2 ⟨h2,ho⟩;rw[e1] at e2;injection e2 with e2
   subst e2;rw[h3] at hn;cases hn
  ·intro h;cases h
 ·rw[if_neg ho,Bk.find_iff hL.ok]
  constructor
  ·rintro⟨⟨hm,_⟩,hq'⟩;exact⟨hm,hq'⟩
  ·rintro⟨hm,hq'⟩
   refine⟨⟨hm,?_⟩,hq'⟩;cases hov:H m p with
   |false=>rfl
   |true=>
    rw[one m hm hov] at hq';exact absurd hq' ho
theorem yN(hw:Wf s r gone (fun _=>False))(hi:s.Inv)(hL:Lk s r L){p ri:Int}(hf:iS s r p ri=0):Lk (gV s r p ri) r (Z L p ri):=by
 have hr:0≤ri∧ri≤7:=by
  unfold iS at hf;split at hf
  ·cases hf
  ·omega
 have hf0:bH s r p=0:=by
  unfold iS at hf;rw[if_neg (by omega)] at hf;exact hf
 obtain⟨hp,hB,h1,h2,h3⟩:=pE hw hL hf0;have hd:Z L p ri=ag L p ri:=by unfold Z;rw[if_pos (ad.2 ⟨hp.1,hp.2,hr.1,hr.2⟩)]
 have hok:T (ag L p ri):=hL.ok.prot p hr.1 hr.2;rw[hd];obtain⟨_,_,_,_,_,w6⟩:=rH hw hi hf;generalize bR s r p=M at*
 refine⟨hok,fun q hq=> ?_⟩;refine Option.ext fun m=> ?_;have one:∀m,m∈L→H m p=f→m=M:=fun m hm ho=>by
  have:=(Bk.find_iff hL.ok).2 ⟨hm,ho⟩;rw[h1] at this;injection this with this
  exact this.symm
 have oneq:H M q=f→∀m,m∈L→H m q=f→m=M:=fun hq' m hm ho=>by
  have e1:=(Bk.find_iff hL.ok).2 ⟨hm,ho⟩;have e2:=(Bk.find_iff hL.ok).2 ⟨h2,hq'⟩;rw[e1] at e2;injection e2
 rw[Bk.find_iff hok];unfold ag;rw[List.mem_map];by_cases ho:H M q=f
 ·rw[((w6 q hq).1 ho).2.1]
  constructor
  ·rintro⟨⟨y,hy,rfl⟩,hq'⟩
   have e:y=M:=by
    by_cases hyp:H y p=f
    ·exact one y hy hyp
    ·rw[if_neg hyp] at hq'
     exact oneq ho y hy hq'
   subst e;rw[if_pos h3]
  ·intro h
   injection h with h
   subst h;exact⟨⟨M,h2,by rw[if_pos h3]⟩,ho⟩
 ·have e:=(w6 q hq).2 (by simpa using ho)
  rw[eZ e,←hL.same q hq,Bk.find_iff hL.ok];constructor
  ·rintro⟨⟨y,hy,rfl⟩,hq'⟩
   by_cases hyp:H y p=f
   ·rw[if_pos hyp,one y hy hyp] at hq'
    exact absurd hq' ho
   ·rw[if_neg hyp] at hq'⊢
    exact⟨hy,hq'⟩
  ·rintro⟨hm,hq'⟩
   have hn:¬H m p=f:=fun hov=>by
    rw[one m hm hov] at hq';exact ho hq'
   exact⟨⟨m,hm,by rw[if_neg hn]⟩,hq'⟩
end
section
variable {s:Ms} {gone:List Int} {X:Int→Prop}
end
theorem mI{n:Nat}(h:1≤n):(a6 n).takeS ={n:=n,tk:=bZ (fun _=>D) 0 f,wd:=fun a _=>if a=0 then 0 else 0,next:=1,back:=[]}:=by
 have ht:(a6 n).top =F 0:=by
  show(if 0<n then F 0 else K)=F 0;rw[if_pos (by omega)]
 unfold Ms.takeS;rw[ht];rfl
theorem mJ{n:Nat}(h:1≤n):Wf (a6 n).takeS 0 [] (fun _=>False):=by
 rw[mI h];generalize hs:({n:=n,tk:=bZ (fun _=>D) 0 f,wd:=fun a _=>if a=0 then 0 else 0,next:=1,back:=[]}:Ms)=s;have hz:∀t i,az s t i=0:=fun t i=>by
  subst hs;show(if t.toNat=0 then(0:Int) else 0)=0;split<;>rfl
 have hn:s.n=n:=by subst hs;rfl
 have htk:∀k:Nat,s.tk k=f↔k=0:=fun k=>by
  subst hs;show bZ (fun _=>D) 0 f k=f↔k=0;unfold bZ;split<;>simp_all
 have hhas:s.has 0=f:=G.2 ⟨by omega,by omega,(htk _).2 rfl⟩;have hno:∀p d,d≤3→bu s 0 p (d+1)=K:=by
  intro p d hd;cases hh:bu s 0 p d with
  |none=>exact bO hh _ (by omega)
  |some u=>exact dJ hh (fW (by omega) (hz _ _))
 have h0:∀p d t,d≤3→bu s 0 p d=F t→d=0∧t=0:=by
  intro p d t hd ht;cases d with
  |zero=>injection ht with ht;exact⟨rfl,ht.symm⟩
  |succ d=>rw[hno p d (by omega)] at ht;cases ht
 refine⟨fun p hp=>⟨0,0,by omega,rfl,hhas,?_,fW (by omega) (hz _ _)⟩,fun p q d e t hp hq hd he h1 h2=> ?_,fun p d t hp hd ht=> ?_,fun k=> ?_,List.nodup_nil,fun g hg=>(by cases hg),fun g hg=>(by cases hg)⟩
 ·rw[hz];exact(eB (by omega)).1
 ·obtain⟨rfl,_⟩:=h0 p d t hd h1
  obtain⟨rfl,_⟩:=h0 q e t he h2;exact⟨rfl,vT hp hq⟩
 ·rw[hno p d (by omega)] at ht;cases ht
 ·rw[htk]
  constructor
  ·rintro rfl
   exact .inl ⟨0,0,⟨by omega,by omega⟩,by omega,rfl⟩
  ·rintro(⟨p,d,_,hd,ht⟩|h)
   ·have:=(h0 p d _ hd ht).2
    omega
   ·cases h
theorem tY{n:Nat}(h:1≤n):Lk (a6 n).takeS 0 []:=by
 have hw:=mJ h;refine⟨Bk.Ok.nil,fun q hq=> ?_⟩;have hz:∀t i,az (a6 n).takeS t i=0:=fun t i=>by
  rw[mI h];show(if t.toNat=0 then(0:Int) else 0)=0;split<;>rfl
 obtain⟨d,t,he⟩:=hw.ends q hq;rw[bp hq he,jf (by omega) (hz _ _)];rfl
section
variable {s:Ms} {L:List Mp}
theorem drop_head{x:Mp}(h:T (x::L)):N (x::L) x.page=L∧Y (x::L) x.page=0:=by
 have hx:=h.chk x (List.mem_cons_self ..);have hp:=hx.inP;have hB:cZ x.page=f:=by unfold cZ;rw[decide_eq_true hp.1,decide_eq_true hp.2];rfl
 have ho:H x x.page=f:=ed.2 ⟨by omega,by have:=hx.sp;omega⟩;unfold N Y;rw[if_pos hB,if_pos hB];constructor
 ·unfold S
  rw[List.filter_cons,ho];simp only[Bool.not_true,Bool.false_eq_true,if_false];refine List.filter_eq_self.2 fun y hy=> ?_;have h1:=(List.pairwise_cons.1 h.up).1 y hy;have:=hx.sp;have:H y x.page=D:=dD.2 (.inl (by omega));rw[this];rfl
 ·unfold ax
  rw[List.find?_cons_of_pos (by exact ho)];rfl
end
section
variable {s s':Ms} {mk p:Int}
end
section
variable {s:Ms} {gone:List Int} {L:List Mp}
end
section
variable {s:Ms} {L:List Mp} {n:Nat}
theorem sg(x:Mp):bg x=0∨bg x=1∨bg x=2∨bg x=3:=by unfold bg;split<;>(try split)<;>(try split)<;>omega
end
end Go.Proofs.YtmfheghbgihdmaaGreat
