/- Contracts of the document's book: Drop, Answer. -/
import Derived.Test.YtmfheghbgihdmaaGreatBook
import Derived.StillTailTactics
import Derived.Test.YtmfheghbgihdmaaGreatMpRow
import Derived.Test.YtmfheghbgihdmaaGreatFrames3
import Derived.Test.YtmfheghbgihdmaaGreatTblM3
import Derived.Test.YtmfheghbgihdmaaGreatRefEnt5
import Derived.Test.YtmfheghbgihdmaaGreatWalkM2
import Derived.Test.YtmfheghbgihdmaaGreatRefPage
namespace Go.Proofs.YtmfheghbgihdmaaGreat
open Go.Addr renaming mk→aMk
open Bool renaming true→f,false→B
open Go.Value renaming int→C
open Go.IntKind renaming i64→D
open Option renaming some→E,none→I
open Go renaming bodyPost_ret→F,Calls→Q
open Go.Proofs.YtmfheghbgihdmaaGreat.Ms renaming has_iff→G,new→U,giveS→Z
open Go.Proofs.YtmfheghbgihdmaaGreat renaming over→H,Has→K,Ms→O,Mp→S,Wf→T,Ext→V,Ends→Y
open List renaming getElem?_eq_some_iff→J
open Go.Lib renaming hid→N
open Tryz
open Go.RowKit
set_option maxRecDepth 100000
def Bk.skip(l:List S)(k i:Nat):List S:=(l.take i).eraseIdx k
theorem Bk.skip_one{l:List S}{k i:Nat}(hi:i<l.length)(hk:i≠k):Bk.skip l k (i+1)=Bk.skip l k i++[l[i]]:=by
 unfold Bk.skip;rw[List.take_succ_eq_append_getElem hi];rcases Nat.lt_or_gt_of_ne hk with h|h
 ·rw[List.eraseIdx_of_length_le (by simp;omega),List.eraseIdx_of_length_le (by simp;omega)]
 ·rw[List.eraseIdx_append_of_lt_length (by simp;omega)]
theorem Bk.skip_it{l:List S}{i:Nat}(hi:i<l.length):Bk.skip l i (i+1)=Bk.skip l i i:=by
 unfold Bk.skip;have e0:(l.take i).eraseIdx i=l.take i:=List.eraseIdx_of_length_le (by simp;omega);have e1:i - (l.take i).length =0:=by simp;omega
 rw[List.take_succ_eq_append_getElem hi,List.eraseIdx_append_of_length_le (by simp;omega),e0,e1];simp
theorem Bk.skip_end(l:List S)(k:Nat):Bk.skip l k l.length=l.take k++l.drop (k+1):=by
 unfold Bk.skip;rw[List.take_length,List.eraseIdx_eq_take_drop_succ]
set_option maxHeartbeats 4000000 in
theorem uL(q:Nat)(l:List S)(k:Int)(R:ab)(w:World)(hl:Bk.Ok l)(hk:cL k)(h:K w (bg q l*R)):
  Q prog 89 #[.pointer (E (aMk q 0 I)),.int .i64 k] w (cI (.tuple #[kI (Bk.dropR l k),C D (Bk.dropC l k)]) (bg q (Bk.dropL l k)*R) w):=by
 have H1:=h.new #[C D 0,C D 0,C D 0,C D 0] 39;have x1:=(Ext.refl w).alloc (.cells #[C D 0,C D 0,C D 0,C D 0] 39);unfold Bk.dropR Bk.dropC Bk.dropL;cases hb:cP k with
 |false=>
  have hr:k<0∨4096≤k:=by
   unfold cP at hb;rcases Int.lt_or_le k 0 with h0|h0
   ·exact .inl h0
   ·rw[decide_eq_true h0] at hb
    simp at hb;exact .inr hb
  obtain⟨d0,d1,d2,d3⟩:=H1.cells4;obtain⟨f0,f1,f2,f3⟩:=H1.frees4;have fl:=H1.lt;clear hb;rcases hr with h0|h0
  ·have hd:decide (k<0)=f:=decide_eq_true h0
   go_enter func89,ntmps89;go_wp2_with fail
   refine ak (fun wz=>K wz (aa w.heap.size #[C D 0,C D 0,C D 0,C D 0] 39*(bg q l*R))∧V w wz) ⟨H1,ah⟩ ?_;rintro wz ⟨hz,xz⟩;exact F (av results89 rfl rfl (aV hz)) rfl ⟨rfl,hz.right,xz⟩
  ·have hd:decide (k<0)=B:=decide_eq_false (by omega)
   have hd2:decide (4096≤k)=f:=decide_eq_true h0;go_enter func89,ntmps89;go_wp2_with fail
   refine ak (fun wz=>K wz (aa w.heap.size #[C D 0,C D 0,C D 0,C D 0] 39*(bg q l*R))∧V w wz) ⟨H1,ah⟩ ?_;rintro wz ⟨hz,xz⟩;exact F (av results89 rfl rfl (aV hz)) rfl ⟨rfl,hz.right,xz⟩
 |true=>
  have hr:0≤k∧k<4096:=by
   unfold cP at hb;simpa using hb
  obtain⟨k0,k4⟩:=hr;have hd:decide (k<0)=B:=decide_eq_false (by omega);have hd2:decide (4096≤k)=B:=decide_eq_false (by omega);have hF:=wg q l k _ _ hl hk H1.p2;rcases Bk.place hl k with ⟨hf,hdl,_⟩|⟨hi,ho,hf,h0,_,hdl,_⟩
  ·have hx:Bk.idx l k= -1:=by unfold Bk.idx;rw[hf];rfl
   rw[if_pos rfl,if_pos rfl,if_pos rfl,hf,hdl];rw[hx] at hF;clear h hf hl hdl hb hx;go_enter func89,ntmps89;go_wp2_with(refine hF.mono ?_;rintro e w2 ⟨rfl,b2⟩;have H3:=H1.below b2;have x3:=x1.below b2;obtain⟨d0,d1,d2,d3⟩:=H3.cells4;obtain⟨f0,f1,f2,f3⟩:=H3.frees4;have fl:=H3.lt)
   refine ak (fun wz=>K wz (aa w.heap.size #[C D 0,C D 0,C D 0,C D 0] 39*(bg q l*R))∧V w wz) ⟨H3.set4 _ _ _ _,ah⟩ ?_;rintro wz ⟨hz,xz⟩;exact F (av results89 rfl rfl (aV hz)) rfl ⟨rfl,hz.right,xz⟩
  ·have hx:Bk.idx l k=Bk.pos l k:=by unfold Bk.idx;rw[hf];rfl
   rw[if_pos rfl,if_pos rfl,if_pos rfl,hf,hdl];rw[hx] at hF;change Q _ _ _ w (cI (.tuple #[kI (E l[Bk.pos l k]),C D 0]) _ w);rw[←Bk.skip_end];have hle:=hl.le;generalize Bk.pos l k=p at*
   clear h hf hl ho hb hdl hx h0;go_enter func89,ntmps89;go_wp2_with(refine hF.mono ?_;rintro e w2 ⟨rfl,b2⟩)
   have h2:=H1.below b2;have x2:=x1.below b2;clear H1 x1 hF b2;have h3:K w2 (bO (.slice I ([]:List S).length 0) []*(aa w.heap.size #[C D 0,C D 0,C D 0,C D 0] 39*(bg q l*R))):=Has.rowNil h2;have h4:K w2 (bg q l*(bO (.slice I ([]:List S).length 0) []*(aa w.heap.size #[C D 0,C D 0,C D 0,C D 0] 39*R))):=h3.eq (by(simp only[aG,ar,bj]));clear h2 h3;go_loopw [7,8] (fun s7 s8 wr=>∃(i:Nat) (A':Option Addr) (c':Nat),i≤l.length∧s8=C D i∧s7= .slice A' (Bk.skip l p i).length c'∧
     K wr (bg q l*(bO (.slice A' (Bk.skip l p i).length c') (Bk.skip l p i)*(aa w.heap.size #[C D 0,C D 0,C D 0,C D 0] 39*R)))∧V w wr) (fun _ s8 _=>l.length - (intOf s8).toNat)
   case atStart=>exact⟨0,I,0,Nat.zero_le _,rfl,rfl,h4,x2⟩
   case round=>
    clear h4 x2;obtain⟨i,A',c',hi2,rfl,rfl,hr,hx⟩:=hrel;have hll:(Bk.skip l p i).length ≤i:=by unfold Bk.skip;have:=List.length_eraseIdx_le (l.take i) p;simp at this;omega
    obtain⟨A,c,ho⟩:=gu hr;clear hr;have e0:=ho.cell 0;have el:=ho.lt;by_cases hlt:i<l.length
    ·obtain⟨b,rfl,hb,d0,d1,d2,d3⟩:=dS ho.right hlt
     by_cases hip:i=p
     ·subst hip
      have HE:=N (Bk.skip_it hlt);generalize l[i]=x at*
      generalize Bk.skip l i i=out at*
      have hne:((i:Int) !=i)=B:=by simp
      go_wp2_with fail
      go_roundw
      case rel=>exact⟨i+1,A',c',by omega,by go_num,by rw[HE.out],by rw[HE.out];exact cD ho,hx⟩
      case measure=>simp[intOf];omega
     ·have HE:=N (Bk.skip_one (k:=p) hlt hip)
      generalize l[i]=x at*
      generalize Bk.skip l p i=out at*
      have hne:((i:Int) !=p)=f:=by simp;omega
      have hr2:K wr (bZ 39 4 (.slice A' out.length c') out.length (aY out)*(aa q #[.slice (E (aMk b 0 I)) l.length c] 91*(bO (.slice (E (aMk b 0 I)) l.length c) l*(aa w.heap.size #[C D 0,C D 0,C D 0,C D 0] 39*R)))):=ho.eq (by unfold bO;(simp only[aG,ar,bj]));go_wp2_with(at_builtin;refine aW rfl _ _ 44 rfl underlying44 it _ _ _ rfl (hr2.alloc (.cells #[C D x.page,C D x.size,C D x.frame,C D x.rights] 39)) (aMk wr.heap.size 0 I) 1 1 x.cells rfl rfl (dx wr x.cells 39) (jo x) ?_ ?_ ?_)
      rotate_left;rotate_left
      ·intro v3 w3 h3 x3
       obtain⟨A3,c3,rfl,g3⟩:=gI h3;clear h3;go_wp2_with fail
       go_roundw
       case rel=>exact⟨i+1,A3,c3,by omega,by go_num,by rw[HE.out],by rw[HE.out];exact(cD (A:=E (aMk b 0 I)) (c:=c) (g3.eq (by(simp only[aG,ar,bj])))),(hx.alloc _).trans x3⟩
       case measure=>simp[intOf];omega
      ·unfold maxLen;omega
      ·omega
    ·have hil:i=l.length:=by omega
     subst hil;obtain⟨b,rfl,hb,d0,d1,d2,d3⟩:=dS ho.right hi;generalize hxo:l[p]=x at*
     generalize hou:Bk.skip l p l.length=out at*
     have HX:=N hxo;have HO:=N hou;clear hxo hou;have hr2:K wr (aa q #[.slice (E (aMk b 0 I)) l.length c] 91*(aa w.heap.size #[C D 0,C D 0,C D 0,C D 0] 39*(bO (.slice A' out.length c') out*(R*bO (.slice (E (aMk b 0 I)) l.length c) l)))):=ho.eq (by(simp only[aG,ar,bj]));clear ho;have ef:=hr2.free 0;have hne:=hr2.ne;have hne':=hne.symm;have hm5:K (wr.setCell (aMk q 0 I) (.slice A' out.length c')) (aa q #[.slice A' out.length c'] 91*_):=hr2.set 0 (.slice A' out.length c');obtain⟨r0,r1,r2,r3⟩:=hr2.right.cells4;obtain⟨f0,f1,f2,f3⟩:=hr2.right.frees4;have rl:=hr2.right.lt;go_wp2_with fail
     refine ak (fun wz=>K wz (aa w.heap.size #[C D x.page,C D x.size,C D x.frame,C D x.rights] 39*(aa q #[.slice A' out.length c'] 91*(bO (.slice A' out.length c') out*(R*bO (.slice (E (aMk b 0 I)) l.length c) l))))∧V w wz) ⟨(hm5.p2.set4 _ _ _ _).alloc _,ah⟩ ?_;rintro wz ⟨hz,xz⟩;exact F (av results89 rfl rfl (aV hz)) rfl (by have e1:=HX.out;have e2:=HO.out;subst e1;subst e2;exact⟨rfl,(cD hz.right).a2.left,xz⟩)
theorem Bk.prot_add{l:List S}(h:Bk.Ok l){p r:Int}(hi:Bk.pos l p<l.length)(ho:H l[Bk.pos l p] p=f)(h0:0≤r)(h7:r≤7):Bk.add (Bk.del l p) {l[Bk.pos l p] with rights:=r}=Bk.prot l p r:=by
 have e:l.dropWhile (Bk.before p)=l[Bk.pos l p]::l.drop (Bk.pos l p+1):=by rw[Bk.drop_pos,List.drop_eq_getElem_cons hi]
 obtain⟨h1,h2⟩:=Bk.ins_del h e ho h0 h7;unfold Bk.add;rw[if_pos ⟨oP (Bk.Ok.rights (h.chk _ (List.getElem_mem hi)) h0 h7),h1⟩];exact h2
set_option maxHeartbeats 4000000 in
theorem sm(q:Nat)(l:List S)(k r:Int)(R:ab)(w:World)(hl:Bk.Ok l)(hk:cL k)(h:K w (bg q l*R)):
  Q prog 90 #[.pointer (E (aMk q 0 I)),.int .i64 k,.int .i64 r] w (cI (.tuple #[kI (Bk.protR l k r),C D (Bk.protC l k r)]) (bg q (Bk.protL l k r)*R) w):=by
 have H1:=h.new #[C D 0,C D 0,C D 0,C D 0] 39;have x1:=(Ext.refl w).alloc (.cells #[C D 0,C D 0,C D 0,C D 0] 39);unfold Bk.protR Bk.protC Bk.protL;cases hb:Bk.protB k r with
 |false=>
  change Q _ _ _ w (cI (.tuple #[kI I,C D 1]) (bg q l*R) w);have hr:¬(0≤k∧k<4096∧0≤r∧r≤7):=fun e=>by rw[Bk.protB_iff.2 e] at hb;cases hb
  clear hb;by_cases a1:k<0
  ·have e1:decide (k<0)=f:=decide_eq_true a1
   clear h;go_enter func90,ntmps90;go_wp2_with fail
   refine ak (fun wz=>K wz (aa w.heap.size #[C D 0,C D 0,C D 0,C D 0] 39*(bg q l*R))∧V w wz) ⟨H1,ah⟩ ?_;rintro wz ⟨hz,xz⟩;exact F (av results90 rfl rfl (aV hz)) rfl ⟨rfl,hz.right,xz⟩
  have e1:decide (k<0)=B:=decide_eq_false a1;by_cases a2:4096≤k
  ·have e2:decide (4096≤k)=f:=decide_eq_true a2
   clear h;go_enter func90,ntmps90;go_wp2_with fail
   refine ak (fun wz=>K wz (aa w.heap.size #[C D 0,C D 0,C D 0,C D 0] 39*(bg q l*R))∧V w wz) ⟨H1,ah⟩ ?_;rintro wz ⟨hz,xz⟩;exact F (av results90 rfl rfl (aV hz)) rfl ⟨rfl,hz.right,xz⟩
  have e2:decide (4096≤k)=B:=decide_eq_false a2;by_cases a3:r<0
  ·have e3:decide (r<0)=f:=decide_eq_true a3
   clear h;go_enter func90,ntmps90;go_wp2_with fail
   refine ak (fun wz=>K wz (aa w.heap.size #[C D 0,C D 0,C D 0,C D 0] 39*(bg q l*R))∧V w wz) ⟨H1,ah⟩ ?_;rintro wz ⟨hz,xz⟩;exact F (av results90 rfl rfl (aV hz)) rfl ⟨rfl,hz.right,xz⟩
  have e3:decide (r<0)=B:=decide_eq_false a3;have e4:decide (7<r)=f:=decide_eq_true (by omega);clear h;go_enter func90,ntmps90;go_wp2_with fail
  refine ak (fun wz=>K wz (aa w.heap.size #[C D 0,C D 0,C D 0,C D 0] 39*(bg q l*R))∧V w wz) ⟨H1,ah⟩ ?_;rintro wz ⟨hz,xz⟩;exact F (av results90 rfl rfl (aV hz)) rfl ⟨rfl,hz.right,xz⟩
 |true=>
  obtain⟨k0,k4,r0,r7⟩:=Bk.protB_iff.1 hb;have e1:decide (k<0)=B:=decide_eq_false (by omega);have e2:decide (4096≤k)=B:=decide_eq_false (by omega);have e3:decide (r<0)=B:=decide_eq_false (by omega);have e4:decide (7<r)=B:=decide_eq_false (by omega);have hh:cP k=f:=by unfold cP;simp;omega
  rw[if_pos rfl,if_pos rfl,if_pos rfl];have hD:=uL q l k _ _ hl hk H1.p2;unfold Bk.dropR Bk.dropC Bk.dropL at hD;rw[hh,if_pos rfl,if_pos rfl,if_pos rfl] at hD;rcases Bk.place hl k with ⟨hf,hdl,hp⟩|⟨hi,ho,hf,_,_,hdl,hp⟩
  ·rw[hf,hdl] at hD
   rw[hf,hp r];change Q _ _ _ w (cI (.tuple #[kI I,C D 5]) (bg q l*R) w);change Q _ _ _ _ (cI (.tuple #[.agg #[C D 0,C D 0,C D 0,C D 0],C D 5]) _ _) at hD;clear h hf hl hp hb hh hdl;go_enter func90,ntmps90;go_wp2_with(refine hD.mono ?_;rintro e w2 ⟨rfl,h2,x2⟩;obtain⟨d0,d1,d2,d3⟩:=h2.right.cells4;obtain⟨f0,f1,f2,f3⟩:=h2.right.frees4;have fl:=h2.right.lt)
   refine ak (fun wz=>K wz (aa w.heap.size #[C D 0,C D 0,C D 0,C D 0] 39*(bg q l*R))∧V w wz) ⟨(h2.p2.set4 _ _ _ _).alloc (.cells #[C D 0,C D 0,C D 0,C D 0] 39),ah⟩ ?_;rintro wz ⟨hz,xz⟩;exact F (av results90 rfl rfl (aV hz)) rfl ⟨rfl,hz.right,xz⟩
  ·have hadd:=N (Bk.prot_add hl hi ho r0 r7)
   have hdo:=hl.del k;have hmi:=(hl.chk _ (List.getElem_mem hi)).i64;rw[hf] at hD;rw[hf];change Q _ _ _ w (cI (.tuple #[kI (E {l[Bk.pos l k] with rights:=r}),C D 0]) (bg q (Bk.prot l k r)*R) w);generalize hxo:l[Bk.pos l k]=x at*
   clear hxo;rw[←hadd.out];have hA:=N (fun W R' h=>wi q (Bk.del l k) {x with rights:=r} R' W hdo hmi h);clear h hf hl hp hb hh hdl hadd ho hdo;generalize Bk.addC (Bk.del l k) {x with rights:=r}=cc at*
   generalize Bk.add (Bk.del l k) {x with rights:=r}=l2 at*
   generalize Bk.del l k=l1 at*
   change Q _ _ _ _ (cI (.tuple #[.agg #[C D x.page,C D x.size,C D x.frame,C D x.rights],C D 0]) _ _) at hD;go_enter func90,ntmps90;go_wp2_with(first|(go_at_call 89;refine hD.mono ?_;rintro e w2 ⟨rfl,h2,x2⟩)|(fail))
   have h3:=h2.new #[C D x.page,C D x.size,C D x.frame,C D r] 39;have h4:K _ (bg q l1*(aa w2.heap.size #[C D x.page,C D x.size,C D x.frame,C D r] 39*(aa w.heap.size #[C D 0,C D 0,C D 0,C D 0] 39*R))):=h3.p2;have x4:=(x1.trans x2).alloc (.cells #[C D x.page,C D x.size,C D x.frame,C D r] 39);go_wp2_with(refine(hA.out _ _ h4).mono ?_;rintro e w5 ⟨rfl,h5,x5⟩;have h6:K w5 (aa w.heap.size #[C D 0,C D 0,C D 0,C D 0] 39*(aa w2.heap.size #[C D x.page,C D x.size,C D x.frame,C D r] 39*(bg q l2*R))):=h5.eq (by(simp only[aG,ar,bj]));obtain⟨d0,d1,d2,d3⟩:=h6.cells4;obtain⟨f0,f1,f2,f3⟩:=h6.frees4;have fl:=h6.lt;obtain⟨m0,m1,m2,m3⟩:=h6.right.cells4;have ml:=h6.right.lt;have x6:=x4.trans x5)
   refine ak (fun wz=>K wz (aa w.heap.size #[C D x.page,C D x.size,C D x.frame,C D r] 39*(aa w2.heap.size #[C D x.page,C D x.size,C D x.frame,C D r] 39*(bg q l2*R)))∧V w wz) ⟨h6.set4 _ _ _ _,ah⟩ ?_;rintro wz ⟨hz,xz⟩;exact F (av results90 rfl rfl (aV hz)) rfl ⟨rfl,hz.right.right,xz⟩
section
variable {s s':O} {r:Int} {gone:List Int} {X:Int→Prop}
theorem qK(hw:∀a b,s'.wd a b=s.wd a b∨s'.wd a b=0)(hh:∀u,s'.has u=s.has u){q:Int}:∀(d:Nat) (t:Int),d≤4→bo s' r q d=E t→bo s r q d=E t:=by
 intro d;induction d with
 |zero=>intro t _ h;exact h
 |succ d ih=>
  intro t hd h;obtain⟨u,hu,hg,hf⟩:=fx.1 h;refine fx.2 ⟨u,ih u (by omega) hu,?_⟩;have g3:=(jb.1 hg).2.2.1;have e:ay s' u (am q (3 - d:Nat))=ay s u (am q (3 - d:Nat)):=by
   rcases hw u.toNat (am q (3 - d:Nat)).toNat with e|e
   ·exact e
   ·have e:ay s' u (am q (3 - d:Nat))=0:=e
    unfold cF at g3;rw[e,(dV (by omega)).2] at g3;cases g3
  unfold ia cF at hg;unfold cF at hf;rw[e,hh] at hg;rw[e] at hf;unfold ia cF;exact⟨hg,hf⟩
theorem qL(hu:∀u i,s.has u=f→0≤i→s'.has u=f∧(ay s u i=0∨ay s' u i=ay s u i)){q:Int}(hq:dh q):∀(d:Nat) (t:Int),d≤4→bo s r q d=E t→bo s' r q d=E t:=by
 intro d;induction d with
 |zero=>intro t _ h;exact h
 |succ d ih=>
  intro t hd h;obtain⟨u,hu',hg,hf⟩:=fx.1 h;refine fx.2 ⟨u,ih u (by omega) hu',?_⟩;obtain⟨g1,_,g3,_⟩:=jb.1 hg;have hi:=ce hq (show 3 - d≤3 by omega);obtain⟨k1,k2⟩:=hu u (am q (3 - d:Nat)) g1 hi.1;have e:ay s' u (am q (3 - d:Nat))=ay s u (am q (3 - d:Nat)):=by
   rcases k2 with e|e
   ·unfold cF at g3
    rw[e,(dV (by omega)).2] at g3;cases g3
   ·exact e
  unfold ia cF at hg;unfold cF at hf;unfold ia cF;rw[e,k1];rw[g1] at hg;exact⟨hg,hf⟩
theorem kC(s:O)(t i:Nat)(a b:Nat):(s.setW t i 0).wd a b=s.wd a b∨(s.setW t i 0).wd a b=0:=by
 show(if a=t∧b=i then(0:Int) else s.wd a b)=_∨(if a=t∧b=i then(0:Int) else s.wd a b)=0;split
 ·exact .inr rfl
 ·exact .inl rfl
theorem qM{p:Int}{tabs:List Int}:∀(k:Nat) (s:O) (a b:Nat),(dO p tabs k s).1.wd a b=s.wd a b∨(dO p tabs k s).1.wd a b=0:=by
 intro k;induction k with
 |zero=>intro s a b;exact kC _ _ _ _ _
 |succ k ih=>
  intro s a b;unfold dO;split
  ·rcases ih (s.setW (tabs.getD (k+1) 0).toNat (am p (3 - (k+1):Nat)).toNat 0) a b with e|e
   ·rw[e]
    exact kC _ _ _ _ _
   ·exact .inr e
  ·exact kC _ _ _ _ _
theorem qN(s:O)(r p:Int)(a b:Nat):(de s r p).wd a b=s.wd a b∨(de s r p).wd a b=0:=by
 unfold de;split
 ·exact qM _ _ _ _
 ·exact .inl rfl
theorem sn(hw:T s r gone (fun _=>False))(hi:s.Inv){p:Int}(hf:bw s r p=0){q t:Int}{d:Nat}(hq:dh q)(hd:d≤3)(ht:bo s r q d=E t):
  bo (de s r p) r q d=E t∨(t∈fi s r p∧bv (de s r p) r q=I):=by
 obtain⟨w1,_,w3,_,w5,w6⟩:=ma hw hi hf;have hh:∀u,(de s r p).has u=s.has u:=fun u=>by unfold Ms.has;rw[w3,w5]
 have htu:=hw.nat hq hd ht;have hu:(de s r p).tk t.toNat=f:=by rw[w5];exact htu.2.2
 rcases(w1.use t.toNat).1 hu with hT|hG
 ·rw[Int.toNat_of_nonneg htu.1] at hT
  obtain⟨q',d',hq',hd',ht'⟩:=hT;have h1:=qK (qN s r p) hh d' t (by omega) ht';obtain⟨e,hpre⟩:=hw.inj q' q d' d t hq' hq hd' hd h1 ht;subst e;left;rw[←ht'];exact ct _ r hq hq' d' (by omega) hpre.symm
 ·rw[Int.toNat_of_nonneg htu.1] at hG
  have hng:t ∉ gone:=fun h=>hw.gt t h ⟨q,d,hq,hd,ht⟩;have hr:t∈fi s r p:=by
   rw[List.mem_append,List.mem_reverse] at hG;exact hG.resolve_right hng
  refine .inr ⟨hr,?_⟩;obtain⟨m1,m2⟩:=w6 q hq;by_cases ho:H (bK s r p) q=f
  ·rw[m1,if_pos ho]
  ·rw[m1,if_neg ho]
   cases hm:bv s r q with
   |none=>rfl
   |some m=>
    exfalso;have hway:=m2 (by simpa using ho) (by rw[hm];simp);obtain⟨e,u,he⟩:=hw.ends q hq;obtain⟨e',u',he'⟩:=w1.ends q hq;rw[bW hq.1 hq.2 he',bW hq.1 hq.2 he] at hway;injection hway with _ htabs _ _
    have hl:=congrArg List.length htabs;rw[kH,kH] at hl;obtain rfl:e'=e:=by omega
    have hde:d≤e':=by
     rcases Nat.lt_or_ge e' d with h|h
     ·have:=bH (dy he.tab he.no) d h
      rw[ht] at this;cases this
     ·exact h
    obtain⟨v,hv⟩:=eB he'.tab hde;have hg:=congrArg (fun l=>l.getD d 0) htabs;rw[iQ hv (by omega),iQ ht (by omega)] at hg;subst hg;exact w1.gt v (by rw[List.mem_append,List.mem_reverse];exact .inl hr) ⟨q,d,hq,hd,hv⟩
theorem qO{p lw:Int}{sz:Nat}:∀(n:Nat) (t:Int) (s:O),s.Inv→s.n≤128→sz+n≤3→(dD s p lw sz n t).n =s.n∧∀a b,s.tk a=f→(dD s p lw sz n t).tk a=f∧((a=t.toNat∧b=(am p (sz+n:Nat)).toNat)∨(dD s p lw sz n t).wd a b=s.wd a b):=by
 intro n;induction n with
 |zero=>
  intro t s _ _ _;refine⟨rfl,fun a b ha=>⟨ha,?_⟩⟩;show _∨(if a=t.toNat∧b=(am p sz).toNat then lw else s.wd a b)=s.wd a b;by_cases h:a=t.toNat∧b=(am p sz).toNat
  ·exact .inl h
  ·right;rw[if_neg h]
 |succ n ih=>
  intro t s hi hn hs;unfold dD;cases hk:s.top with
  |none=>exact⟨rfl,fun a b ha=>⟨ha,.inr rfl⟩⟩
  |some k=>
   dsimp only;obtain⟨k1,k2⟩:=Ms.top_lt hi hk;have hI:((s.take k).setW t.toNat (am p (sz+n+1:Nat)).toNat (iA k (sz+n+1))).Inv :=(hi.take hk).setW _ _ (mw (by omega) (by omega) (by omega) (by omega));obtain⟨i1,i2⟩:=ih k _ hI hn (by omega);refine⟨i1,fun a b ha=> ?_⟩;have hak:a≠k:=by rintro rfl;rw[k2] at ha;cases ha
   have ha':((s.take k).setW t.toNat (am p (sz+n+1:Nat)).toNat (iA k (sz+n+1))).tk a=f:=by
    show bU s.tk k f a=f;rw[im _ _ hak];exact ha
   obtain⟨j1,j2⟩:=i2 a b ha';refine⟨j1,?_⟩;rcases j2 with j2|j2
   ·have:=j2.1
    simp at this;exact absurd this hak
   ·rw[j2]
    show _∨(if a=t.toNat∧b=(am p (sz+n+1:Nat)).toNat then iA k (sz+n+1) else(if a=k then 0 else s.wd a b))=s.wd a b;by_cases h:a=t.toNat∧b=(am p (sz+n+1:Nat)).toNat
    ·exact .inl h
    ·right;rw[if_neg h,if_neg hak]
theorem so(hw:T s r gone (fun _=>False))(hi:s.Inv)(hn:s.n≤128)(x:S){q t:Int}{d:Nat}(hq:dh q)(hd:d≤3)(ht:bo s r q d=E t):bo (dJ s r x) r q d=E t:=by
 unfold dJ;by_cases hc:cT s r x=0
 ·rw[if_pos hc]
  unfold cT at hc;by_cases hk:ba x=0
  ·have hx:=ep hk
   have hp:=hx.inP;have hwc:=(jD hw hp).1;rw[if_neg (by omega),if_neg (by rw[hwc];simp)] at hc;by_cases h:(bp s r x.page).e.there =f∨(bp s r x.page).lev <x.size
   ·rw[if_pos h] at hc;cases hc
   rw[not_or] at h;obtain⟨d0,t0,he⟩:=hw.ends _ hp;have hle:=he.le;rw[bW hp.1 hp.2 he] at h⊢;dsimp only at h⊢;obtain⟨z,hz,hz3⟩:∃z:Nat,x.size=z∧z<3:=by
    rcases hx.size with ⟨a,_⟩|⟨a,_⟩|⟨a,_⟩
    ·exact⟨0,a,by omega⟩
    ·exact⟨1,a,by omega⟩
    ·exact⟨2,a,by omega⟩
   rw[je he.tab];rw[hz] at h⊢;have ht0:(cF s x.page t0 (3 - d0)).there =B:=by simpa using h.1
   have hz0:=(he.not ht0).2;have e1:(z:Int).toNat =z:=by omega
   have e2:(((3 - d0:Nat):Int) - (z:Int)).toNat =3 - d0 - z:=by omega
   rw[e1,e2];have hzd:z≤3 - d0:=by have:=h.2;omega
   have hsum:z+(3 - d0 - z)=3 - d0:=by omega
   obtain⟨c1,c2⟩:=qO (p:=x.page) (lw:=bt (dj x) z) (sz:=z) (3 - d0 - z) t0 s hi hn (by omega);rw[hsum] at c2;have hpi:=ce hp (show 3 - d0≤3 by omega);refine qL (fun u i hu hi0=> ?_) hq d t (by omega) ht;obtain⟨u0,u1,u2⟩:=G.1 hu;obtain⟨j1,j2⟩:=c2 u.toNat i.toNat u2;refine⟨G.2 ⟨u0,by rw[c1];exact u1,j1⟩,?_⟩;rcases j2 with ⟨a,b⟩|j2
   ·left
    have htu:=(hw.nat hp he.le he.tab).1;obtain rfl:u=t0:=by omega
    obtain rfl:i=am x.page (3 - d0:Nat):=by omega
    exact hz0
   ·exact .inr j2
  ·rw[if_pos hk] at hc;exact absurd hc hk
 ·rw[if_neg hc];exact ht
theorem iG:∀(l:List Int) (s:O),s.Inv→(bx s l).Inv ∧(bx s l).n =s.n∧(bx s l).wd =s.wd∧∀a:Nat,(bx s l).tk a=f↔s.tk a=f∧(a:Int) ∉ l:=by
 intro l;induction l with
 |nil=>intro s hi;exact⟨hi,rfl,rfl,fun a=>by simp[bx]⟩
 |cons k l ih=>
  intro s hi;show(bx (s.giveS k) l).Inv ∧_;cases hk:s.has k with
  |true=>
   have e:s.giveS k=s.give k.toNat:=by unfold Z;rw[if_pos hk]
   rw[show bx s (k::l)=bx (s.give k.toNat) l by rw[←e];rfl,e];obtain⟨k0,k1,k2⟩:=G.1 hk;obtain⟨i1,i2,i3,i4⟩:=ih (s.give k.toNat) (hi.give k2);refine⟨i1,i2,i3,fun a=> ?_⟩;rw[i4 a];show bU s.tk k.toNat B a=f∧_↔_;by_cases h:a=k.toNat
   ·subst h
    rw[kE];have:((k.toNat:Nat):Int)=k:=by omega
    rw[this];simp
   ·rw[im _ _ h]
    have:(a:Int)≠k:=by omega
    simp[this]
  |false=>
   have e:s.giveS k=s:=by unfold Z;rw[if_neg (by rw[hk];simp)]
   rw[e,show bx s (k::l)=bx s l from(congrArg (fun x=>bx x l) e:bx (s.giveS k) l=bx s l)];obtain⟨i1,i2,i3,i4⟩:=ih s hi;refine⟨i1,i2,i3,fun a=> ?_⟩;rw[i4 a];constructor
   ·rintro⟨a1,a2⟩
    refine⟨a1,fun hm=> ?_⟩;rcases List.mem_cons.1 hm with h|h
    ·have hl:=hi.tkl a a1
     have hle:=hi.le;rw[←h] at hk;rw[Ms.has_nat hi,a1] at hk;cases hk
    ·exact a2 h
   ·rintro⟨a1,a2⟩
    exact⟨a1,fun hm=>a2 (List.mem_cons_of_mem _ hm)⟩
theorem gg(hw:T s r gone X)(hi:s.Inv){q:Int}(hq:dh q):∀d,d≤4→bo (bx s gone) r q d=bo s r q d:=by
 obtain⟨_,g2,g3,g4⟩:=iG gone s hi;intro d;induction d with
 |zero=>intro _;rfl
 |succ d ih=>
  intro hd;show(bo (bx s gone) r q d).bind _=(bo s r q d).bind _;rw[ih (by omega)];cases hu:bo s r q d with
  |none=>rfl
  |some u=>
   simp only[Option.bind_some];have hh:(bx s gone).has u=s.has u:=by
    rw[Bool.eq_iff_iff,G,G,g2,g4];constructor
    ·rintro⟨a,b,c,_⟩;exact⟨a,b,c⟩
    ·rintro⟨a,b,c⟩
     refine⟨a,b,c,fun hm=> ?_⟩;rw[Int.toNat_of_nonneg a] at hm;exact hw.gt u hm ⟨q,d,hq,by omega,hu⟩
   unfold ia cF ay;rw[hh,g3]
theorem mY(hw:T s r gone X)(hi:s.Inv){q t:Int}{d:Nat}(hq:dh q)(he:Y s r q d t):Y (bx s gone) r q d t∧cF (bx s gone) q t (3 - d)=cF s q t (3 - d):=by
 obtain⟨_,g2,g3,g4⟩:=iG gone s hi;have hw':∀i,ay (bx s gone) t i=ay s t i:=fun i=>by unfold ay;rw[g3]
 have hh:(bx s gone).has t=f:=by
  obtain⟨a,b,c⟩:=G.1 he.use;refine G.2 ⟨a,by rw[g2];exact b,(g4 _).2 ⟨c,fun hm=> ?_⟩⟩;rw[Int.toNat_of_nonneg a] at hm;exact hw.gt t hm ⟨q,d,hq,he.le,he.tab⟩
 refine⟨⟨he.le,(gg hw hi hq d (by have:=he.le;omega)).trans he.tab,hh,by rw[hw'];exact he.dec,?_⟩,by unfold cF;rw[hw']⟩;have:=he.no;unfold ia cF at this⊢;rw[hw',hh];rw[he.use] at this;exact this
theorem ou(hw:T s r gone X)(hi:s.Inv){q:Int}(hq:dh q):bp (bx s gone) r q=bp s r q:=by
 obtain⟨d,t,he⟩:=hw.ends q hq;obtain⟨h1,h2⟩:=mY hw hi hq he;rw[bW hq.1 hq.2 h1,bW hq.1 hq.2 he,h2];have:cK (bx s gone) r q (d+1)=cK s r q (d+1):=by
  unfold cK;refine List.map_congr_left fun x hx=> ?_;rw[gg hw hi hq x (by have:=List.mem_range.1 hx;have:=he.le;omega)]
 rw[this]
theorem sq(hw:T s r gone X)(hi:s.Inv)(t:Int):rz (bx s gone) r t↔rz s r t:=by
 constructor
 ·rintro⟨q,d,hq,hd,h⟩;exact⟨q,d,hq,hd,by rw[←gg hw hi hq d (by omega)];exact h⟩
 ·rintro⟨q,d,hq,hd,h⟩;exact⟨q,d,hq,hd,by rw[gg hw hi hq d (by omega)];exact h⟩
theorem Wf.give(hw:T s r gone X)(hi:s.Inv):T (bx s gone) r [] X:=by
 obtain⟨_,g2,g3,g4⟩:=iG gone s hi;refine⟨fun p hp=> ?_,fun p q d e t hp hq hd he h1 h2=> ?_,fun p d t hp hd h=> ?_,fun k=> ?_,List.nodup_nil,fun g hg=>(by cases hg),fun g hg=>(by cases hg)⟩
 ·obtain⟨d,t,he⟩:=hw.ends p hp
  exact⟨d,t,(mY hw hi hp he).1⟩
 ·rw[gg hw hi hp d (by omega)] at h1
  rw[gg hw hi hq e (by omega)] at h2;exact hw.inj p q d e t hp hq hd he h1 h2
 ·rw[gg hw hi hp (d+1) (by omega)] at h
  have:=hw.full p d t hp hd h;unfold ay at this⊢;rw[g3];exact this
 ·rw[g4 k,hw.use k,sq hw hi]
  constructor
  ·rintro⟨a|a,b⟩
   ·exact .inl a
   ·exact absurd a b
  ·rintro(a|a)
   ·exact⟨.inl a,fun hm=>hw.gt _ hm a⟩
   ·cases a
end
def vi(o:Option S)(a:Ac):An:=match o with|none=>⟨1,0,0⟩|some m=>bJ m a
def OnTree(s:O)(r:Int)(k:Ck):Prop:=∃d:Nat,d≤3∧k.level=((3 - d:Nat):Int)∧bo s r k.a.page d=E k.t
def Lost(s:O)(r:Int)(gone:List Int)(k:Ck):Prop:=k.t∈gone∧bv s r k.a.page=I
structure Marked (s s':O) (r:Int):Prop where
 n:s'.n=s.n
 tk:∀u,s'.tk u=s.tk u
 fr:s'.frees=s.frees
 tab:∀q,dh q→∀d,d≤4→bo s' r q d=bo s r q d
 map:∀q,dh q→bv s' r q=bv s r q
 lev:∀q,dh q→(bp s' r q).lev =(bp s r q).lev
 used:∀q,dh q→(bp s r q).e.used =f→(bp s' r q).e.used =f
 dirty:∀q,dh q→(bp s r q).e.dirty =f→(bp s' r q).e.dirty =f
theorem Marked.refl(s:O)(r:Int):Marked s s r:=⟨rfl,fun _=>rfl,rfl,fun _ _ _ _=>rfl,fun _ _=>rfl,fun _ _=>rfl,fun _ _ h=>h,fun _ _ h=>h⟩
structure Kept (s:O) (r:Int) (x:Ln):Prop where
 inP:dh x.m.page
 map:bv s r x.m.page=E x.m
 used:(bp s r x.m.page).e.used =f
 dirty:x.dirty=f→(bp s r x.m.page).e.dirty =f
theorem Kept.mark{s s':O}{r:Int}{x:Ln}(h:Kept s r x)(m:Marked s s' r):Kept s' r x:=
 ⟨h.inP,(m.map _ h.inP).trans h.map,m.used _ h.inP h.used,fun d=>m.dirty _ h.inP (h.dirty d)⟩
theorem OnTree.mark{s s':O}{r:Int}{k:Ck}(hp:dh k.a.page)(h:OnTree s r k)(m:Marked s s' r):OnTree s' r k:=by
 obtain⟨d,hd,hl,ht⟩:=h;exact⟨d,hd,hl,(m.tab _ hp d (by omega)).trans ht⟩
theorem Lost.mark{s s':O}{r:Int}{gone:List Int}{k:Ck}(hp:dh k.a.page)(h:Lost s r gone k)(m:Marked s s' r):Lost s' r gone k:=⟨h.1,(m.map _ hp).trans h.2⟩
theorem eD{a:Ac}(h:au a=0):dh a.page:=by
 have:=iK h;unfold cP at this;simp at this;exact this
section
variable {s:O} {r:Int} {gone:List Int} {X:Int→Prop}
theorem pA(hw:T s r gone X){p q:Int}{m:S}(hp:dh p)(hq:dh q)(hm:bv s r p=E m)(ho:H m q=f):(bp s r q).e =(bp s r p).e ∧(bp s r q).lev =(bp s r p).lev :=by
 obtain⟨d,t,he⟩:=hw.ends p hp;rw[bh hp he] at hm;split at hm
 ·rename_i hl
  injection hm with hm
  obtain⟨h3,_,hov⟩:=he.map hp hl;rw[←hm,hov q] at ho;obtain⟨hs,hse⟩:=he.same hp hq (of_decide_eq_true ho);rw[bW hq.1 hq.2 hs,bW hp.1 hp.2 he,hse];exact⟨rfl,rfl⟩
 ·cases hm
theorem sr(hw:T s r gone X){p:Int}{m:S}(hp:dh p)(hm:bv s r p=E m):dh m.page∧H m m.page=f∧bv s r m.page=E m:=by
 obtain⟨h1,h2⟩:=hw.self hp hm;have hi:=h2.inP;have ho:H m m.page=f:=dM.2 ⟨by omega,by have:=h2.sp;omega⟩;exact⟨hi,ho,Wf.overMap hw hp hi hm ho hw⟩
theorem lJ(s:O)(r:Int){k:Ck}(hon:k.on=f):OnTree s r (k.again r)∧(k.again r).a =k.a∧(k.again r).on =f:=by
 unfold Ck.again;rw[if_pos hon];exact⟨⟨0,by omega,rfl,rfl⟩,rfl,hon⟩
theorem qP(hw:T s r gone (fun _=>False))(hi:s.Inv){p t:Int}{d:Nat}(hp:dh p)(he:Y s r p d t)(hl:(cF s p t (3 - d)).leaf =f)(a:Ac):
  T (cE s p t d (bt (ch (cF s p t (3 - d)) a) (3 - d:Nat))) r gone (fun _=>False)∧(cE s p t d (bt (ch (cF s p t (3 - d)) a) (3 - d:Nat))).Inv ∧
   Marked s (cE s p t d (bt (ch (cF s p t (3 - d)) a) (3 - d:Nat))) r∧(bp (cE s p t d (bt (ch (cF s p t (3 - d)) a) (3 - d:Nat))) r p).e =ch (cF s p t (3 - d)) a:=by
 have hef:=(io he.dec).1;have hef:aj (cF s p t (3 - d)) ((3 - d:Nat):Int)=0:=hef;obtain⟨hf',hl'⟩:=qq a hef hl;obtain⟨w1,w2,w3⟩:=qp hw hi hp he hf' hl';obtain⟨k1,k2,_⟩:=kq hf';have hv:jV (bt (ch (cF s p t (3 - d)) a) (3 - d:Nat)) (3 - d):=⟨k1,by rw[k2,hl'];simp⟩;refine⟨w1,w2,⟨rfl,fun _=>rfl,rfl,fun q hq e hle=>fG hw hp he.le he.tab he.no hv hq e hle,fun q hq=> ?_,fun q hq=> ?_,fun q hq=> ?_,fun q hq=> ?_⟩,?_⟩
 ·have:=w3 q hq
  split at this
  ·unfold bv
   rw[this.1,this.2];dsimp only;rw[hl',hl,i9 a hef hl]
  ·exact eG this
 ·have:=w3 q hq
  split at this
  ·rw[this.1,this.2]
  ·rw[this]
 ·have:=w3 q hq
  split at this
  ·rw[this.1,this.2]
   intro _;rfl
  ·rw[this];exact id
 ·have:=w3 q hq
  split at this
  ·rw[this.1,this.2]
   dsimp only;intro h;unfold ch;dsimp only;rw[h];rfl
  ·rw[this];exact id
 ·have:=w3 p hp
  rw[if_pos rfl] at this;rw[this.1]
end
section
variable {s:O} {r:Int} {gone:List Int} {X:Int→Prop}
theorem Wf.perm{g:List Int}(hw:T s r gone X)(h:∀t,t∈g↔t∈gone)(nd:g.Nodup):T s r g X:=
 ⟨hw.ends,hw.inj,hw.full,fun k=>by rw[hw.use k,h],nd,fun t ht=>hw.gz t ((h t).1 ht),fun t ht=>hw.gt t ((h t).1 ht)⟩
theorem tV(hw:T s r gone (fun _=>False)){p ri:Int}(hf:iB s r p ri=0){q:Int}(hq:dh q):∀e,e≤4→bo (gG s r p ri) r q e=bo s r q e:=by
 have hr:0≤ri∧ri≤7:=by
  unfold iB at hf;split at hf
  ·cases hf
  ·omega
 have hf0:bw s r p=0:=by
  unfold iB at hf;rw[if_neg (by omega)] at hf;exact hf
 have hp:=fN hf0;obtain⟨d,t,he,hl,hwe,hm,h3,ho⟩:=hw.found hf0;have hef:aj (cF s p t (3 - d)) ((3 - d:Nat):Int)=0:=(io he.dec).1;have hf':aj {cF s p t (3 - d) with rights:=ri} (3 - d:Nat)=0:=ni hef hl hr.1 hr.2;have es:gG s r p ri=cE s p t d (bt {cF s p t (3 - d) with rights:=ri} (3 - d:Nat)):=by
  unfold gG;rw[if_pos hf,hwe];dsimp only;rw[je he.tab]
 obtain⟨k1,k2,_⟩:=kq hf';have hv:jV (bt {cF s p t (3 - d) with rights:=ri} (3 - d:Nat)) (3 - d):=⟨k1,by rw[k2];dsimp only;rw[hl];simp⟩;rw[es];exact fun e he'=>fG hw hp he.le he.tab he.no hv hq e he'
end
section
variable {s:O} {r:Int} {gone:List Int} {X:Int→Prop}
structure tW (s:O) (r:Int) (k:Ck) (p:Sp):Prop where
 fin:p.r.fin=f
 off:p.c=k.idle
 an:p.r.an=vi (bv s r k.a.page) k.a
 kept:p.r.an.fin=0→Kept p.s r p.r.ln∧H p.r.ln.m k.a.page=f∧(k.a.kind=1→p.r.ln.dirty=f)
structure vj (s:O) (r:Int) (k:Ck) (p:Sp):Prop where
 z:p.r=Rs.zero
 same:p.s=s
 on:p.c.on=f
 a:p.c.a=k.a
 tree:OnTree s r p.c
structure nA (s:O) (r:Int) (gone:List Int) (k:Ck) (p:Sp):Prop where
 code:p.code=0
 mark:Marked s p.s r
 wf:T p.s r gone (fun _=>False)
 inv:p.s.Inv
 fin:tW s r k p∨vj s r k p
theorem ov{k:Ck}{d:Nat}{s':O}{e':En}(hp:dh k.a.page)(he:Y s r k.a.page d k.t)(hlev:k.level=((3 - d:Nat):Int))(hl:(cF s k.a.page k.t (3 - d)).leaf =f)
  (hwf:T s' r gone (fun _=>False)) (hinv:s'.Inv) (hm:Marked s s' r) (hway:(bp s' r k.a.page).e =e') (hmp:aA e' ((3 - d:Nat):Int) k.a.page=aA (cF s k.a.page k.t (3 - d)) ((3 - d:Nat):Int) k.a.page)
  (hready:dX e' k.a=f):nA s r gone k (k.leafEnd s' e'):=by
 have hmap:bv s r k.a.page=E (aA e' ((3 - d:Nat):Int) k.a.page):=by
  rw[bh hp he,if_pos hl,hmp]
 have hu:e'.used=f∧(e'.dirty||k.a.kind !=1)=f:=by
  unfold dX at hready;rw[Bool.and_eq_true] at hready;exact hready
 refine⟨rfl,hm,hwf,hinv,.inl ⟨rfl,rfl,?_,fun _=> ?_⟩⟩
 ·rw[hmap,←hlev];rfl
 ·have hmap':bv s' r k.a.page=E (aA e' ((3 - d:Nat):Int) k.a.page):=(hm.map _ hp).trans hmap
  obtain⟨q1,q2,q3⟩:=sr hwf hp hmap';obtain⟨o1,_⟩:=hwf.self hp hmap';have hent:=(pA hwf hp q1 hmap' q2).1;have hln:(k.leafEnd s' e').r.ln =⟨aA e' ((3 - d:Nat):Int) k.a.page,e'.dirty⟩:=by unfold Ck.leafEnd;rw[hlev]
  rw[hln];refine⟨⟨q1,q3,by show(bp s' r _).e.used =f;rw[hent,hway];exact hu.1,fun h=>by show(bp s' r _).e.dirty =f;rw[hent,hway];exact h⟩,o1,fun h1=> ?_⟩;have:=hu.2;rw[h1] at this;simpa using this
theorem qQ(hw:T s r gone (fun _=>False))(hi:s.Inv){k:Ck}(hk:k.Ok)(hon:k.on=f)(ht:OnTree s r k∨Lost s r gone k):nA s r gone k (aR s r k):=by
 have hp:=eD (hk.acc hon);have hag:=lJ s r hon;have hAgain:nA s r gone k ⟨k.again r,s,Rs.zero,0⟩:=⟨rfl,Marked.refl s r,hw,hi,.inr ⟨rfl,rfl,hag.2.2,hag.2.1,hag.1⟩⟩;unfold aR;rw[if_neg (by rw[hon];simp)];rcases ht with ⟨d,hd,hlev,htab⟩|⟨hg,hnone⟩
 ·obtain⟨u1,u2⟩:=hw.at_ hp hd htab
  rw[if_neg (by rw[u1];simp)];have ew:k.word s=ay s k.t (am k.a.page (3 - d:Nat)):=by unfold Ck.word;rw[hlev]
  by_cases hmk:k.mark=f∧k.word s≠k.w
  ·rw[if_pos hmk];exact hAgain
  rw[if_neg hmk,ew,hlev,if_neg (by rw[u2];simp)];have eE:aE (ay s k.t (am k.a.page (3 - d:Nat))) ((3 - d:Nat):Int)=cF s k.a.page k.t (3 - d):=rfl;rw[eE];by_cases hth:(cF s k.a.page k.t (3 - d)).there =B
  ·rw[if_pos hth]
   have hgo:ia s k.a.page k.t (3 - d)=B:=by unfold ia;rw[hth];simp
   have he:Y s r k.a.page d k.t:=⟨hd,htab,u1,u2,hgo⟩;have hz:=(he.not hth).1;refine⟨rfl,Marked.refl s r,hw,hi,.inl ⟨rfl,rfl,?_,fun h=>(by cases h)⟩⟩;rw[bh hp he,hz];rfl
  rw[if_neg hth];by_cases hlf:(cF s k.a.page k.t (3 - d)).leaf =B
  ·rw[if_pos hlf]
   have hgo:ia s k.a.page k.t (3 - d)=f:=jb.2 ⟨u1,u2,by simpa using hth,hlf⟩;have hd3:d<3:=by
    refine Decidable.byContradiction fun hn=> ?_;obtain rfl:d=3:=by omega
    have u2':bu (ay s k.t (am k.a.page (0:Nat))) (0:Nat)=0:=u2;rcases fu u2' with h|h
    ·exact hth h
    ·have hlf':(aE (ay s k.t (am k.a.page (0:Nat))) (0:Nat)).leaf =B:=hlf
     exact absurd (h.symm.trans hlf') (by simp)
   refine⟨rfl,Marked.refl s r,hw,hi,.inr ⟨rfl,rfl,hon,rfl,d+1,by omega,?_,fx.2 ⟨k.t,htab,hgo,rfl⟩⟩⟩;show((3 - d:Nat):Int) - 1=_;omega
  rw[if_neg hlf];have hl:(cF s k.a.page k.t (3 - d)).leaf =f:=by simpa using hlf
  have hgo:ia s k.a.page k.t (3 - d)=B:=by unfold ia;rw[hl];simp
  have he:Y s r k.a.page d k.t:=⟨hd,htab,u1,u2,hgo⟩;have hef:aj (cF s k.a.page k.t (3 - d)) ((3 - d:Nat):Int)=0:=(io he.dec).1;have hmap:bv s r k.a.page=E (aA (cF s k.a.page k.t (3 - d)) ((3 - d:Nat):Int) k.a.page):=by rw[bh hp he,if_pos hl]
  by_cases hmay:may (cF s k.a.page k.t (3 - d)).rights k.a=B
  ·rw[if_pos hmay]
   refine⟨rfl,Marked.refl s r,hw,hi,.inl ⟨rfl,rfl,?_,fun h=>(by cases h)⟩⟩;rw[hmap];show _=bJ _ k.a;unfold bJ;rw[mb hef hl (iK (hk.acc hon)),hmay];rfl
  rw[if_neg hmay];by_cases hm1:k.mark=f
  ·rw[if_pos hm1]
   obtain⟨m1,m2,m3,m4⟩:=qP hw hi hp he hl k.a;exact ov hp he hlev hl m1 m2 m3 m4 (i9 k.a hef hl) (pX _ _)
  rw[if_neg hm1];by_cases hrd:dX (cF s k.a.page k.t (3 - d)) k.a=f
  ·rw[if_pos hrd]
   exact ov hp he hlev hl hw hi (Marked.refl s r) (by rw[bW hp.1 hp.2 he]) rfl hrd
  rw[if_neg hrd];exact⟨rfl,Marked.refl s r,hw,hi,.inr ⟨rfl,rfl,hon,rfl,d,hd,rfl,htab⟩⟩
 ·obtain⟨g0,gz⟩:=hw.gz _ hg
  have htk:s.tk k.t.toNat=f:=(hw.use _).2 (.inr (by rw[Int.toNat_of_nonneg g0];exact hg));have hhas:s.has k.t=f:=G.2 ⟨g0,by have:=hi.tkl _ htk;have:=hi.le;omega,htk⟩;rw[if_neg (by rw[hhas];simp)];obtain⟨L,hL,hL3⟩:∃L:Nat,k.level=L∧L≤3:=⟨k.level.toNat,by have:=hk.l0 hon;omega,by have:=hk.l3 hon;omega⟩;have hix:=ce hp hL3;have ew:k.word s=0:=by
   unfold Ck.word;rw[hL];have:=gz (am k.a.page L).toNat (by omega);rwa [Int.toNat_of_nonneg hix.1] at this
  obtain⟨z1,z2⟩:=dV hL3;by_cases hm:k.mark=f
  ·have hne:k.word s≠k.w:=by
    rw[ew];intro h;have:=(hk.leaf hm).1;rw[←h,hL,z2] at this;cases this
   rw[if_pos ⟨hm,hne⟩];exact hAgain
  ·rw[if_neg (fun h=>hm h.1),ew,hL,if_neg (by rw[z1];simp),z2,if_pos (show En.zero.there=B from rfl)]
   refine⟨rfl,Marked.refl s r,hw,hi,.inl ⟨rfl,rfl,?_,fun h=>(by cases h)⟩⟩;rw[hnone];rfl
end
structure ss (σ:Sc) (P:List S) (k:Nat) (c:Cr):Prop where
 walk:c.k.on=f→OnTree σ.s 0 c.k∨(σ.wait k=f∧Lost σ.s 0 σ.gone c.k)
 line:∀x∈c.l,Kept σ.s 0 x∨(σ.wait k=f∧du x.m σ.told=f∧Bk.find P x.m.page=E x.m)
structure Safe (σ:Sc) (P:List S):Prop where
 ok:σ.Ok
 wf:T σ.s 0 σ.gone (fun _=>False)
 quiet:σ.busy=B→σ.gone=[]∧∀i,σ.wait i=B
 busy:σ.busy=f→∃i,i<σ.cs.length∧σ.wait i=f
 core:∀k c,σ.cs[k]? =E c→ss σ P k c
 prev:Bk.Ok P
namespace Safe
variable {σ:Sc} {P:List S}
theorem at_core{σ:Sc}{k:Nat}(hk:k<σ.cs.length):σ.cs[k]? =E (σ.core k):=by
 unfold Sc.core;rw[List.getD_eq_getElem?_getD,List.getElem?_eq_getElem hk];rfl
theorem set_core{cs:List Cr}{k j:Nat}{c x:Cr}(h:(cs.set k c)[j]? =E x):(j=k∧x=c)∨(j≠k∧cs[j]? =E x):=by
 rw[List.getElem?_set] at h;split at h
 ·rename_i hkj
  subst hkj;split at h
  ·injection h with h;exact .inl ⟨rfl,h.symm⟩
  ·cases h
 ·rename_i hkj
  exact .inr ⟨fun e=>hkj e.symm,h⟩
theorem evict(h:Safe σ P){k:Nat}(hk:k<σ.cs.length):Safe (σ.evict k).1 P:=by
 unfold Sc.evict;split
 ·exact h
 ·have hc:=Sc.core_ok h.ok k
  have hi:=h.core k _ (at_core hk);refine⟨h.ok.put k hc.1.evict hc.2,h.wf,h.quiet,fun hb=>by have:=h.busy hb;rwa [Sc.put_len],fun j c hj=> ?_,h.prev⟩;rcases set_core hj with ⟨rfl,rfl⟩|⟨hne,hj⟩
  ·exact⟨hi.walk,fun x hx=>hi.line x (List.mem_of_mem_tail hx)⟩
  ·exact⟨(h.core j c hj).walk,(h.core j c hj).line⟩
theorem begin_tree(s:O)(k:Ck)(a:Ac):OnTree s 0 (k.begin 0 a):=⟨0,by omega,rfl,rfl⟩
theorem access(h:Safe σ P){k:Nat}(hk:k<σ.cs.length)(a:Ac):Safe (σ.access k a).1 P:=by
 have hc:=Sc.core_ok h.ok k;have hi:=h.core k _ (at_core hk);refine⟨h.ok.put k hc.1 (sU hc.2),h.wf,h.quiet,fun hb=>by have:=h.busy hb;unfold Sc.access;rwa [Sc.put_len],fun j c hj=> ?_,h.prev⟩;rcases set_core hj with ⟨rfl,rfl⟩|⟨hne,hj⟩
 ·refine⟨fun hon=> ?_,hi.line⟩
  show OnTree σ.s 0 (cW _ 0 _ a).c ∨_;unfold cW at hon⊢;split;· rename_i hx;rw[if_pos hx] at hon;exact hi.walk hon
  rename_i hx;rw[if_neg hx] at hon;split;· rename_i hy;rw[if_pos hy] at hon;exact hi.walk hon
  rename_i hy;rw[if_neg hy] at hon;cases hh:ji (σ.core j).l a with
  |some r=>rw[hh] at hon;exact hi.walk hon
  |none=>exact .inl (begin_tree _ _ _)
 ·exact⟨(h.core j c hj).walk,(h.core j c hj).line⟩
theorem keep_mem{l:List Ln}{r:Rs}{x:Ln}(h:x∈gY l r):x∈l∨(r.fin=f∧r.an.fin=0∧x=r.ln):=by
 unfold gY at h;split at h
 ·rename_i hr
  unfold Tl.put at h;split at h
  ·rw[List.mem_append] at h
   rcases h with h|h
   ·exact .inl ((List.mem_filter.1 ((Tl.room_sub _).subset h)).1)
   ·simp at h
    exact .inr ⟨hr.1,hr.2,h⟩
  ·exact .inl h
 ·exact .inl h
theorem step_off{s:O}{r:Int}{k:Ck}(h:k.on=B):aR s r k=⟨k,s,Rs.zero,9⟩:=by unfold aR;rw[if_pos h]
theorem keep_zero(l:List Ln):gY l Rs.zero=l:=by unfold gY;rw[if_neg (by simp[Rs.zero])]
theorem walk_stepIn(h:Safe σ P){k:Nat}(hk:k<σ.cs.length)(hon:(σ.core k).k.on =f):nA σ.s 0 σ.gone (σ.core k).k (aR σ.s 0 (σ.core k).k):=by
 have hc:=Sc.core_ok h.ok k;exact qQ h.wf h.ok.s.inv hc.2 hon (((h.core k _ (at_core hk)).walk hon).imp id (fun x=>x.2))
theorem walk(h:Safe σ P){k:Nat}(hk:k<σ.cs.length):Safe (σ.walk k).1 P:=by
 have hc:=Sc.core_ok h.ok k;have hi:=h.core k _ (at_core hk);cases hon:(σ.core k).k.on with
 |false=>
  unfold Sc.walk;rw[step_off hon,keep_zero];refine⟨⟨h.ok.s,(h.ok.put k hc.1 hc.2).c,(h.ok.put k hc.1 hc.2).few,(h.ok.put k hc.1 hc.2).one,(h.ok.put k hc.1 hc.2).w,h.ok.told⟩,h.wf,h.quiet,fun hb=>by have:=h.busy hb;rwa [show({σ.put k ⟨(σ.core k).l,(σ.core k).k⟩ with s:=σ.s}:Sc).cs.length =σ.cs.length from Sc.put_len _ _ _],fun j c hj=> ?_,h.prev⟩;rcases set_core hj with ⟨rfl,rfl⟩|⟨hne,hj⟩
  ·exact⟨hi.walk,hi.line⟩
  ·exact⟨(h.core j c hj).walk,(h.core j c hj).line⟩
 |true=>
  have hs:=h.walk_stepIn hk hon;have hpu:=h.ok.put k (c:=⟨gY (σ.core k).l (aR σ.s 0 (σ.core k).k).r,(aR σ.s 0 (σ.core k).k).c⟩) (sV hc.1 _) (hc.2.step _ _);refine⟨⟨⟨hs.inv,by rw[show(σ.walk k).1.s.n=σ.s.n from hs.mark.n];exact h.ok.s.small⟩,hpu.c,hpu.few,hpu.one,hpu.w,h.ok.told⟩,hs.wf,h.quiet,fun hb=> ?_,fun j c hj=> ?_,h.prev⟩
  ·have:=h.busy hb
   rwa [show(σ.walk k).1.cs.length=σ.cs.length from Sc.put_len _ _ _]
  ·rcases set_core hj with ⟨rfl,rfl⟩|⟨hne,hj⟩
   ·refine⟨fun hon'=> ?_,fun x hx=> ?_⟩
    ·rcases hs.fin with hf|hf
     ·have:((σ.core j).k.idle).on =f:=by rw[←hf.off];exact hon'
      cases this
     ·left
      show OnTree (aR σ.s 0 (σ.core j).k).s 0 _;rw[hf.same];exact hf.tree
    ·rcases keep_mem hx with hx|⟨h1,h2,h3⟩
     ·rcases hi.line x hx with hl|hl
      ·exact .inl (hl.mark hs.mark)
      ·exact .inr hl
     ·rcases hs.fin with hf|hf
      ·rw[h3];exact .inl (hf.kept h2).1
      ·rw[hf.z] at h1;cases h1
   ·have hj':=h.core j c hj
    refine⟨fun hon'=> ?_,fun x hx=> ?_⟩
    ·have hp:=eD ((h.ok.c c (List.mem_of_getElem? hj)).2.acc hon')
     rcases hj'.walk hon' with hl|hl
     ·exact .inl (hl.mark hp hs.mark)
     ·exact .inr ⟨hl.1,hl.2.mark hp hs.mark⟩
    ·rcases hj'.line x hx with hl|hl
     ·exact .inl (hl.mark hs.mark)
     ·exact .inr hl
theorem overB_false{ws:Nat→Bool}(h:dY ws=B):∃i,i<4∧ws i=f:=by
 unfold dY at h;cases h0:ws 0 with
 |true=>exact⟨0,by omega,h0⟩
 |false=>
  cases h1:ws 1 with
  |true=>exact⟨1,by omega,h1⟩
  |false=>
   cases h2:ws 2 with
   |true=>exact⟨2,by omega,h2⟩
   |false=>
    cases h3:ws 3 with
    |true=>exact⟨3,by omega,h3⟩
    |false=>rw[h0,h1,h2,h3] at h;cases h
theorem ack_off(ws:Nat→Bool)(k:Nat):cB ws k k=B:=by unfold cB;rw[if_pos rfl]
theorem ack_ne(ws:Nat→Bool){k j:Nat}(h:j≠k):cB ws k j=ws j:=by unfold cB;rw[if_neg h]
theorem heed_core(h:Safe σ P){k:Nat}(hk:k<σ.cs.length):∀j c,(σ.heed k).cs[j]? =E c→ss (σ.heed k) P j c:=by
 intro j c hj;have hi:=h.core k _ (at_core hk);rcases set_core hj with ⟨rfl,rfl⟩|⟨hne,hj⟩
 ·refine⟨fun hon=> .inl ?_,fun x hx=> .inl ?_⟩
  ·have hon':(σ.core j).k.on =f:=by
    unfold Ck.again at hon;split at hon
    ·assumption
    ·exact hon
   exact(lJ σ.s 0 hon').1
  ·rcases hi.line x ((List.mem_filter.1 hx).1) with hl|hl
   ·exact hl
   ·have:=Tl.drop_apart _ _ x hx
    rw[hl.2.1] at this;cases this
 ·have hj':=h.core j c hj
  refine⟨fun hon=>(hj'.walk hon).imp id fun hl=>⟨(ack_ne _ hne).trans hl.1,hl.2⟩,fun x hx=>(hj'.line x hx).imp id fun hl=>⟨(ack_ne _ hne).trans hl.1,hl.2⟩⟩
theorem heed_ok(h:Safe σ P)(k:Nat):(σ.heed k).Ok :=by
 have hc:=Sc.core_ok h.ok k;have hp:=h.ok.put k (c:=⟨Tl.drop (σ.core k).l σ.told,(σ.core k).k.again 0⟩) (hc.1.drop _) (hc.2.again 0);refine⟨h.ok.s,hp.c,hp.few,hp.one,fun i hi=> ?_,h.ok.told⟩;have:=h.ok.w i (by have e:(σ.heed k).cs.length =σ.cs.length:=List.length_set ..;omega);show cB σ.wait k i=B;unfold cB;split
 ·rfl
 ·exact this
theorem ack(h:Safe σ P){k:Nat}(hk:k<σ.cs.length):Safe (σ.ack k).1 P:=by
 unfold Sc.ack;split
 ·exact h
 rename_i hwk;have hwk:σ.wait k=f:=by simpa using hwk
 have hb:σ.busy=f:=by
  cases hb:σ.busy with
  |true=>rfl
  |false=>rw[(h.quiet hb).2 k] at hwk;cases hwk
 have hlen:(σ.heed k).cs.length =σ.cs.length:=List.length_set ..;have hok:=h.heed_ok k;have hcore:=h.heed_core hk;split
 ·rename_i ho
  have hz:∀i,(σ.heed k).wait i=B:=by
   intro i;obtain⟨a0,a1,a2,a3⟩:=nb ho;by_cases hi:i<4
   ·match i,hi with
    |0,_=>exact a0
    |1,_=>exact a1
    |2,_=>exact a2
    |3,_=>exact a3
   ·exact hok.w i (by have:=hok.few;omega)
  have hwf:T (bx σ.s σ.gone) 0 [] (fun _=>False):=h.wf.give h.ok.s.inv;obtain⟨g1,g2,_⟩:=iG σ.gone σ.s h.ok.s.inv;refine⟨⟨⟨g1,by show(bx σ.s σ.gone).n ≤128;rw[g2];exact h.ok.s.small⟩,hok.c,hok.few,hok.one,hok.w,hok.told⟩,hwf,fun _=>⟨rfl,hz⟩,fun hx=>(by cases hx),fun j c hj=> ?_,h.prev⟩;have hj':=hcore j c hj;refine⟨fun hon=> ?_,fun x hx=> ?_⟩
  ·rcases hj'.walk hon with hl|hl
   ·obtain⟨d,hd,hlv,ht⟩:=hl
    have hp:=eD ((hok.c c (List.mem_of_getElem? hj)).2.acc hon);exact .inl ⟨d,hd,hlv,(gg h.wf h.ok.s.inv hp d (by omega)).trans ht⟩
   ·rw[hz j] at hl;cases hl.1
  ·rcases hj'.line x hx with hl|hl
   ·have e:=ou h.wf h.ok.s.inv hl.inP
    exact .inl ⟨hl.inP,(eG e).trans hl.map,by show(bp (bx σ.s σ.gone) 0 _).e.used =f;rw[e];exact hl.used,fun hd=>by show(bp (bx σ.s σ.gone) 0 _).e.dirty =f;rw[e];exact hl.dirty hd⟩
   ·rw[hz j] at hl;cases hl.1
 ·rename_i ho
  refine⟨hok,h.wf,fun hx=>(by rw[show(σ.heed k).busy =σ.busy from rfl,hb] at hx;cases hx),fun _=> ?_,hcore,h.prev⟩;obtain⟨i,_,hi⟩:=overB_false (by simpa using ho);refine⟨i,?_,hi⟩;refine Decidable.byContradiction fun hn=> ?_;have hn:¬i< (σ.heed k).cs.length :=hn;rw[hok.w i (by omega)] at hi;cases hi
theorem lk(h:Safe σ P):Lk σ.s 0 (dr σ.s 0):=(ky h.wf).2.1
theorem findM_ok{s:O}{g:List Int}{X:Int→Prop}(hw:T s 0 g X){p:Int}(hf:bw s 0 p=0):bv s 0 p=E (bK s 0 p)∧MapOk (bK s 0 p)∧dh p:=by
 obtain⟨d,t,he,hl,hwe,hm,h3,ho⟩:=hw.found hf;exact⟨hm,(hw.self (fN hf) hm).2,fN hf⟩
theorem mapOk_ok{m:S}(h:MapOk m):m.ok:=by
 have:=h.p0;have:=h.p1;have:=h.sp;have:=h.f0;have:=h.f1;have:=h.r0;have:=h.r7;refine⟨?_,?_,?_,?_⟩<;>unfold cL
 ·omega
 ·rcases h.size with ⟨a,_⟩|⟨a,_⟩|⟨a,_⟩<;>omega
 ·omega
 ·omega
theorem stale{P:List S}{s:O}{x:Ln}{m:S}(hL:Lk s 0 P)(hk:Kept s 0 x)(ho:H m x.m.page=f):du x.m m=f∧Bk.find P x.m.page=E x.m:=
 ⟨by unfold du;rw[ho];simp,(hL.same _ hk.inP).trans hk.map⟩
def prevOf(σ:Sc)(P:List S)(x:Stp):List S:=if σ.busy=B∧(x.kind=2∨x.kind=3)∧(σ.change x).2.code=0 then dr σ.s 0 else P
theorem post_wait{n i:Nat}(h:i<n):eM n i=f:=by unfold eM;simp[h]
theorem change(h:Safe σ P)(x:Stp)(hx:1≤x.kind∧x.kind≤3):Safe (σ.change x).1 (prevOf σ P x):=by
 cases hb:σ.busy with
 |true=>
  have e1:(σ.change x).1=σ:=by unfold Sc.change;rw[if_pos hb]
  have e2:prevOf σ P x=P:=by unfold prevOf;rw[if_neg (by rw[hb];simp)]
  rw[e1,e2];exact h
 |false=>
  obtain⟨hg,hwt⟩:=h.quiet hb;have hwf:=h.wf;rw[hg] at hwf;have hL:=h.lk;have hLok:Bk.Ok (dr σ.s 0):=hL.ok;have hfew:=h.ok.few;have hone:=h.ok.one;by_cases h1:x.kind=1
  ·have e1:(σ.change x).1={σ with s:=dJ σ.s 0 x.m}:=by unfold Sc.change;rw[if_neg (by rw[hb];simp),if_pos h1]
   have e2:prevOf σ P x=P:=by unfold prevOf;rw[if_neg (by omega)]
   rw[e1,e2];obtain⟨w1,w2,w3,w4⟩:=nN hwf h.ok.s.inv h.ok.s.small x.m;refine⟨⟨⟨w2,by show(dJ σ.s 0 x.m).n ≤128;rw[w3];exact h.ok.s.small⟩,h.ok.c,h.ok.few,h.ok.one,h.ok.w,h.ok.told⟩,by show T (dJ σ.s 0 x.m) 0 σ.gone _;rw[hg];exact w1,fun _=>⟨hg,hwt⟩,fun hbb=>(by rw[show({σ with s:=dJ σ.s 0 x.m}:Sc).busy =σ.busy from rfl,hb] at hbb;cases hbb),fun j c hj=> ?_,h.prev⟩;have hj':=h.core j c hj;refine⟨fun hon=> ?_,fun y hy=> ?_⟩
   ·have hp:=eD ((h.ok.c c (List.mem_of_getElem? hj)).2.acc hon)
    rcases hj'.walk hon with ⟨d,hd,hlv,ht⟩|hl
    ·exact .inl ⟨d,hd,hlv,so hwf h.ok.s.inv h.ok.s.small x.m hp hd ht⟩
    ·rw[hwt j] at hl;cases hl.1
   ·rcases hj'.line y hy with hl|hl
    ·have e:=(w4 _ hl.inP).2.1 (by rw[hl.map];simp)
     exact .inl ⟨hl.inP,(eG e).trans hl.map,by show(bp (dJ σ.s 0 x.m) 0 _).e.used =f;rw[e];exact hl.used,fun hd=>by show(bp (dJ σ.s 0 x.m) 0 _).e.dirty =f;rw[e];exact hl.dirty hd⟩
    ·rw[hwt j] at hl;cases hl.1
  by_cases h2:x.kind=2
  ·by_cases hf:bw σ.s 0 x.m.page=0
   ·have e0:σ.change x=(σ.post (de σ.s 0 x.m.page) (bK σ.s 0 x.m.page) (fi σ.s 0 x.m.page),.no 0):=by unfold Sc.change;rw[if_neg (by rw[hb];simp),if_neg h1,if_pos h2,if_pos hf]
    have e2:prevOf σ P x=dr σ.s 0:=by unfold prevOf;rw[if_pos ⟨hb,.inl h2,by rw[e0];rfl⟩]
    rw[e0,e2];obtain⟨w1,w2,w3,w4,w5,w6⟩:=ma hwf h.ok.s.inv hf;have hgn:(fi σ.s 0 x.m.page).Nodup :=by
     have:=w1.nd;rw[List.append_nil] at this;exact(List.pairwise_reverse.1 this).imp fun h=>h.symm
    have hw':T (de σ.s 0 x.m.page) 0 (fi σ.s 0 x.m.page) (fun _=>False):=w1.perm (fun t=>by simp) hgn;obtain⟨f1,f2,f3⟩:=findM_ok hwf hf;refine⟨⟨⟨w2,by show(de σ.s 0 x.m.page).n ≤128;rw[w3];exact h.ok.s.small⟩,h.ok.c,hfew,hone,fun i hi=> ?_,mapOk_ok f2⟩,hw',fun hbb=>(by cases hbb),fun _=>⟨0,hone,post_wait hone⟩,fun j c hj=> ?_,hLok⟩
    ·show eM σ.cs.length i=B
     have hi:σ.cs.length≤i:=hi;unfold eM;simp;omega
    ·have hj':=h.core j c hj
     have hjl:j<σ.cs.length:=(J.1 hj).1;refine⟨fun hon=> ?_,fun y hy=> ?_⟩
     ·have hp:=eD ((h.ok.c c (List.mem_of_getElem? hj)).2.acc hon)
      rcases hj'.walk hon with ⟨d,hd,hlv,ht⟩|hl
      ·rcases sn hwf h.ok.s.inv hf hp hd ht with ht'|ht'
       ·exact .inl ⟨d,hd,hlv,ht'⟩
       ·exact .inr ⟨post_wait hjl,ht'.1,ht'.2⟩
      ·rw[hwt j] at hl;cases hl.1
     ·rcases hj'.line y hy with hl|hl
      ·by_cases ho:H (bK σ.s 0 x.m.page) y.m.page=f
       ·obtain⟨s1,s2⟩:=stale hL hl ho
        exact .inr ⟨post_wait hjl,s1,s2⟩
       ·have e:=(w6 _ hl.inP).2 (by simpa using ho) (by rw[hl.map];simp)
        exact .inl ⟨hl.inP,(eG e).trans hl.map,by show(bp (de σ.s 0 x.m.page) 0 _).e.used =f;rw[e];exact hl.used,fun hd=>by show(bp (de σ.s 0 x.m.page) 0 _).e.dirty =f;rw[e];exact hl.dirty hd⟩
      ·rw[hwt j] at hl;cases hl.1
   ·have e0:σ.change x=(σ,.no (bw σ.s 0 x.m.page)):=by unfold Sc.change;rw[if_neg (by rw[hb];simp),if_neg h1,if_pos h2,if_neg hf]
    have e2:prevOf σ P x=P:=by unfold prevOf;rw[if_neg (by rw[e0];exact fun hh=>hf hh.2.2)]
    rw[e0,e2];exact h
  ·have h3:x.kind=3:=by omega
   by_cases hf:iB σ.s 0 x.m.page x.m.rights=0
   ·have e0:σ.change x=(σ.post (gG σ.s 0 x.m.page x.m.rights) (ku σ.s 0 x.m.page x.m.rights) [],.no 0):=by unfold Sc.change;rw[if_neg (by rw[hb];simp),if_neg h1,if_neg h2,if_pos hf]
    have e2:prevOf σ P x=dr σ.s 0:=by unfold prevOf;rw[if_pos ⟨hb,.inr h3,by rw[e0];rfl⟩]
    rw[e0,e2];obtain⟨w1,w2,w3,w4,w5,w6⟩:=qs hwf h.ok.s.inv hf;have hf0:bw σ.s 0 x.m.page=0:=by
     unfold iB at hf;split at hf
     ·cases hf
     ·exact hf
    have hr:0≤x.m.rights∧x.m.rights≤7:=by
     unfold iB at hf;split at hf
     ·cases hf
     ·omega
    obtain⟨f1,f2,f3⟩:=findM_ok hwf hf0;have em:ku σ.s 0 x.m.page x.m.rights={bK σ.s 0 x.m.page with rights:=x.m.rights}:=by unfold ku;rw[if_pos hf]
    refine⟨⟨⟨w2,by show(gG σ.s 0 x.m.page x.m.rights).n ≤128;rw[w3];exact h.ok.s.small⟩,h.ok.c,hfew,hone,fun i hi=> ?_,?_⟩,w1,fun hbb=>(by cases hbb),fun _=>⟨0,hone,post_wait hone⟩,fun j c hj=> ?_,hLok⟩
    ·show eM σ.cs.length i=B
     have hi:σ.cs.length≤i:=hi;unfold eM;simp;omega
    ·show(ku σ.s 0 x.m.page x.m.rights).ok
     rw[em];have:=mapOk_ok f2;exact⟨this.1,this.2.1,this.2.2.1,by unfold cL;dsimp only;omega⟩
    ·have hj':=h.core j c hj
     have hjl:j<σ.cs.length:=(J.1 hj).1;refine⟨fun hon=> ?_,fun y hy=> ?_⟩
     ·have hp:=eD ((h.ok.c c (List.mem_of_getElem? hj)).2.acc hon)
      rcases hj'.walk hon with ⟨d,hd,hlv,ht⟩|hl
      ·exact .inl ⟨d,hd,hlv,(tV hwf hf hp d (by omega)).trans ht⟩
      ·rw[hwt j] at hl;cases hl.1
     ·rcases hj'.line y hy with hl|hl
      ·by_cases ho:H (bK σ.s 0 x.m.page) y.m.page=f
       ·obtain⟨s1,s2⟩:=stale (m:=ku σ.s 0 x.m.page x.m.rights) hL hl (by rw[em];exact ho)
        exact .inr ⟨post_wait hjl,s1,s2⟩
       ·have e:=(w6 _ hl.inP).2 (by simpa using ho)
        exact .inl ⟨hl.inP,(eG e).trans hl.map,by show(bp (gG σ.s 0 x.m.page x.m.rights) 0 _).e.used =f;rw[e];exact hl.used,fun hd=>by show(bp (gG σ.s 0 x.m.page x.m.rights) 0 _).e.dirty =f;rw[e];exact hl.dirty hd⟩
      ·rw[hwt j] at hl;cases hl.1
   ·have e0:σ.change x=(σ,.no (iB σ.s 0 x.m.page x.m.rights)):=by unfold Sc.change;rw[if_neg (by rw[hb];simp),if_neg h1,if_neg h2,if_neg hf]
    have e2:prevOf σ P x=P:=by unfold prevOf;rw[if_neg (by rw[e0];exact fun hh=>hf hh.2.2)]
    rw[e0,e2];exact h
theorem prev_not{x:Stp}(hx:¬(1≤x.kind∧x.kind≤3)):prevOf σ P x=P:=by unfold prevOf;rw[if_neg (by omega)]
theorem act(h:Safe σ P)(x:Stp):Safe (σ.act x).1 (prevOf σ P x):=by
 unfold Sc.act;split
 ·rename_i hx;exact h.change x hx
 rename_i hx;rw[prev_not hx];split;· exact h
 split;· exact h
 rename_i hc;have hk:x.core.toNat<σ.cs.length:=by omega
 split;· exact h.access hk x.a
 split;· exact h.walk hk
 split;· exact h.ack hk
 exact h.evict hk
end Safe
theorem Bk.find_iff{L:List S}(h:Bk.Ok L){q:Int}{m:S}:Bk.find L q=E m↔m∈L∧H m q=f:=by
 constructor
 ·exact Bk.find_mem
 ·rintro⟨hm,ho⟩
  obtain⟨k,hk,rfl⟩:=List.getElem_of_mem hm;exact(Bk.over_at h hk ho).2
section
variable {s:O} {r:Int} {gone:List Int} {X:Int→Prop} {L:List S}
theorem vm(hw:T s r gone (fun _=>False))(hi:s.Inv)(hn:s.n≤128)(hL:Lk s r L){x:S}(hc:cT s r x=0):Lk (dJ s r x) r (Bk.add L x)∧Bk.addC L x=0:=by
 have hac:Bk.addC L x=0:=by
  rcases sS hw hL x with h|h
  ·rw[hc] at h;cases h.1
  ·rw[←h];exact hc
 refine⟨?_,hac⟩;unfold Bk.addC at hac;by_cases hk:ba x=0
 ·rw[if_neg (by simpa using hk)] at hac
  have hx:=ep hk;have hb:Bk.bad L x=B:=by
   cases hb:Bk.bad L x with
   |false=>rfl
   |true=>rw[hb,if_pos rfl] at hac;cases hac
  have hadd:Bk.add L x=Bk.ins L x:=by unfold Bk.add;rw[if_pos ⟨hk,hb⟩]
  have hok:Bk.Ok (Bk.ins L x):=hL.ok.ins hx hb;rw[hadd];obtain⟨_,_,_,w4⟩:=nN hw hi hn x;refine⟨hok,fun q hq=> ?_⟩;rw[(w4 q hq).1,←hL.same q hq];refine Option.ext fun m=> ?_;rw[Bk.find_iff hok,Bk.mem_ins];by_cases ho:H x q=f
  ·rw[if_pos ⟨hc,ho⟩]
   constructor
   ·rintro⟨rfl|hm,h2⟩
    ·rfl
    ·have:=qn (hL.ok.chk m hm) hx h2 ho
     rw[Bk.bad_false hb m hm] at this;cases this
   ·intro h
    injection h with h
    subst h;exact⟨.inl rfl,ho⟩
  ·rw[if_neg (fun h=>ho h.2),Bk.find_iff hL.ok]
   constructor
   ·rintro⟨rfl|hm,h2⟩
    ·exact absurd h2 ho
    ·exact⟨hm,h2⟩
   ·rintro⟨hm,h2⟩
    exact⟨.inr hm,h2⟩
 ·rw[if_pos hk] at hac
  exact absurd hac hk
theorem ow(hw:T s r gone (fun _=>False))(hL:Lk s r L){p:Int}(hf:bw s r p=0):dh p∧cP p=f∧Bk.find L p=E (bK s r p)∧bK s r p∈L∧H (bK s r p) p=f:=by
 have hp:=fN hf;have hB:cP p=f:=by unfold cP;rw[decide_eq_true hp.1,decide_eq_true hp.2];rfl
 obtain⟨d,t,he,hl,hwe,hm,h3,ho⟩:=hw.found hf;have:=(hL.same p hp).trans hm;exact⟨hp,hB,this,Bk.find_mem this⟩
theorem vo(hw:T s r gone (fun _=>False))(hi:s.Inv)(hL:Lk s r L){p:Int}(hf:bw s r p=0):Lk (de s r p) r (Bk.dropL L p):=by
 obtain⟨hp,hB,h1,h2,h3⟩:=ow hw hL hf;have hd:Bk.dropL L p=Bk.del L p:=by unfold Bk.dropL;rw[if_pos hB]
 have hok:Bk.Ok (Bk.del L p):=hL.ok.del p;rw[hd];obtain⟨_,_,_,_,_,w6⟩:=ma hw hi hf;generalize bK s r p=M at*
 refine⟨hok,fun q hq=> ?_⟩;rw[(w6 q hq).1,←hL.same q hq];refine Option.ext fun m=> ?_;have one:∀m,m∈L→H m p=f→m=M:=fun m hm ho=>by
  have:=(Bk.find_iff hL.ok).2 ⟨hm,ho⟩;rw[h1] at this;injection this with this
  exact this.symm
 rw[Bk.find_iff hok];unfold Bk.del;rw[List.mem_filter];by_cases ho:H M q=f
 ·rw[if_pos ho]
  constructor
  ·rintro⟨⟨hm,hn⟩,hq'⟩
   have e1:=(Bk.find_iff hL.ok).2 ⟨hm,hq'⟩;have e2:=(Bk.find_iff hL.ok).2 ⟨h2,ho⟩;rw[e1] at e2;injection e2 with e2
   subst e2;rw[h3] at hn;cases hn
  ·intro h;cases h
 ·rw[if_neg ho,Bk.find_iff hL.ok]
  constructor
  ·rintro⟨⟨hm,_⟩,hq'⟩;exact⟨hm,hq'⟩
  ·rintro⟨hm,hq'⟩
   refine⟨⟨hm,?_⟩,hq'⟩;cases hov:H m p with
   |false=>rfl
   |true=>
    rw[one m hm hov] at hq';exact absurd hq' ho
theorem wH(hw:T s r gone (fun _=>False))(hi:s.Inv)(hL:Lk s r L){p ri:Int}(hf:iB s r p ri=0):Lk (gG s r p ri) r (Bk.protL L p ri):=by
 have hr:0≤ri∧ri≤7:=by
  unfold iB at hf;split at hf
  ·cases hf
  ·omega
 have hf0:bw s r p=0:=by
  unfold iB at hf;rw[if_neg (by omega)] at hf;exact hf
 obtain⟨hp,hB,h1,h2,h3⟩:=ow hw hL hf0;have hd:Bk.protL L p ri=Bk.prot L p ri:=by unfold Bk.protL;rw[if_pos (Bk.protB_iff.2 ⟨hp.1,hp.2,hr.1,hr.2⟩)]
 have hok:Bk.Ok (Bk.prot L p ri):=hL.ok.prot p hr.1 hr.2;rw[hd];obtain⟨_,_,_,_,_,w6⟩:=qs hw hi hf;generalize bK s r p=M at*
 refine⟨hok,fun q hq=> ?_⟩;refine Option.ext fun m=> ?_;have one:∀m,m∈L→H m p=f→m=M:=fun m hm ho=>by
  have:=(Bk.find_iff hL.ok).2 ⟨hm,ho⟩;rw[h1] at this;injection this with this
  exact this.symm
 have oneq:H M q=f→∀m,m∈L→H m q=f→m=M:=fun hq' m hm ho=>by
  have e1:=(Bk.find_iff hL.ok).2 ⟨hm,ho⟩;have e2:=(Bk.find_iff hL.ok).2 ⟨h2,hq'⟩;rw[e1] at e2;injection e2
 rw[Bk.find_iff hok];unfold Bk.prot;rw[List.mem_map];by_cases ho:H M q=f
 ·rw[((w6 q hq).1 ho).2.1]
  constructor
  ·rintro⟨⟨y,hy,rfl⟩,hq'⟩
   have e:y=M:=by
    by_cases hyp:H y p=f
    ·exact one y hy hyp
    ·rw[if_neg hyp] at hq'
     exact oneq ho y hy hq'
   subst e;rw[if_pos h3]
  ·intro h
   injection h with h
   subst h;exact⟨⟨M,h2,by rw[if_pos h3]⟩,ho⟩
 ·have e:=(w6 q hq).2 (by simpa using ho)
  rw[eG e,←hL.same q hq,Bk.find_iff hL.ok];constructor
  ·rintro⟨⟨y,hy,rfl⟩,hq'⟩
   by_cases hyp:H y p=f
   ·rw[if_pos hyp,one y hy hyp] at hq'
    exact absurd hq' ho
   ·rw[if_neg hyp] at hq'⊢
    exact⟨hy,hq'⟩
  ·rintro⟨hm,hq'⟩
   have hn:¬H m p=f:=fun hov=>by
    rw[one m hm hov] at hq';exact ho hq'
   exact⟨⟨m,hm,by rw[if_neg hn]⟩,hq'⟩
end
section
variable {s:O} {gone:List Int} {X:Int→Prop}
end
theorem lK{n:Nat}(h:1≤n):(U n).takeS ={n:=n,tk:=bU (fun _=>B) 0 f,wd:=fun a _=>if a=0 then 0 else 0,next:=1,back:=[]}:=by
 have ht:(U n).top =E 0:=by
  show(if 0<n then E 0 else I)=E 0;rw[if_pos (by omega)]
 unfold Ms.takeS;rw[ht];rfl
theorem lL{n:Nat}(h:1≤n):T (U n).takeS 0 [] (fun _=>False):=by
 rw[lK h];generalize hs:({n:=n,tk:=bU (fun _=>B) 0 f,wd:=fun a _=>if a=0 then 0 else 0,next:=1,back:=[]}:O)=s;have hz:∀t i,ay s t i=0:=fun t i=>by
  subst hs;show(if t.toNat=0 then(0:Int) else 0)=0;split<;>rfl
 have hn:s.n=n:=by subst hs;rfl
 have htk:∀k:Nat,s.tk k=f↔k=0:=fun k=>by
  subst hs;show bU (fun _=>B) 0 f k=f↔k=0;unfold bU;split<;>simp_all
 have hhas:s.has 0=f:=G.2 ⟨by omega,by omega,(htk _).2 rfl⟩;have hno:∀p d,d≤3→bo s 0 p (d+1)=I:=by
  intro p d hd;cases hh:bo s 0 p d with
  |none=>exact bH hh _ (by omega)
  |some u=>exact dy hh (fH (by omega) (hz _ _))
 have h0:∀p d t,d≤3→bo s 0 p d=E t→d=0∧t=0:=by
  intro p d t hd ht;cases d with
  |zero=>injection ht with ht;exact⟨rfl,ht.symm⟩
  |succ d=>rw[hno p d (by omega)] at ht;cases ht
 refine⟨fun p hp=>⟨0,0,by omega,rfl,hhas,?_,fH (by omega) (hz _ _)⟩,fun p q d e t hp hq hd he h1 h2=> ?_,fun p d t hp hd ht=> ?_,fun k=> ?_,List.nodup_nil,fun g hg=>(by cases hg),fun g hg=>(by cases hg)⟩
 ·rw[hz];exact(dV (by omega)).1
 ·obtain⟨rfl,_⟩:=h0 p d t hd h1
  obtain⟨rfl,_⟩:=h0 q e t he h2;exact⟨rfl,uw hp hq⟩
 ·rw[hno p d (by omega)] at ht;cases ht
 ·rw[htk]
  constructor
  ·rintro rfl
   exact .inl ⟨0,0,⟨by omega,by omega⟩,by omega,rfl⟩
  ·rintro(⟨p,d,_,hd,ht⟩|h)
   ·have:=(h0 p d _ hd ht).2
    omega
   ·cases h
theorem st{n:Nat}(h:1≤n):Lk (U n).takeS 0 []:=by
 have hw:=lL h;refine⟨Bk.Ok.nil,fun q hq=> ?_⟩;have hz:∀t i,ay (U n).takeS t i=0:=fun t i=>by
  rw[lK h];show(if t.toNat=0 then(0:Int) else 0)=0;split<;>rfl
 obtain⟨d,t,he⟩:=hw.ends q hq;rw[bh hq he,iO (by omega) (hz _ _)];rfl
section
variable {s:O} {L:List S}
theorem drop_head{x:S}(h:Bk.Ok (x::L)):Bk.dropL (x::L) x.page=L∧Bk.dropC (x::L) x.page=0:=by
 have hx:=h.chk x (List.mem_cons_self ..);have hp:=hx.inP;have hB:cP x.page=f:=by unfold cP;rw[decide_eq_true hp.1,decide_eq_true hp.2];rfl
 have ho:H x x.page=f:=dM.2 ⟨by omega,by have:=hx.sp;omega⟩;unfold Bk.dropL Bk.dropC;rw[if_pos hB,if_pos hB];constructor
 ·unfold Bk.del
  rw[List.filter_cons,ho];simp only[Bool.not_true,Bool.false_eq_true,if_false];refine List.filter_eq_self.2 fun y hy=> ?_;have h1:=(List.pairwise_cons.1 h.up).1 y hy;have:=hx.sp;have:H y x.page=B:=dp.2 (.inl (by omega));rw[this];rfl
 ·unfold Bk.find
  rw[List.find?_cons_of_pos (by exact ho)];rfl
end
section
variable {s s':O} {mk p:Int}
end
section
variable {s:O} {gone:List Int} {L:List S}
end
section
variable {s:O} {L:List S} {n:Nat}
theorem qR(x:S):ba x=0∨ba x=1∨ba x=2∨ba x=3:=by unfold ba;split<;>(try split)<;>(try split)<;>omega
end
end Go.Proofs.YtmfheghbgihdmaaGreat
