/- The contract of frames.New. -/
import Derived.Test.YtmfheghbgihdmaaGreatTblM3
import Derived.Test.YtmfheghbgihdmaaGreatSep
import Derived.Lib.Hide
import Derived.WalkSpells
import Derived.Outline
import Derived.BigQuiet
import Derived.Laws.IdiomCopy
import Derived.ArgAppend
import Derived.Deep.RegionLaw
import Derived.Deep.RegionHeld3
import Derived.Deep.LoopGhost
import Derived.Deep.DeepCutAuto
import Derived.Deep.CutBlock
namespace Go.Proofs.YtmfheghbgihdmaaGreat
open Go.Ending renaming returned→y
open Option renaming none→B,some→C
open Go.Lib renaming hid→D
open Go.Value renaming int→F,bool→U
open Go.IntKind renaming i64→G,u64→Z
open Go renaming World→H,Value→I,Calls→L,bodyPost_ret→X
open Go.Proofs.YtmfheghbgihdmaaGreat.Ms renaming new→J,frees_give→af,frees_len→ag,take→ax,frees_le→a0,has_iff→a5,top_lt→a6,give→bb,top→bd
open Int renaming eq_ofNat_of_zero_le→M
open Bool renaming false→N,true→W
open Go.Addr renaming mk→O
open Go.Proofs.YtmfheghbgihdmaaGreat renaming Has→S,Ms→Y,Agree→al,Pure→an,may→a3,Same→a4,over→a7
open Go.Proofs.YtmfheghbgihdmaaGreat.Ext renaming refl→T
open Go.World renaming size_alloc→V
open Tryz
open Go.RowKit
set_option maxRecDepth 100000
def tableZero:I:= .agg #[U N,F Z 0,F Z 0,F Z 0,F Z 0,F Z 0,F Z 0,F Z 0,F Z 0]
theorem qC:(prog.info? 166).map (fun i=>(i.zero,i.size,i.bytes))=C (C tableZero,9,72):=by kernel_rfl
theorem xu(j:Nat):j % 9=0∨j % 9=1∨j % 9=2∨j % 9=3∨j % 9=4∨j % 9=5∨j % 9=6∨j % 9=7∨j % 9=8:=by omega
theorem uY(n j:Nat):tableZero.cells[j % 9]! =fc (J n) j:=by
 unfold fc J;dsimp only;rcases xu j with h|h|h|h|h|h|h|h|h<;>rw[h]<;>rfl
theorem pm(n k:Nat)(h:k<n):(List.range' (n - (k+1)) (k+1)).reverse =(List.range' (n - k) k).reverse ++[n - 1 - k]:=by
 rw[Ms.range'_rev,show n - (k+1)+1=n - k by omega,show n - (k+1)=n - 1 - k by omega]
theorem uZ(n:Int)(w:H)(h:¬(0≤n∧n≤128)):
  L prog 51 #[.int .i64 n] w (an (.tuple #[.pointer B,.agg #[F G 1,F G (-1)]]) w):=by
 have b2:=aq (Has.new (aT w) #[F G 1,F G (-1)] 27).right ((T w).alloc (.cells #[F G 1,F G (-1)] 27));by_cases h0:n<0
 ·go_enter func51,ntmps51
  go_wp2;exact X (v:= .tuple #[.pointer B,.agg #[F G 1,F G (-1)]]) (by simp[results,results51,go_sem]) rfl ⟨rfl,b2⟩
 ·have h8:128<n:=by omega
  go_enter func51,ntmps51;go_wp2;exact X (v:= .tuple #[.pointer B,.agg #[F G 1,F G (-1)]]) (by simp[results,results51,go_sem]) rfl ⟨rfl,b2⟩
theorem oa(n:Nat)(hn:n≤128)(w:H):(Instr.makeSlice 161 (.int .i64 (n:Int)) (.int .i64 (n:Int))).run prog w= .ok (.slice (C (O w.heap.size 0 B)) n n) (w.alloc (.cells (bm (n*9) (fc (J n))) 166)):=by
 rw[gD (P:=prog) 161 166 tableZero 9 72 underlying161 qC rfl n (by omega) (by omega) w,jv (fun j _=>uY n j)]
theorem po(n:Nat)(hn:n≤128)(R:ab)(w:H)(h:S w R):
  L prog 51 #[.int .i64 n] w fun e w'=>∃p g vf,cI (.tuple #[.pointer (C (O p 0 B)),.agg #[F G 0,F G 0]]) (bR p g vf (J n) R) w e w':=by
 have hmk:=oa n hn;have h1:=h.new #[F G 0,F G 0] 27;have h2:=h1.new (bm (n*9) (fc (J n))) 166;have h3:=h2.new #[.slice (C ⟨w.heap.size+1,0,B⟩) n n,.slice B 0 0] 163;have x3:=(((T w).alloc (.cells #[F G 0,F G 0] 27)).alloc (.cells (bm (n*9) (fc (J n))) 166)).alloc (.cells #[.slice (C ⟨w.heap.size+1,0,B⟩) n n,.slice B 0 0] 163);simp only[V] at h2 h3;have h4:S (((w.alloc (.cells #[F G 0,F G 0] 27)).alloc (.cells (bm (n*9) (fc (J n))) 166)).alloc (.cells #[.slice (C ⟨w.heap.size+1,0,B⟩) n n,.slice B 0 0] 163))
   (bZ 3 1 (.slice B 0 0) 0 (fO (List.range' (n - 0) 0).reverse)*(aa (w.heap.size+1+1) #[.slice (C ⟨w.heap.size+1,0,B⟩) n n,.slice B 0 0] 163*(aa (w.heap.size+1) (bm (n*9) (fc (J n))) 166*(aa w.heap.size #[F G 0,F G 0] 27*R)))):=
  Has.rowNil h3
 clear h1 h2 h3;go_enter func51,ntmps51;go_wp2;go_loopw [18] (fun t wz=>∃(j:Nat) (A:Option Addr) (c:Nat),j≤n∧t=F G j∧
   S wz (bZ 3 1 (.slice A j c) j (fO (List.range' (n - j) j).reverse)*(aa (w.heap.size+1+1) #[.slice (C ⟨w.heap.size+1,0,B⟩) n n,.slice A j c] 163*(aa (w.heap.size+1) (bm (n*9) (fc (J n))) 166*(aa w.heap.size #[F G 0,F G 0] 27*R))))∧Ext w wz)
  (fun t _=>n - (intOf t).toNat)
 case atStart=>exact⟨0,B,0,by omega,rfl,h4,x3⟩
 case round=>
  obtain⟨j,A,c,hj,rfl,hz,hx⟩:=hrel;clear h4 x3;obtain⟨c0,c1⟩:=hz.right.cells2;have e0:=hz.right.lt;have e1:=hz.r3.lt;by_cases hjn:j<n
  ·have hp:=D (pm n j hjn)
   have hrow:=hz.alloc (.cells #[F G (((n - 1 - j:Nat)):Int)] 3);have hv:(((n - 1 - j:Nat)):Int)=(n:Int) - 1 - j:=by omega
   rw[hv] at hrow;go_wp2_with(at_builtin;refine aW rfl _ _ 45 rfl underlying45 gr _ _ _ rfl hrow (O wr.heap.size 0 B) 1 1 [F G ((n:Int) - 1 - j)] rfl rfl (eO _ _ _) ?c1 ?c2 ?c3 ?_)
   case c1=>intro u hu;simp at hu;subst hu;rfl
   case c2=>unfold maxLen;omega
   case c3=>omega
   intro v' w2 h' x';obtain⟨A',c',rfl⟩:=h'.rowForm;have g0:=h'.right.lt;have g1:=h'.right.free 1;have g2:=h'.right.cells2.1;have g3:=h'.right.cells2.2;have h5:=(h'.p2.set 1 (.slice A' (j+1) c')).p2;go_wp2;go_roundw
   case rel=>
    refine⟨j+1,A',c',by omega,by go_num,?_,ah⟩;rw[hp.out];simpa [fO,hv] using h5
   case measure=>simp[intOf];omega
  ·obtain rfl:j=n:=by omega
   have h6:S wr (aa w.heap.size #[F G 0,F G 0] 27*(aa (w.heap.size+1+1) #[.slice (C ⟨w.heap.size+1,0,B⟩) j j,.slice A j c] 163*(aa (w.heap.size+1) (bm (j*9) (fc (J j))) 166*(bZ 3 1 (.slice A j c) j (fO (List.range' (j - j) j).reverse)*R)))):=hz.eq (by(simp only[aG,ar,bj]));have f0:=h6.free 0;have f1:=h6.free 1;obtain⟨d0,d1⟩:=h6.cells2;have h7:=(h6.set 0 (F G 0)).set 1 (F G 0);obtain⟨k0,k1⟩:=h7.cells2;have h8:=h7.right;have hfr:(J j).frees =(List.range' (j - j) j).reverse :=by rw[Ms.frees_new,Nat.sub_self]
   have HF:=D hfr;clear hfr;go_wp2;refine X (v:= .tuple #[.pointer (C ⟨w.heap.size+1+1,0,B⟩),.agg #[F G 0,F G 0]]) (by simp[results,results51,go_sem,d0,d1]) rfl ⟨w.heap.size+1+1,w.heap.size+1,.slice A j c,rfl,?_,ah⟩;unfold bR;rw[HF.out];have e:(List.range' (j - j) j).reverse.length =j:=by simp
   rw[e];exact h8
def wc(s:Y):Nat→I:=fun j=>F Z (s.wd (j / 8) (j % 8))
def tc(s:Y):Nat→I:=fun j=>U (s.tk j)
def da(q gw gi:Nat)(vk:I)(s:Y)(R:ab):ab:=
 aa q #[.slice (C (O gw 0 B)) s.n s.n,.slice (C (O gi 0 B)) s.n s.n,vk,F G (s.next:Nat)] 141*
  (aa gw (bm (s.n*8) (wc s)) 164*(aa gi (bm s.n (tc s)) 4*(bZ 3 1 vk s.back.length (fO s.back)*R)))
theorem iV(q gw gi:Nat)(vk:I)(s:Y)(k:Int)(R:ab)(w:H)(h:S w (da q gw gi vk s R)):
  L prog 119 #[.pointer (C (O q 0 B)),.int .i64 k] w (a4 (U (s.has k)) w):=by
 obtain⟨c0,c1,c2,c3⟩:=h.cells4;by_cases h0:0≤k
 ·by_cases h4:k<s.n
  ·obtain⟨k,rfl⟩:=M h0
   have hc:w.cell? (O gi k B)=C (U (s.tk k)):=h.right.right.tabGet (j:=k) (by omega);have hy:=D (qu (s:=s) (k:=k) (by omega));have hg:=h.right.right.lt;go_enter func119,ntmps119;go_wp2;go_ret;exact⟨by rw[hy.out];rfl,rfl⟩
  ·have hy:=D (nP (s:=s) (k:=k) (by omega))
   go_enter func119,ntmps119;go_wp2;go_ret;exact⟨by rw[hy.out];rfl,rfl⟩
 ·have hy:=D (nP (s:=s) (k:=k) (by omega))
  go_enter func119,ntmps119;go_wp2;go_ret;exact⟨by rw[hy.out];rfl,rfl⟩
theorem ob(q gw gi:Nat)(vk:I)(s:Y)(R:ab)(w:H)(h:S w (da q gw gi vk s R))(hle:s.next≤s.n)(hn:s.n≤1000)(hb:s.back.length≤1000000):
  L prog 26 #[.pointer (C (O q 0 B))] w (an (F G (s.frees.length:Nat)) w):=by
 obtain⟨A,c,rfl⟩:=h.r3.rowForm;obtain⟨c0,c1,c2,c3⟩:=h.cells4;have v0:=ae c0;have v1:=ae c1;have v2:=ae c2;have v3:=ae c3;have hy:=D (show((s.frees.length:Nat):Int)=s.back.length+s.n - s.next by rw[ag];omega);go_enter func26,ntmps26;go_wp2;refine ap (by kernel_rfl) (by kernel_rfl) ?_;repeat(first|go_big_quiet_step (fail)|quiet_step (fail))
 refine wpQuiet_nil ?_;intro _ hw';obtain⟨uq,hw''⟩:=hw';subst hw'';go_wp2;go_ret;exact⟨by rw[hy.out];rfl,aB _ _⟩
theorem p8(s:Y)(k j:Nat):bU (tc s) k (U W) j=tc (s.take k) j:=by
 unfold bU tc ax;dsimp only;unfold bU;by_cases h:j=k
 ·rw[if_pos h,if_pos h]
 ·rw[if_neg h,if_neg h]
theorem p9(s:Y)(k:Nat)(j:Nat):
  bU (bU (bU (bU (bU (bU (bU (bU (wc s) (k*8) (F Z 0)) (k*8+1) (F Z 0)) (k*8+2) (F Z 0)) (k*8+3) (F Z 0)) (k*8+4) (F Z 0)) (k*8+5) (F Z 0)) (k*8+6) (F Z 0)) (k*8+7) (F Z 0) j=wc (s.take k) j:=by
 unfold bU wc ax;dsimp only;by_cases h:j / 8=k
 ·rw[if_pos h]
  by_cases h7:j=k*8+7
  ·rw[if_pos h7]
  by_cases h6:j=k*8+6
  ·rw[if_neg h7,if_pos h6]
  by_cases h5:j=k*8+5
  ·rw[if_neg h7,if_neg h6,if_pos h5]
  by_cases h4:j=k*8+4
  ·rw[if_neg h7,if_neg h6,if_neg h5,if_pos h4]
  by_cases h3:j=k*8+3
  ·rw[if_neg h7,if_neg h6,if_neg h5,if_neg h4,if_pos h3]
  by_cases h2:j=k*8+2
  ·rw[if_neg h7,if_neg h6,if_neg h5,if_neg h4,if_neg h3,if_pos h2]
  by_cases h1:j=k*8+1
  ·rw[if_neg h7,if_neg h6,if_neg h5,if_neg h4,if_neg h3,if_neg h2,if_pos h1]
  by_cases h0:j=k*8
  ·rw[if_neg h7,if_neg h6,if_neg h5,if_neg h4,if_neg h3,if_neg h2,if_neg h1,if_pos h0]
  omega
 ·rw[if_neg (by omega),if_neg (by omega),if_neg (by omega),if_neg (by omega),if_neg (by omega),if_neg (by omega),if_neg (by omega),if_neg (by omega),if_neg h]
theorem ns(q gw gi:Nat)(vk:I)(s:Y)(R:ab)(w:H)(h:S w (da q gw gi vk s R))(hk:s.top=B):
  L prog 57 #[.pointer (C (O q 0 B))] w (an (F G (-1)) w):=by
 have hb:s.back=[]∧s.n≤s.next:=by
  unfold bd at hk;cases hl:s.back.getLast? with
  |some x=>rw[hl] at hk;cases hk
  |none=>
   rw[hl] at hk;simp only at hk;split at hk
   ·cases hk
   ·exact⟨by simpa using hl,by omega⟩
 obtain⟨hb,hle⟩:=hb;obtain⟨A,c,rfl⟩:=h.r3.rowForm;have hn:s.back.length=0:=by rw[hb];rfl
 obtain⟨c0,c1,c2,c3⟩:=h.cells4;rw[hn] at c2;have v0:=ae c0;have v1:=ae c1;have v3:=ae c3;go_enter func57,ntmps57;go_wp2;refine ap (by kernel_rfl) (by kernel_rfl) ?_;repeat(first|go_big_quiet_step (fail)|quiet_step (fail))
 refine wpQuiet_nil ?_;intro _ hw';obtain⟨uq,hw''⟩:=hw';subst hw'';go_wp2;go_ret;exact⟨rfl,aB _ _⟩
theorem nt(q gw gi:Nat)(vk:I)(s:Y)(k:Nat)(R:ab)(w:H)(h:S w (da q gw gi vk s R))(hk:s.back.getLast?=C k)(hn:k<s.n):
  L prog 57 #[.pointer (C (O q 0 B))] w fun e w'=>∃vk',cI (F G k) (da q gw gi vk' (s.take k) R) w e w':=by
 have hne:s.back≠[]:=by rintro e;rw[e] at hk;cases hk
 have hfr:=dl hk;have hnx:(s.take k).next =s.next:=by simp[ax,hne]
 have hbk:(s.take k).back =s.back.dropLast:=rfl;obtain⟨m,hm⟩:∃m,s.back.length=m+1:=⟨s.back.dropLast.length,by rw[←hfr];simp⟩;have hm':s.back.dropLast.length=m:=by rw[←hfr] at hm;simpa using hm
 have hlast:s.back[m]? =C k:=by rw[←hfr,←hm'];simp
 have hints:(fO s.back).take m=fO s.back.dropLast:=by
  have e1:fO s.back=fO s.back.dropLast++[F G (k:Int)]:=by rw[←hfr];simp[fO]
  rw[e1,←hm'];simp[fO]
 obtain⟨c0,c1,c2,c3⟩:=h.cells4;have e0:=h.lt;have f2:=h.free 2;have h1:S w (bZ 3 1 vk (m+1) (fO s.back)*(aa q #[.slice (C (O gw 0 B)) s.n s.n,.slice (C (O gi 0 B)) s.n s.n,vk,F G (s.next:Nat)] 141*
   (aa gw (bm (s.n*8) (wc s)) 164*(aa gi (bm s.n (tc s)) 4*R)))):=by
  have:=h;unfold da at this;rw[hm] at this;exact this.eq (by(simp only[aG,ar,bj]))
 have n1:=h.ne;have n2:q≠gi:=h.in2.ne;have n3:gw≠gi:=h.right.ne;obtain⟨gb,cap,rfl,hcap,hcap2,hgb,hx⟩:=h1.rowHead;have hx':=hx _ (oW hlast);have hm63:m+1≤9223372036854775807:=by unfold maxLen at hcap2;omega
 have h2:=h1.rowPop.p2.set 2 (.slice (C (O gb 0 B)) m cap);have h3:=h2.a2.p2.a2.p2;have hg:=h3.lt;have i0:=h3.tabGet (j:=k) hn;have i1:=h3.free k;have hW:=((h3.tabSet k (U W)).tabExt (f':=tc (s.take k)) fun j _=>p8 s k j).p2.a1;have e1:=hW.lt;have t0:=hW.tabGet (j:=k*8) (by omega);have z0:=hW.free (k*8);have t1:=hW.tabGet (j:=k*8+1) (by omega);have z1:=hW.free (k*8+1);have t2:=hW.tabGet (j:=k*8+2) (by omega);have z2:=hW.free (k*8+2);have t3:=hW.tabGet (j:=k*8+3) (by omega);have z3:=hW.free (k*8+3);have t4:=hW.tabGet (j:=k*8+4) (by omega);have z4:=hW.free (k*8+4);have t5:=hW.tabGet (j:=k*8+5) (by omega);have z5:=hW.free (k*8+5);have t6:=hW.tabGet (j:=k*8+6) (by omega);have z6:=hW.free (k*8+6);have t7:=hW.tabGet (j:=k*8+7) (by omega);have z7:=hW.free (k*8+7);have h4:=(((((((hW.tabSet (k*8) (F Z 0)).tabSet (k*8+1) (F Z 0)).tabSet (k*8+2) (F Z 0)).tabSet (k*8+3) (F Z 0)).tabSet (k*8+4) (F Z 0)).tabSet (k*8+5) (F Z 0)).tabSet (k*8+6) (F Z 0)).tabSet (k*8+7) (F Z 0);have h5:=(h4.tabExt (f':=wc (s.take k)) fun j _=>p9 s k j).p2.a1.in2.in3;clear h1 h2 h4;go_enter func57,ntmps57;go_wp2;go_ret;refine⟨.slice (C (O gb 0 B)) m cap,rfl,?_,((((((((((T w).set _ _).set _ _).set _ _).set _ _).set _ _).set _ _).set _ _).set _ _).set _ _).set _ _⟩;unfold da;rw[hnx,hbk,hm',←hints];exact h5
theorem nu(q gw gi:Nat)(vk:I)(s:Y)(R:ab)(w:H)(h:S w (da q gw gi vk s R))(hb:s.back=[])(hn:s.next<s.n)(hn2:s.n≤1000):
  L prog 57 #[.pointer (C (O q 0 B))] w fun e w'=>∃vk',cI (F G (s.next:Nat)) (da q gw gi vk' (s.take s.next) R) w e w':=by
 have hnx:(s.take s.next).next =s.next+1:=by simp[ax,hb]
 have hbk:(s.take s.next).back =[]:=by simp[ax,hb]
 obtain⟨A,c,rfl⟩:=h.r3.rowForm;unfold da at h;rw[hb] at h;dsimp only[List.length_nil] at h;obtain⟨c0,c1,c2,c3⟩:=h.cells4;have v0:=ae c0;have v1:=ae c1;have v3:=ae c3;go_enter func57,ntmps57;go_wp2;refine ap (by kernel_rfl) (by kernel_rfl) ?_;repeat(first|go_big_quiet_step (fail)|quiet_step (fail))
 refine wpQuiet_nil ?_;intro _ hw';obtain⟨uq,hw''⟩:=hw';subst hw'';have hv:=h.via uq;have xv:=(T w).below (aB w uq);generalize fJ w uq=w1 at*
 clear v0 v1 v3 c0 c1 c2 c3 h;obtain⟨c0,c1,c2,c3⟩:=hv.cells4;have e0:=hv.lt;have f3:=hv.free 3;have n1:=hv.ne;have n2:q≠gi:=hv.in2.ne;have n3:gw≠gi:=hv.right.ne;have h2:=hv.set 3 (F G ((s.next+1:Nat):Int));rw[show(((s.next+1:Nat)):Int)=(s.next:Int)+1 by omega] at h2;have h3:=h2.in2.p2;have hg:=h3.lt;have i0:=h3.tabGet (j:=s.next) hn;have i1:=h3.free s.next;have hW:=((h3.tabSet s.next (U W)).tabExt (f':=tc (s.take s.next)) fun j _=>p8 s s.next j).in2.p2;have e1:=hW.lt;have t0:=hW.tabGet (j:=s.next*8) (by omega);have z0:=hW.free (s.next*8);have t1:=hW.tabGet (j:=s.next*8+1) (by omega);have z1:=hW.free (s.next*8+1);have t2:=hW.tabGet (j:=s.next*8+2) (by omega);have z2:=hW.free (s.next*8+2);have t3:=hW.tabGet (j:=s.next*8+3) (by omega);have z3:=hW.free (s.next*8+3);have t4:=hW.tabGet (j:=s.next*8+4) (by omega);have z4:=hW.free (s.next*8+4);have t5:=hW.tabGet (j:=s.next*8+5) (by omega);have z5:=hW.free (s.next*8+5);have t6:=hW.tabGet (j:=s.next*8+6) (by omega);have z6:=hW.free (s.next*8+6);have t7:=hW.tabGet (j:=s.next*8+7) (by omega);have z7:=hW.free (s.next*8+7);have h4:=(((((((hW.tabSet (s.next*8) (F Z 0)).tabSet (s.next*8+1) (F Z 0)).tabSet (s.next*8+2) (F Z 0)).tabSet (s.next*8+3) (F Z 0)).tabSet (s.next*8+4) (F Z 0)).tabSet (s.next*8+5) (F Z 0)).tabSet (s.next*8+6) (F Z 0)).tabSet (s.next*8+7) (F Z 0);have h5:=(h4.tabExt (f':=wc (s.take s.next)) fun j _=>p9 s s.next j);clear h2 h4 h3;go_wp2;go_ret;refine⟨.slice A 0 c,rfl,?_,((((((((((xv.set _ _).set _ _).set _ _).set _ _).set _ _).set _ _).set _ _).set _ _).set _ _).set _ _)⟩;unfold da;rw[hnx,hbk];have h6:=h5.in2.p2;exact h6
theorem oc(q gw gi:Nat)(vk:I)(s:Y)(k:Nat)(R:ab)(w:H)(h:S w (da q gw gi vk s R))(i:s.Inv)(hn2:s.n≤1000)(hk:s.top=C k):
  L prog 57 #[.pointer (C (O q 0 B))] w fun e w'=>∃vk',cI (F G k) (da q gw gi vk' (s.take k) R) w e w':=by
 have hlt:=a6 i hk;cases hb:s.back.getLast? with
 |some x=>
  have:x=k:=by unfold bd at hk;rw[hb] at hk;simpa using hk
  subst this;exact nt q gw gi vk s x R w h hb hlt.1
 |none=>
  have he:s.back=[]:=by simpa using hb
  have:s.next<s.n∧s.next=k:=by
   unfold bd at hk;rw[hb] at hk;simp only at hk;split at hk
   ·exact⟨by assumption,by simpa using hk⟩
   ·cases hk
  obtain⟨h1,rfl⟩:=this;exact nu q gw gi vk s R w h he h1 hn2
theorem tO(s:Y)(k j:Nat):bU (tc s) k (U N) j=tc (s.give k) j:=by
 unfold bU tc bb;dsimp only;unfold bU;by_cases h:j=k
 ·rw[if_pos h,if_pos h]
 ·rw[if_neg h,if_neg h]
theorem pp(q gw gi:Nat)(vk:I)(s:Y)(k:Int)(R:ab)(w:H)(h:S w (da q gw gi vk s R))(hk:s.has k=N):
  L prog 127 #[.pointer (C (O q 0 B)),.int .i64 k] w (a4 (U N) w):=by
 go_enter func127,ntmps127;go_wp2_with(go_at_call 119;refine(iV q gw gi vk s _ _ _ h).mono ?_;rintro e w' ⟨rfl,rfl⟩)
 go_ret;exact⟨rfl,rfl⟩
theorem od(q gw gi:Nat)(vk:I)(s:Y)(k:Nat)(R:ab)(w:H)(h:S w (da q gw gi vk s R))(hk:s.has k=W)(hlen:s.back.length<1000000):
  L prog 127 #[.pointer (C (O q 0 B)),.int .i64 k] w fun e w'=>∃vk',cI (U W) (da q gw gi vk' (s.give k) R) w e w':=by
 obtain⟨k0,k1,_⟩:=a5.1 hk;obtain⟨c0,c1,c2,c3⟩:=h.cells4;obtain⟨A,c,rfl⟩:=h.r3.rowForm;have e0:=h.lt;have e1:=h.right.right.lt;have hc:=h.right.right.tabGet (j:=k) (by omega);have hf:=h.right.right.free k;have hne:q≠gi:=h.in2.ne;have h2:=((h.in2.p2.tabSet k (U N)).tabExt (f':=tc (s.give k)) fun j _=>tO s k j);have h3:S (w.setCell (O gi k B) (U N)) (bZ 3 1 (.slice A s.back.length c) s.back.length (fO s.back)*(aa q #[.slice (C (O gw 0 B)) s.n s.n,.slice (C (O gi 0 B)) s.n s.n,.slice A s.back.length c,F G (s.next:Nat)] 141*
   (aa gw (bm (s.n*8) (wc s)) 164*(aa gi (bm s.n (tc (s.give k))) 4*R)))):=h2.eq (by(simp only[aG,ar,bj]))
 obtain⟨d0,d1,d2,d3⟩:=h3.right.cells4;have e2:=h3.right.lt;have hrow:=h3.alloc (.cells #[F G k] 3);have hlen':(s.give k).back.length =s.back.length+1:=by simp[bb]
 have hints:fO (s.give k).back =fO s.back++[F G (k:Int)]:=by simp[bb,fO]
 have hnews:=eO (w.setCell (O gi k B) (U N)) (F G k) 3;rw[show(w.setCell (O gi k B) (U N)).heap.size =w.heap.size by simp[World.setCell]] at hnews;have HT:=fun k'=>iV q gw gi _ s k' _ _ h;generalize s.back.length=m at*
 have hL:=D hlen';clear h h2 hlen';go_enter func127,ntmps127;go_wp2_with(first|(go_at_call 119;refine(HT _).mono ?_;rintro e w' ⟨rfl,rfl⟩)|(at_builtin;refine aW rfl _ _ 45 rfl underlying45 gr _ _ _ rfl hrow (O w.heap.size 0 B) 1 1 [F G k] rfl rfl hnews ?c1 ?c2 ?c3 ?_))
 case c1=>intro u hu;simp at hu;subst hu;rfl
 case c2=>unfold maxLen;omega
 case c3=>omega
 intro v' w2 h' x';obtain⟨A',c',rfl⟩:=h'.rowForm;have g0:=h'.right.lt;have g1:=h'.right.free 2;obtain⟨y0,y1,y2,y3⟩:=h'.right.cells4;have h5:=(h'.p2.set 2 (.slice A' (m+1) c')).in2.in3;clear hrow d0 d1 d2 d3 e2 h3;go_wp2;go_ret;refine⟨.slice A' (m+1) c',rfl,?_,ah⟩;unfold da;rw[hL.out,hints];exact h5
def wordsZero:I:= .agg #[F Z 0,F Z 0,F Z 0,F Z 0,F Z 0,F Z 0,F Z 0,F Z 0]
theorem qD:(prog.info? 164).map (fun i=>(i.zero,i.size,i.bytes))=C (C wordsZero,8,64):=by kernel_rfl
theorem rR:(prog.info? 4).map (fun i=>(i.zero,i.size,i.bytes))=C (C (U N),1,1):=by kernel_rfl
theorem wn(j:Nat):j % 8=0∨j % 8=1∨j % 8=2∨j % 8=3∨j % 8=4∨j % 8=5∨j % 8=6∨j % 8=7:=by omega
theorem x00(n j:Nat):wordsZero.cells[j % 8]! =wc (J n) j:=by
 unfold wc J;dsimp only;rcases wn j with h|h|h|h|h|h|h|h<;>rw[h]<;>rfl
theorem pq(n:Nat)(hn:n≤128)(w:H):(Instr.makeSlice 139 (.int .i64 (n:Int)) (.int .i64 (n:Int))).run prog w= .ok (.slice (C (O w.heap.size 0 B)) n n) (w.alloc (.cells (bm (n*8) (wc (J n))) 164)):=by
 rw[gD (P:=prog) 139 164 wordsZero 8 64 underlying139 qD rfl n (by omega) (by omega) w,jv (fun j _=>x00 n j)]
theorem lu(n:Nat)(hn:n≤128)(w:H):(Instr.makeSlice 50 (.int .i64 (n:Int)) (.int .i64 (n:Int))).run prog w= .ok (.slice (C (O w.heap.size 0 B)) n n) (w.alloc (.cells (bm n (tc (J n))) 4)):=by
 rw[gD (P:=prog) 50 4 (U N) 1 1 underlying50 rR rfl n (by omega) (by omega) w,Nat.mul_one,jv (f:=fun j=>(U N).cells[j % 1]!) (g:=tc (J n)) (fun j _=>by
  show(U N).cells[j % 1]! =U N;rw[Nat.mod_one];rfl)]
theorem pt(n:Nat)(hn:n≤128)(R:ab)(w:H)(h:S w R):
  L prog 56 #[.int .i64 n] w fun e w'=>∃q gw gi vk,cI (.pointer (C (O q 0 B))) (da q gw gi vk (J n) R) w e w':=by
 have hW:=pq n hn;have hB:=lu n hn;go_enter func56,ntmps56;go_wp2;go_region
 ·have h1:=h.new (bm (n*8) (wc (J n))) 164
  have h2:=h1.new (bm n (tc (J n))) 4;have h3:=h2.new #[.slice (C (O w.heap.size 0 B)) n n,.slice (C ⟨w.heap.size+1,0,B⟩) n n,.slice B 0 0,F G 0] 141;have x3:=(((T w).alloc (.cells (bm (n*8) (wc (J n))) 164)).alloc (.cells (bm n (tc (J n))) 4)).alloc (.cells #[.slice (C (O w.heap.size 0 B)) n n,.slice (C ⟨w.heap.size+1,0,B⟩) n n,.slice B 0 0,F G 0] 141);simp only[V] at h2 h3;have h4:=Has.rowNil (e:=3) (size:=1) h3;have h5:=h4.p2.in2.in3;have h6:=h5.in2;go_wp2;go_ret;exact⟨_,w.heap.size,w.heap.size+1,.slice B 0 0,rfl,h6.drew,x3.drew⟩
 ·have h1:=h.new (bm n (tc (J n))) 4
  have h2:=h1.new (bm (n*8) (wc (J n))) 164;have h3:=h2.new #[.slice (C ⟨w.heap.size+1,0,B⟩) n n,.slice (C (O w.heap.size 0 B)) n n,.slice B 0 0,F G 0] 141;have x3:=(((T w).alloc (.cells (bm n (tc (J n))) 4)).alloc (.cells (bm (n*8) (wc (J n))) 164)).alloc (.cells #[.slice (C ⟨w.heap.size+1,0,B⟩) n n,.slice (C (O w.heap.size 0 B)) n n,.slice B 0 0,F G 0] 141);simp only[V] at h2 h3;have h4:=Has.rowNil (e:=3) (size:=1) h3;have h5:=h4.p2.in2.in3;go_wp2;go_ret;exact⟨_,w.heap.size+1,w.heap.size,.slice B 0 0,rfl,h5.drew,x3.drew⟩
theorem cU(s:Int)(w:H):L prog 173 #[.int .i64 s] w (a4 (F G (bn s)) w):=by
 unfold bn;by_cases h0:s=0
 ·subst h0
  go_enter func173,ntmps173;go_wp2;go_ret;exact⟨rfl,rfl⟩
 by_cases h1:s=1
 ·subst h1
  go_enter func173,ntmps173;go_wp2;go_ret;exact⟨rfl,rfl⟩
 by_cases h2:s=2
 ·subst h2
  go_enter func173,ntmps173;go_wp2;go_ret;exact⟨rfl,rfl⟩
 rw[if_neg h0,if_neg h1,if_neg h2];go_enter func173,ntmps173;go_wp2;go_ret;exact⟨rfl,rfl⟩
theorem dm(p:Int)(w:H):L prog 158 #[.int .i64 p] w (a4 (U (cP p)) w):=by
 unfold cP;by_cases h0:0≤p
 ·go_enter func158,ntmps158
  go_wp2;go_ret;exact⟨by simp[h0],rfl⟩
 ·have hd:decide (0≤p)=N:=by simpa using h0
  go_enter func158,ntmps158;go_wp2;go_ret;exact⟨rfl,rfl⟩
theorem rS{m:Mp}{p:Int}(hm:cL m.page)(hp:cL p)(h:m.page≤p):
  decide (IntKind.u64.wrap (IntKind.u64.wrap p - IntKind.u64.wrap m.page)<IntKind.u64.wrap (bn m.size))=a7 m p:=by
 obtain⟨hm1,hm2⟩:=hm;obtain⟨hp1,hp2⟩:=hp;have hs:0≤bn m.size∧bn m.size≤64:=by unfold bn;split<;>(try split)<;>(try split)<;>omega
 have e:∀x:Int,IntKind.u64.wrap x=x % 18446744073709551616:=fun x=>by simp[IntKind.wrap,IntKind.signed,IntKind.bits]
 rw[e,e,e,e];unfold a7;have e1:(p % 18446744073709551616 - m.page % 18446744073709551616) % 18446744073709551616=p - m.page:=by omega
 have e2:bn m.size % 18446744073709551616=bn m.size:=by omega
 rw[e1,e2];simp[h]
theorem jF(m:Mp)(p:Int)(w:H)(hm:cL m.page)(hp:cL p):
  L prog 161 #[.agg #[F G m.page,F G m.size,F G m.frame,F G m.rights],.int .i64 p] w (an (U (a7 m p)) w):=by
 have hb:=Has.new (aT w) #[F G m.page,F G m.size,F G m.frame,F G m.rights] 39;obtain⟨c0,c1,c2,c3⟩:=hb.cells4;have v0:=ae c0;have v1:=ae c1;have bl:=(Below.refl w.heap.size w).alloc (Nat.le_refl _) (.cells #[F G m.page,F G m.size,F G m.frame,F G m.rights] 39);by_cases h0:m.page≤p
 ·have hy:=D (rS hm hp h0)
  go_enter func161,ntmps161;go_wp2;refine ap (by kernel_rfl) (by kernel_rfl) ?_;repeat(first|go_big_quiet_step ((go_at_call 173;exact Same.via (cU _ _)))|quiet_step ((go_at_call 173;exact Same.via (cU _ _))))
  refine wpQuiet_nil ?_;intro _ hw';obtain⟨uq,hw''⟩:=hw';subst hw'';go_wp2;go_ret;exact⟨by rw[←hy.out];rfl,bl.trans ((aB _ _).mono (by simp))⟩
 ·have hd:decide (m.page≤p)=N:=by simpa using h0
  have hy:=D (show a7 m p=N by unfold a7;rw[hd];rfl);go_enter func161,ntmps161;go_wp2;refine ap (by kernel_rfl) (by kernel_rfl) ?_;repeat(first|go_big_quiet_step (fail)|quiet_step (fail))
  refine wpQuiet_nil ?_;intro _ hw';obtain⟨uq,hw''⟩:=hw';subst hw'';go_wp2;go_ret;exact⟨by rw[hy.out];rfl,bl.trans ((aB _ _).mono (by simp))⟩
theorem oe(a b:Mp)(w:H)(ha:cL a.page)(hb:cL b.page):
  L prog 176 #[.agg #[F G a.page,F G a.size,F G a.frame,F G a.rights],.agg #[F G b.page,F G b.size,F G b.frame,F G b.rights]] w (an (U (du a b)) w):=by
 have h1:=Has.new (aT w) #[F G a.page,F G a.size,F G a.frame,F G a.rights] 39;have h2:=h1.new #[F G b.page,F G b.size,F G b.frame,F G b.rights] 39;have x2:=((T w).alloc (.cells #[F G a.page,F G a.size,F G a.frame,F G a.rights] 39)).alloc (.cells #[F G b.page,F G b.size,F G b.frame,F G b.rights] 39);simp only[V] at h2;go_enter func176,ntmps176;go_wp2_with fail
 refine(jF a b.page _ ha hb).mono ?_;rintro e w2 ⟨rfl,b2⟩;have h3:=h2.below b2;obtain⟨c0,c1,c2,c3⟩:=h3.cells4;obtain⟨d0,d1,d2,d3⟩:=h3.right.cells4;cases ho:a7 a b.page with
 |true=>
  have hy:=D (show du a b=W by unfold du;rw[ho];rfl);go_wp2_with fail
  go_ret;exact⟨by rw[hy.out];rfl,aq h3.right.right (x2.below b2)⟩
 |false=>
  go_wp2_with fail
  refine(jF b a.page _ hb ha).mono ?_;rintro e w3 ⟨rfl,b3⟩;have h4:=h3.below b3;have hy:=D (show du a b=a7 b a.page by unfold du;rw[ho];rfl);go_wp2_with fail
  go_ret;exact⟨by rw[hy.out];rfl,aq h4.right.right ((x2.below b2).below b3)⟩
theorem jG(m:Mp)(w:H):L prog 148 #[.agg #[F G m.page,F G m.size,F G m.frame,F G m.rights]] w (an (F G (ba m)) w):=by
 have h1:=Has.new (aT w) #[F G m.page,F G m.size,F G m.frame,F G m.rights] 39;have x1:=(T w).alloc (.cells #[F G m.page,F G m.size,F G m.frame,F G m.rights] 39);have bl:=aq h1.right x1;by_cases s0:bn m.size=0
 ·skip
  have hy:=D (show ba m=2 by unfold ba;rw[if_pos s0]);go_enter func148,ntmps148;go_wp2_with(first|(go_at_call 173;refine(cU _ _).mono ?_;rintro e w' ⟨rfl,rfl⟩)|(go_at_call 158;refine(dm _ _).mono ?_;rintro e w' ⟨rfl,rfl⟩))
  go_ret;exact⟨by rw[hy.out];rfl,bl⟩
 have s1:1≤bn m.size:=by unfold bn at*;split<;>(try split)<;>(try split)<;>simp_all
 have s0':(bn m.size==0)=N:=by simpa using s0
 by_cases hp:cP m.page=W
 ·have hp':0≤m.page∧m.page<4096:=by simpa [cP] using hp
  obtain⟨p0,p1⟩:=hp';by_cases f0:m.frame<0
  ·skip
   have hy:=D (show ba m=1 by unfold ba;rw[if_neg s0,if_pos (by omega)]);go_enter func148,ntmps148;go_wp2_with(first|(go_at_call 173;refine(cU _ _).mono ?_;rintro e w' ⟨rfl,rfl⟩)|(go_at_call 158;refine(dm _ _).mono ?_;rintro e w' ⟨rfl,rfl⟩))
   go_ret;exact⟨by rw[hy.out];rfl,bl⟩
  by_cases f1:1048576≤m.frame
  ·skip
   have hy:=D (show ba m=1 by unfold ba;rw[if_neg s0,if_pos (by omega)]);go_enter func148,ntmps148;go_wp2_with(first|(go_at_call 173;refine(cU _ _).mono ?_;rintro e w' ⟨rfl,rfl⟩)|(go_at_call 158;refine(dm _ _).mono ?_;rintro e w' ⟨rfl,rfl⟩))
   go_ret;exact⟨by rw[hy.out];rfl,bl⟩
  by_cases r0:m.rights<0
  ·skip
   have hy:=D (show ba m=1 by unfold ba;rw[if_neg s0,if_pos (by omega)]);go_enter func148,ntmps148;go_wp2_with(first|(go_at_call 173;refine(cU _ _).mono ?_;rintro e w' ⟨rfl,rfl⟩)|(go_at_call 158;refine(dm _ _).mono ?_;rintro e w' ⟨rfl,rfl⟩))
   go_ret;exact⟨by rw[hy.out];rfl,bl⟩
  by_cases r1:7<m.rights
  ·skip
   have hy:=D (show ba m=1 by unfold ba;rw[if_neg s0,if_pos (by omega)]);go_enter func148,ntmps148;go_wp2_with(first|(go_at_call 173;refine(cU _ _).mono ?_;rintro e w' ⟨rfl,rfl⟩)|(go_at_call 158;refine(dm _ _).mono ?_;rintro e w' ⟨rfl,rfl⟩))
   go_ret;exact⟨by rw[hy.out];rfl,bl⟩
  have hno:¬(m.page<0∨4096≤m.page∨m.frame<0∨1048576≤m.frame∨m.rights<0∨7<m.rights):=by omega
  have hn:=D hno;clear hno;cases q0:(m.page % bn m.size !=0) with
  |true=>
   have g:=D q0;have hy:=D (show ba m=3 by unfold ba;rw[if_neg s0,if_neg hn.out,if_pos (.inl (by simpa using g.out))]);go_enter func148,ntmps148;go_wp2_with(first|(go_at_call 173;refine(cU _ _).mono ?_;rintro e w' ⟨rfl,rfl⟩)|(go_at_call 158;refine(dm _ _).mono ?_;rintro e w' ⟨rfl,rfl⟩))
   go_ret;exact⟨by rw[hy.out];rfl,bl⟩
  |false=>
   cases q1:(m.frame % bn m.size !=0) with
   |true=>
    have g:=D q1;have hy:=D (show ba m=3 by unfold ba;rw[if_neg s0,if_neg hn.out,if_pos (.inr (by simpa using g.out))]);go_enter func148,ntmps148;go_wp2_with(first|(go_at_call 173;refine(cU _ _).mono ?_;rintro e w' ⟨rfl,rfl⟩)|(go_at_call 158;refine(dm _ _).mono ?_;rintro e w' ⟨rfl,rfl⟩))
    go_ret;exact⟨by rw[hy.out];rfl,bl⟩
   |false=>
    have g:=D q0;have g':=D q1;have hy:=D (show ba m=0 by unfold ba;rw[if_neg s0,if_neg hn.out,if_neg (by have a:=g.out;have b:=g'.out;simp at a b;omega)]);go_enter func148,ntmps148;go_wp2_with(first|(go_at_call 173;refine(cU _ _).mono ?_;rintro e w' ⟨rfl,rfl⟩)|(go_at_call 158;refine(dm _ _).mono ?_;rintro e w' ⟨rfl,rfl⟩))
    go_ret;exact⟨by rw[hy.out];rfl,bl⟩
 ·have hp0:cP m.page=N:=by simpa using hp
  have hp':=D (show m.page<0∨4096≤m.page by unfold cP at hp0;simp at hp0;omega);clear hp;have hy:=D (show ba m=1 by unfold ba;rw[if_neg s0,if_pos (by have:=hp'.out;omega)]);go_enter func148,ntmps148;go_wp2_with(first|(go_at_call 173;refine(cU _ _).mono ?_;rintro e w' ⟨rfl,rfl⟩)|(go_at_call 158;refine(dm _ _).mono ?_;rintro e w' ⟨rfl,rfl⟩))
  go_ret;exact⟨by rw[hy.out];rfl,bl⟩
theorem kw:∀n,0<aC n
 |0=>by simp[aC]
 |n+1=>by have:=kw n;unfold aC;omega
theorem rT(p:Int)(n:Nat):p / aC n / 8=p / aC (n+1):=by
 have h:=kw n;rw[Int.ediv_ediv_of_nonneg (by omega),show aC (n+1)=8*aC n from rfl,Int.mul_comm]
theorem og{p:Int}(h0:0≤p)(h1:p<4096)(n:Nat):0≤p / aC n∧p / aC n<4096:=by
 have h:=kw n;refine⟨Int.ediv_nonneg h0 (by omega),?_⟩;exact Int.lt_of_le_of_lt (Int.ediv_le_self _ h0) h1
theorem jH(p l:Int)(w:H):L prog 152 #[.int .i64 p,.int .i64 l] w (a4 (F G (am p l)) w):=by
 by_cases hp:cP p=W
 ·have hp':0≤p∧p<4096:=by simpa [cP] using hp
  obtain⟨p0,p1⟩:=hp';by_cases l0:0≤l
  ·by_cases l1:l<4
   ·obtain⟨l,rfl⟩:=M l0
    have hy:=D (show am p l=p / aC l % 8 by unfold am;rw[if_pos ⟨p0,p1,l0,l1⟩];simp);go_enter func152,ntmps152;go_wp2_with(first|(go_at_call 158;refine(dm _ _).mono ?_;rintro e w' ⟨rfl,rfl⟩))
    go_loop [0,17] (fun x t=>∃j:Nat,j≤l∧t=F G j∧x=F G (p / aC j)) (fun _ t=>l - (intOf t).toNat)
    case atStart=>exact⟨0,by omega,rfl,by simp[aC]⟩
    case round=>
     obtain⟨j,hj,rfl,rfl⟩:=hrel;obtain⟨b0,b1⟩:=og p0 p1 j;have hd:=D (rT p j);by_cases hjl:j<l
     ·go_wp2
      go_round
      case rel=>exact⟨j+1,by omega,by go_num,by rw[←hd.out]⟩
      case measure=>simp[intOf];omega
     ·obtain rfl:j=l:=by omega
      go_wp2;go_ret;exact⟨by rw[hy.out];rfl,rfl⟩
   ·have hy:=D (show am p l= -1 by unfold am;rw[if_neg (by omega)])
    go_enter func152,ntmps152;go_wp2_with(first|(go_at_call 158;refine(dm _ _).mono ?_;rintro e w' ⟨rfl,rfl⟩))
    go_ret;exact⟨by rw[hy.out];rfl,rfl⟩
  ·have hy:=D (show am p l= -1 by unfold am;rw[if_neg (by omega)])
   go_enter func152,ntmps152;go_wp2_with(first|(go_at_call 158;refine(dm _ _).mono ?_;rintro e w' ⟨rfl,rfl⟩))
   go_ret;exact⟨by rw[hy.out];rfl,rfl⟩
 ·have hp0:cP p=N:=by simpa using hp
  have hy:=D (show am p l= -1 by unfold am;rw[if_neg (by unfold cP at hp0;simp at hp0;omega)]);go_enter func152,ntmps152;go_wp2_with(first|(go_at_call 158;refine(dm _ _).mono ?_;rintro e w' ⟨rfl,rfl⟩))
  go_ret;exact⟨by rw[hy.out];rfl,rfl⟩
theorem fA(r:Int)(k:Nat)(hk:k<8):bits .and .i64 r (k:Int)=(((r % 8).toNat &&& k:Nat):Int):=by
 have h1:(BitVec.ofInt 64 r).toNat =(r % 18446744073709551616).toNat :=by simp[BitVec.toNat_ofInt]
 have h2:(BitVec.ofInt 64 (k:Int)).toNat =k:=by rw[BitVec.ofInt_natCast,BitVec.toNat_ofNat];omega
 have h3:((r % 18446744073709551616).toNat &&& k)=((r % 8).toNat &&& k):=by
  have hle:((r % 18446744073709551616).toNat &&& k)≤k:=Nat.and_le_right;have hle2:((r % 8).toNat &&& k)≤k:=Nat.and_le_right;have e1:((r % 18446744073709551616).toNat &&& k) % 2 ^ 3=((r % 18446744073709551616).toNat % 2 ^ 3)&&& (k % 2 ^ 3):=Nat.and_mod_two_pow;have e2:(r % 18446744073709551616).toNat % 2 ^ 3=(r % 8).toNat :=by omega
  rw[e2,Nat.mod_eq_of_lt (show k<2 ^ 3 by omega),Nat.mod_eq_of_lt (by omega)] at e1;exact e1
 show IntKind.i64.wrap ((BitVec.ofInt 64 r&&& BitVec.ofInt 64 (k:Int)).toNat :Int)=_;rw[BitVec.toNat_and,h1,h2,h3,IntKind.wrap_i64];have hle2:((r % 8).toNat &&& k)≤k:=Nat.and_le_right;omega
theorem oh(r:Int):r % 8=0∨r % 8=1∨r % 8=2∨r % 8=3∨r % 8=4∨r % 8=5∨r % 8=6∨r % 8=7:=by omega
theorem mO(r:Int):(bits .and .i64 r 1==1)=aK r 1:=by
 have h':bits .and .i64 r 1=(((r % 8).toNat &&& 1:Nat):Int):=fA r 1 (by omega);rw[h'];unfold aK;have e1:r / 1 % 2=r % 8 % 2:=by omega
 have e2:r / 2 % 2=r % 8 / 2 % 2:=by omega
 have e4:r / 4 % 2=r % 8 / 4 % 2:=by omega
 first|rw[e1,e2]|rw[e4,e2]|rw[e1]|rw[e2]|rw[e4]
 rcases oh r with h|h|h|h|h|h|h|h<;>rw[h]<;>rfl
theorem mP(r:Int):(bits .and .i64 r 2==2)=aK r 2:=by
 have h':bits .and .i64 r 2=(((r % 8).toNat &&& 2:Nat):Int):=fA r 2 (by omega);rw[h'];unfold aK;have e1:r / 1 % 2=r % 8 % 2:=by omega
 have e2:r / 2 % 2=r % 8 / 2 % 2:=by omega
 have e4:r / 4 % 2=r % 8 / 4 % 2:=by omega
 first|rw[e1,e2]|rw[e4,e2]|rw[e1]|rw[e2]|rw[e4]
 rcases oh r with h|h|h|h|h|h|h|h<;>rw[h]<;>rfl
theorem mQ(r:Int):(bits .and .i64 r 3==3)=(aK r 1&&aK r 2):=by
 have h':bits .and .i64 r 3=(((r % 8).toNat &&& 3:Nat):Int):=fA r 3 (by omega);rw[h'];unfold aK;have e1:r / 1 % 2=r % 8 % 2:=by omega
 have e2:r / 2 % 2=r % 8 / 2 % 2:=by omega
 have e4:r / 4 % 2=r % 8 / 4 % 2:=by omega
 first|rw[e1,e2]|rw[e4,e2]|rw[e1]|rw[e2]|rw[e4]
 rcases oh r with h|h|h|h|h|h|h|h<;>rw[h]<;>rfl
theorem mR(r:Int):(bits .and .i64 r 4==4)=aK r 4:=by
 have h':bits .and .i64 r 4=(((r % 8).toNat &&& 4:Nat):Int):=fA r 4 (by omega);rw[h'];unfold aK;have e1:r / 1 % 2=r % 8 % 2:=by omega
 have e2:r / 2 % 2=r % 8 / 2 % 2:=by omega
 have e4:r / 4 % 2=r % 8 / 4 % 2:=by omega
 first|rw[e1,e2]|rw[e4,e2]|rw[e1]|rw[e2]|rw[e4]
 rcases oh r with h|h|h|h|h|h|h|h<;>rw[h]<;>rfl
theorem mS(r:Int):(bits .and .i64 r 6==6)=(aK r 4&&aK r 2):=by
 have h':bits .and .i64 r 6=(((r % 8).toNat &&& 6:Nat):Int):=fA r 6 (by omega);rw[h'];unfold aK;have e1:r / 1 % 2=r % 8 % 2:=by omega
 have e2:r / 2 % 2=r % 8 / 2 % 2:=by omega
 have e4:r / 4 % 2=r % 8 / 4 % 2:=by omega
 first|rw[e1,e2]|rw[e4,e2]|rw[e1]|rw[e2]|rw[e4]
 rcases oh r with h|h|h|h|h|h|h|h<;>rw[h]<;>rfl
theorem mT(r:Int):(bits .and .i64 r 0==0)=W:=by
 have h':bits .and .i64 r 0=(((r % 8).toNat &&& 0:Nat):Int):=fA r 0 (by omega);rw[h',Nat.and_zero];rfl
theorem kU(r p k:Int)(u:Bool)(w:H):L prog 103 #[.int .i64 r,.agg #[F G p,F G k,U u]] w (an (U (a3 r ⟨p,k,u⟩)) w):=by
 have h1:=Has.new (aT w) #[F G p,F G k,U u] 41;have bl:=aq h1.right ((T w).alloc (.cells #[F G p,F G k,U u] 41));clear h1;by_cases k1:k=1
 ·subst k1
  cases u with
  |true=>
   have hy:=D (show a3 r ⟨p,1,W⟩=(aK r 1&&aK r 2) by unfold a3;simp);go_enter func103,ntmps103;go_wp2;go_ret;refine⟨?_,bl⟩;rw[hy.out];first|rfl|exact congrArg (fun b=>y (U b)) (mO r)|exact congrArg (fun b=>y (U b)) (mP r)|exact congrArg (fun b=>y (U b)) (mQ r)|exact congrArg (fun b=>y (U b)) (mR r)|exact congrArg (fun b=>y (U b)) (mS r)|exact congrArg (fun b=>y (U b)) (mT r)
  |false=>
   have hy:=D (show a3 r ⟨p,1,N⟩=(aK r 1) by unfold a3;simp);go_enter func103,ntmps103;go_wp2;go_ret;refine⟨?_,bl⟩;rw[hy.out];first|rfl|exact congrArg (fun b=>y (U b)) (mO r)|exact congrArg (fun b=>y (U b)) (mP r)|exact congrArg (fun b=>y (U b)) (mQ r)|exact congrArg (fun b=>y (U b)) (mR r)|exact congrArg (fun b=>y (U b)) (mS r)|exact congrArg (fun b=>y (U b)) (mT r)
 by_cases k2:k=2
 ·subst k2
  cases u with
  |true=>
   have hy:=D (show a3 r ⟨p,2,W⟩=(aK r 4&&aK r 2) by unfold a3;simp);go_enter func103,ntmps103;go_wp2;go_ret;refine⟨?_,bl⟩;rw[hy.out];first|rfl|exact congrArg (fun b=>y (U b)) (mO r)|exact congrArg (fun b=>y (U b)) (mP r)|exact congrArg (fun b=>y (U b)) (mQ r)|exact congrArg (fun b=>y (U b)) (mR r)|exact congrArg (fun b=>y (U b)) (mS r)|exact congrArg (fun b=>y (U b)) (mT r)
  |false=>
   have hy:=D (show a3 r ⟨p,2,N⟩=(aK r 4) by unfold a3;simp);go_enter func103,ntmps103;go_wp2;go_ret;refine⟨?_,bl⟩;rw[hy.out];first|rfl|exact congrArg (fun b=>y (U b)) (mO r)|exact congrArg (fun b=>y (U b)) (mP r)|exact congrArg (fun b=>y (U b)) (mQ r)|exact congrArg (fun b=>y (U b)) (mR r)|exact congrArg (fun b=>y (U b)) (mS r)|exact congrArg (fun b=>y (U b)) (mT r)
 have g1:(k==1)=N:=by simpa using k1
 have g2:(k==2)=N:=by simpa using k2
 cases u with
 |true=>
  have hy:=D (show a3 r ⟨p,k,W⟩=(aK r 2) by unfold a3;simp[k1,k2]);go_enter func103,ntmps103;go_wp2;go_ret;refine⟨?_,bl⟩;rw[hy.out];first|rfl|exact congrArg (fun b=>y (U b)) (mO r)|exact congrArg (fun b=>y (U b)) (mP r)|exact congrArg (fun b=>y (U b)) (mQ r)|exact congrArg (fun b=>y (U b)) (mR r)|exact congrArg (fun b=>y (U b)) (mS r)|exact congrArg (fun b=>y (U b)) (mT r)
 |false=>
  have hy:=D (show a3 r ⟨p,k,N⟩=(W) by unfold a3;simp[k1,k2]);go_enter func103,ntmps103;go_wp2;go_ret;refine⟨?_,bl⟩;rw[hy.out];first|rfl|exact congrArg (fun b=>y (U b)) (mO r)|exact congrArg (fun b=>y (U b)) (mP r)|exact congrArg (fun b=>y (U b)) (mQ r)|exact congrArg (fun b=>y (U b)) (mR r)|exact congrArg (fun b=>y (U b)) (mS r)|exact congrArg (fun b=>y (U b)) (mT r)
theorem eU(p k:Int)(u:Bool)(w:H):L prog 101 #[.agg #[F G p,F G k,U u]] w (an (F G (au ⟨p,k,u⟩)) w):=by
 have h1:=Has.new (aT w) #[F G p,F G k,U u] 41;have bl:=aq h1.right ((T w).alloc (.cells #[F G p,F G k,U u] 41));clear h1;by_cases k0:k<0
 ·have hy:=D (show au ⟨p,k,u⟩=2 by unfold au;rw[if_pos (by simp;omega)])
  go_enter func101,ntmps101;go_wp2;go_ret;exact⟨by rw[hy.out];rfl,bl⟩
 by_cases k2:2<k
 ·have hy:=D (show au ⟨p,k,u⟩=2 by unfold au;rw[if_pos (by simp;omega)])
  go_enter func101,ntmps101;go_wp2;go_ret;exact⟨by rw[hy.out];rfl,bl⟩
 cases hp:cP p with
 |true=>
  have hy:=D (show au ⟨p,k,u⟩=0 by
   unfold au;unfold cP at hp;simp at hp;rw[if_neg (by simp;omega),if_neg (by simp;omega)])
  go_enter func101,ntmps101;go_wp2_with(first|(go_at_call 158;refine(dm _ _).mono ?_;rintro e w' ⟨rfl,rfl⟩))
  go_ret;exact⟨by rw[hy.out];rfl,bl⟩
 |false=>
  have hy:=D (show au ⟨p,k,u⟩=1 by
   unfold au;unfold cP at hp;simp at hp;rw[if_neg (by simp;omega),if_pos (by simp;omega)])
  go_enter func101,ntmps101;go_wp2_with(first|(go_at_call 158;refine(dm _ _).mono ?_;rintro e w' ⟨rfl,rfl⟩))
  go_ret;exact⟨by rw[hy.out];rfl,bl⟩
theorem jZ(m:Mp)(p k:Int)(u:Bool)(w:H):
  L prog 104 #[.agg #[F G m.page,F G m.size,F G m.frame,F G m.rights],.agg #[F G p,F G k,U u]] w (an (bJ m ⟨p,k,u⟩).val w):=by
 have h1:=Has.new (aT w) #[F G m.page,F G m.size,F G m.frame,F G m.rights] 39;have h2:=h1.new #[F G p,F G k,U u] 41;have h3:=h2.new #[F G 0,F G 0,F G 0] 34;have x3:=(((T w).alloc (.cells #[F G m.page,F G m.size,F G m.frame,F G m.rights] 39)).alloc (.cells #[F G p,F G k,U u] 41)).alloc (.cells #[F G 0,F G 0,F G 0] 34);simp only[V] at h3;cases hm:a3 m.rights ⟨p,k,u⟩ with
 |true=>
  have hy:=D (show bJ m ⟨p,k,u⟩=⟨0,wrap64 (wrap64 (m.frame+p) - m.page),m.rights⟩ by unfold bJ;rw[hm];rfl);go_enter func104,ntmps104;go_wp2_with fail
  refine(kU _ _ _ _ _).mono ?_;rintro e w1 ⟨rfl,b1⟩;have h4:=h3.below b1;have e1:=h4.lt;obtain⟨c0,c1,c2⟩:=h4.cells3;obtain⟨d0,d1,d2⟩:=h4.right.cells3;obtain⟨m0,m1,m2,m3⟩:=h4.right.right.cells4;obtain⟨f0,f1,f2⟩:=h4.frees3;have h5:=((h4.set 0 (F G 0)).set 1 (F G (wrap64 (wrap64 (m.frame+p) - m.page)))).set 2 (F G m.rights);go_wp2_with fail
  exact X (v:= .agg #[F G 0,F G (wrap64 (wrap64 (m.frame+p) - m.page)),F G m.rights]) (by simp[results,results104,go_sem,c0,c1,c2]) rfl
   ⟨by rw[hy.out];rfl,aq h5.r3 (ah)⟩
 |false=>
  have hy:=D (show bJ m ⟨p,k,u⟩=⟨2,0,0⟩ by unfold bJ;rw[hm];rfl);go_enter func104,ntmps104;go_wp2_with fail
  refine(kU _ _ _ _ _).mono ?_;rintro e w1 ⟨rfl,b1⟩;have h4:=h3.below b1;have e1:=h4.lt;obtain⟨c0,c1,c2⟩:=h4.cells3;obtain⟨f0,f1,f2⟩:=h4.frees3;have h5:=((h4.set 0 (F G 2)).set 1 (F G 0)).set 2 (F G 0);go_wp2_with fail
  exact X (v:= .agg #[F G 2,F G 0,F G 0]) (by simp[results,results104,go_sem,c0,c1,c2]) rfl
   ⟨by rw[hy.out];rfl,aq h5.r3 (ah)⟩
instance:Std.Associative (α:=ab) (fun a b=>a*b):=⟨aG⟩
instance:Std.Commutative (α:=ab) (fun a b=>a*b):=⟨bj⟩
namespace Ms
def topV(s:Y):Int:=match s.top with|some k=>(k:Int)|none=> -1
def takeS(s:Y):Y:=match s.top with|some k=>s.take k|none=>s
def giveS(s:Y)(k:Int):Y:=if s.has k then s.give k.toNat else s
structure Ok (s:Y):Prop where
 inv:s.Inv
 small:s.n≤128
theorem takeS_n(s:Y):s.takeS.n=s.n:=by unfold takeS;split<;>rfl
theorem giveS_n(s:Y)(k:Int):(s.giveS k).n =s.n:=by unfold giveS;split<;>rfl
theorem Ok.new{n:Nat}(h:n≤128):(J n).Ok :=⟨Inv.new n,h⟩
theorem Ok.takeS{s:Y}(h:s.Ok):s.takeS.Ok:=by
 refine⟨?_,by rw[takeS_n];exact h.small⟩;unfold Ms.takeS;split
 ·rename_i k hk
  exact h.inv.take hk
 ·exact h.inv
theorem Ok.giveS{s:Y}(h:s.Ok)(k:Int):(s.giveS k).Ok :=by
 refine⟨?_,by rw[giveS_n];exact h.small⟩;unfold Ms.giveS;split
 ·rename_i hk
  exact h.inv.give (has_iff.1 hk).2.2
 ·exact h.inv
end Ms
def az(q:Nat)(s:Y):ab:=ex fun gw=>ex fun gi=>ex fun vk=>da q gw gi vk s (dN True)
section
variable {p q g gw gi:Nat} {vf vk:I} {s:Y} {R:ab} {w:H}
theorem cm(h:S w (az q s*R)):∃gw gi vk,S w (da q gw gi vk s R):=by
 unfold az at h;obtain⟨gw,h⟩:=aH.1 h;obtain⟨gi,h⟩:=aH.1 h;obtain⟨vk,h⟩:=aH.1 h;refine⟨gw,gi,vk,?_⟩;unfold da at h⊢;simpa only[aG,fv] using h
theorem cR(h:S w (da q gw gi vk s R)):S w (az q s*R):=by
 unfold az;refine aH.2 ⟨gw,aH.2 ⟨gi,aH.2 ⟨vk,?_⟩⟩⟩;unfold da at h⊢;simpa only[aG,fv] using h
end
section
variable (p q:Nat) (s:Y) (k i v o:Int) (R:ab) (w:H)
theorem rU(h:S w (ai p s*R)):L prog 165 #[.pointer (C (O p 0 B)),.int .i64 k] w (a4 (U (s.has k)) w):=by
 obtain⟨g,vf,h⟩:=dF h;exact fP p g vf s k R w h
theorem qc(h:S w (ai p s*R)):L prog 170 #[.pointer (C (O p 0 B)),.int .i64 k,.int .i64 i] w (a4 (.tuple #[F Z (dQ s k i),U (s.hasW k i)]) w):=by
 obtain⟨g,vf,h⟩:=dF h;exact sZ p g vf s k i R w h
theorem wo(h:S w (ai p s*R)):L prog 75 #[.pointer (C (O p 0 B))] w (a4 (F G (s.frees.length:Nat)) w):=by
 obtain⟨g,vf,h⟩:=dF h;exact tf p g vf s R w h
theorem pu(h:S w (ai p s*R)):
  L prog 154 #[.pointer (C (O p 0 B)),.int .i64 k,.int .i64 i,.int .u64 v] w (cI (U (s.hasW k i)) (ai p (fg s k i v)*R) w):=by
 obtain⟨g,vf,h⟩:=dF h;exact(rt p g vf s k i v R w h).mono fun _ _ ⟨a,b,c⟩=>⟨a,dG b,c⟩
theorem rV(h:S w (ai p s*R)):
  L prog 164 #[.pointer (C (O p 0 B)),.int .i64 k,.int .i64 i,.int .u64 o,.int .u64 v] w (cI (U (iM s k i o)) (ai p (iq s k i o v)*R) w):=by
 obtain⟨g,vf,h⟩:=dF h;exact(tb p g vf s k i o v R w h).mono fun _ _ ⟨a,b,c⟩=>⟨a,dG b,c⟩
theorem uG(h:S w (ai p s*R))(hs:s.Ok):L prog 52 #[.pointer (C (O p 0 B))] w (cI (F G s.topV) (ai p s.takeS*R) w):=by
 obtain⟨g,vf,h⟩:=dF h;unfold Ms.topV Ms.takeS;cases ht:s.top with
 |some k=>exact(tg p g vf s k R w h ht (a6 hs.inv ht).1).mono fun _ _ ⟨_,a,b,c⟩=>⟨a,dG b,c⟩
 |none=>exact(ru p g vf s R w h ht).mono fun _ _ ⟨a,b⟩=>⟨a,b▸dG h,b▸T _⟩
theorem uH(h:S w (ai p s*R))(hs:s.Ok):L prog 111 #[.pointer (C (O p 0 B)),.int .i64 k] w (cI (U (s.has k)) (ai p (s.giveS k)*R) w):=by
 obtain⟨g,vf,h⟩:=dF h;unfold Ms.giveS;cases ht:s.has k with
 |true=>
  obtain⟨k0,k1,_⟩:=a5.1 ht;obtain⟨k,rfl⟩:=M k0;have:=a0 hs.inv;have:=hs.small;exact(ti p g vf s k R w h ht (by omega)).mono fun _ _ ⟨_,a,b,c⟩=>⟨a,dG (by simpa using b),c⟩
 |false=>exact(uv p g vf s k R w h ht).mono fun _ _ ⟨a,b⟩=>⟨a,b▸dG h,b▸T _⟩
theorem nv(h:S w (az q s*R)):L prog 119 #[.pointer (C (O q 0 B)),.int .i64 k] w (a4 (U (s.has k)) w):=by
 obtain⟨gw,gi,vk,h⟩:=cm h;exact iV q gw gi vk s k R w h
theorem uI(h:S w (az q s*R))(hs:s.Ok):L prog 26 #[.pointer (C (O q 0 B))] w (an (F G (s.frees.length:Nat)) w):=by
 obtain⟨gw,gi,vk,h⟩:=cm h;have:=hs.small;have:=a0 hs.inv;have:=ag s;exact ob q gw gi vk s R w h hs.inv.le (by omega) (by omega)
theorem uJ(h:S w (az q s*R))(hs:s.Ok):L prog 57 #[.pointer (C (O q 0 B))] w (cI (F G s.topV) (az q s.takeS*R) w):=by
 obtain⟨gw,gi,vk,h⟩:=cm h;have:=hs.small;unfold Ms.topV Ms.takeS;cases ht:s.top with
 |some k=>exact(oc q gw gi vk s k R w h hs.inv (by omega) ht).mono fun _ _ ⟨_,a,b,c⟩=>⟨a,cR b,c⟩
 |none=>exact(ns q gw gi vk s R w h ht).mono fun _ _ ⟨a,b⟩=>⟨a,(cR h).below b,(T w).below b⟩
theorem wq(h:S w (az q s*R))(hs:s.Ok):L prog 127 #[.pointer (C (O q 0 B)),.int .i64 k] w (cI (U (s.has k)) (az q (s.giveS k)*R) w):=by
 obtain⟨gw,gi,vk,h⟩:=cm h;unfold Ms.giveS;cases ht:s.has k with
 |true=>
  obtain⟨k0,k1,_⟩:=a5.1 ht;obtain⟨k,rfl⟩:=M k0;have:=a0 hs.inv;have:=hs.small;have:=ag s;exact(od q gw gi vk s k R w h ht (by omega)).mono fun _ _ ⟨_,a,b,c⟩=>⟨a,cR (by simpa using b),c⟩
 |false=>exact(pp q gw gi vk s k R w h ht).mono fun _ _ ⟨a,b⟩=>⟨a,b▸cR h,b▸T _⟩
theorem xC(n:Int)(h:S w R)(h0:0≤n)(h1:n≤128):
  L prog 51 #[.int .i64 n] w fun e w'=>∃p,cI (.tuple #[.pointer (C (O p 0 B)),.agg #[F G 0,F G 0]]) (ai p (J n.toNat)*R) w e w':=by
 obtain⟨n,rfl⟩:=M h0;exact(po n (by omega) R w h).mono fun _ _ ⟨p,_,_,a,b,c⟩=>⟨p,a,dG b,c⟩
theorem xD(n:Int)(h:S w R)(h0:0≤n)(h1:n≤128):
  L prog 56 #[.int .i64 n] w fun e w'=>∃q,cI (.pointer (C (O q 0 B))) (az q (J n.toNat)*R) w e w':=by
 obtain⟨n,rfl⟩:=M h0;exact(pt n (by omega) R w h).mono fun _ _ ⟨p,_,_,_,a,b,c⟩=>⟨p,a,cR b,c⟩
end
theorem bX{q gw gi:Nat}{vk:I}{s:Y}{R:ab}{w:H}(h:S w (da q gw gi vk s R)){k i:Nat}(hk:k<s.n)(hi:i<8):
  w.cell? ⟨gw,k*8+i,B⟩=C (F Z (s.wd k i)):=by
 rw[h.right.tabGet (by omega)];unfold wc;rw[show(k*8+i) / 8=k by omega,show(k*8+i) % 8=i by omega]
theorem tP(s:Y)(k i:Nat)(v:Int)(hi:i<8)(j:Nat):bU (wc s) (k*8+i) (F Z v) j=wc (s.setW k i v) j:=by
 unfold bU wc Ms.setW;dsimp only;by_cases h:j=k*8+i
 ·subst h
  rw[if_pos rfl,show(k*8+i) / 8=k by omega,show(k*8+i) % 8=i by omega,if_pos ⟨rfl,rfl⟩]
 ·rw[if_neg h,if_neg (by omega)]
theorem df{q gw gi:Nat}{vk:I}{s:Y}{R:ab}{w:H}(h:S w (da q gw gi vk s R)){k i:Nat}(hi:i<8)(v:Int):
  S (w.setCell ⟨gw,k*8+i,B⟩ (F Z v)) (da q gw gi vk (s.setW k i v) R):=
 ((h.p2.tabSet _ _).tabExt fun j _=>tP s k i v hi j).p2
section
variable {w:H} {R:ab} {e size:Nat} {A:Option Addr} {n c:Nat} {xs:List I}
theorem Has.rowAt(h:S w (bZ e size (.slice A n c) n xs*R))(hn:0<n):
  ∃g cur,A=C (O g 0 B)∧n≤c∧c≤maxLen∧cur.size=c*size∧cur.toList.take (n*size)=xs∧S w (aa g cur e*R):=by
 rcases h.rowCases with ⟨hv,rfl,_,_⟩|⟨g,cap,cur,hv,h1,h2,h3,h4,hb⟩
 ·omega
 ·injection hv with e1 e2 e3
  subst e1;subst e3;exact⟨g,cur,rfl,h1,h2,h3,h4,hb⟩
theorem Has.rowLens(h:S w (bZ e size (.slice A n c) n xs*R)):xs.length=n*size∧n≤9223372036854775807:=by
 have:=h.ownsRow.1;refine⟨this,?_⟩;rcases h.rowCases with ⟨hv,rfl,_,_⟩|⟨g,cap,cur,hv,h1,h2,h3,h4,hb⟩
 ·omega
 ·unfold maxLen at h2;omega
theorem Has.rowGet(h:S w (bZ e size (.slice A n c) n xs*R)){i:Nat}{u:I}(hu:xs[i]? =C u):
  ∃g,A=C (O g 0 B)∧g<w.heap.size∧w.cell? (O g i B)=C u∧w.frozen? (O g i B)=N:=by
 have hl:=h.rowLens.1;have hi:i<xs.length:=(List.getElem?_eq_some_iff.1 hu).1;have hn:0<n:=by
  rcases Nat.eq_zero_or_pos n with h0|h0
  ·subst h0;omega
  ·exact h0
 obtain⟨g,cur,rfl,h1,h2,h3,h4,hb⟩:=h.rowAt hn;refine⟨g,rfl,hb.lt,?_,hb.free i⟩;rw[hb.cell,←hu,←h4,List.getElem?_take,if_pos (by omega)];simp
theorem Has.rowSet{g:Nat}(h:S w (bZ e size (.slice (C (O g 0 B)) n c) n xs*R)){i:Nat}(hi:i<n*size)(u:I):
  S (w.setCell (O g i B) u) (bZ e size (.slice (C (O g 0 B)) n c) n (xs.set i u)*R):=by
 have hl:=h.rowLens.1;have hn:0<n:=by
  rcases Nat.eq_zero_or_pos n with h0|h0
  ·subst h0;omega
  ·exact h0
 obtain⟨g',cur,hg,h1,h2,h3,h4,hb⟩:=h.rowAt hn;injection hg with hg
 injection hg with hg
 subst hg;refine(hb.set i u).rowOf ?_ h1 h2 (by simp[h3]) ?_
 ·simp[hl]
 ·rw[←h4]
  simp[List.take_set]
theorem Has.rowCut{g k:Nat}(h:S w (bZ e size (.slice (C (O g 0 B)) n c) n xs*R))(hk:k≤n):
  S w (bZ e size (.slice (C (O g 0 B)) k c) k (xs.take (k*size))*R):=by
 have hl:=h.rowLens.1;rcases h.rowCases with ⟨hv,_,_,_⟩|⟨g',cap,cur,hv,h1,h2,h3,h4,hb⟩
 ·injection hv with a;cases a
 ·injection hv with e1 e2 e3
  injection e1 with e1
  injection e1 with e1
  subst e1;subst e3;have hks:k*size≤n*size:=Nat.mul_le_mul_right _ hk;refine hb.rowOf ?_ (by omega) h2 h3 ?_
  ·rw[List.length_take,hl];omega
  ·rw[←h4,List.take_take,Nat.min_eq_left hks]
theorem Has.rowSpare{g:Nat}(h:S w (bZ e size (.slice (C (O g 0 B)) n c) n xs*R)){i:Nat}(hi:n*size≤i)(u:I):
  S (w.setCell (O g i B) u) (bZ e size (.slice (C (O g 0 B)) n c) n xs*R):=by
 have hl:=h.rowLens.1;rcases h.rowCases with ⟨hv,_,_,_⟩|⟨g',cap,cur,hv,h1,h2,h3,h4,hb⟩
 ·injection hv with a;cases a
 ·injection hv with e1 e2 e3
  injection e1 with e1
  injection e1 with e1
  subst e1;subst e3;refine(hb.set i u).rowOf hl h1 h2 (by simp[h3]) ?_;rw[←h4,Array.toList_setIfInBounds,List.take_set_of_le hi]
theorem Has.rowSetCells{g:Nat}:∀(vs:List I) {w:H} {xs:List I} (i:Nat),S w (bZ e size (.slice (C (O g 0 B)) n c) n xs*R)→i+vs.length≤n*size→
  S (w.setCells g i vs) (bZ e size (.slice (C (O g 0 B)) n c) n (xs.take i++(vs++xs.drop (i+vs.length)))*R)
 | [],w,xs,i,h,_=>by
  have e1:xs.take i++([]++xs.drop (i+([]:List I).length))=xs:=by simp
  rw[e1];exact h
 |v::r,w,xs,i,h,hi=>by
  simp only[List.length_cons] at hi;have h1:=h.rowSet (i:=i) (by omega) v;have h2:=Has.rowSetCells r (i+1) h1 (by omega);have hl:=h.rowLens.1;have e1:(xs.set i v).take (i+1)++(r++(xs.set i v).drop (i+1+r.length))=xs.take i++(v::r++xs.drop (i+(v::r).length)):=by
   rw[List.drop_set_of_lt (by omega),List.take_succ_eq_append_getElem (by simp;omega)];rw[List.getElem_set_self,List.take_set_of_le (Nat.le_refl i),List.append_assoc];simp only[List.length_cons,List.cons_append,List.nil_append];rw[show i+1+r.length=i+(r.length+1) by omega]
  rw[e1] at h2;exact h2
theorem Has.rowSpareCells{g:Nat}:∀(vs:List I) {w:H} (i:Nat),S w (bZ e size (.slice (C (O g 0 B)) n c) n xs*R)→n*size≤i→
  S (w.setCells g i vs) (bZ e size (.slice (C (O g 0 B)) n c) n xs*R)
 | [],_,_,h,_=>h
 |v::r,_,i,h,hi=>Has.rowSpareCells r (i+1) (h.rowSpare hi v) (by omega)
end
section
variable {α:Type} (cells:α→List I) (sz:Nat)
def fX(l:List α):List I:=l.flatMap cells
variable {cells} {sz}
theorem oi(hs:∀x,(cells x).length =sz):∀(l:List α),(fX cells l).length =l.length*sz
 | []=>by simp[fX]
 |x::l=>by
  show(cells x++fX cells l).length =_;rw[List.length_append,oi hs l,hs,List.length_cons,Nat.succ_mul,Nat.add_comm]
theorem jl(a b:List α):fX cells (a++b)=fX cells a++fX cells b:=by simp[fX]
theorem fL(hs:∀x,(cells x).length =sz):∀(l:List α) (k:Nat),(fX cells l).drop (k*sz)=fX cells (l.drop k)
 | [],k=>by simp[fX]
 |x::l,0=>by simp
 |x::l,k+1=>by
  show(cells x++fX cells l).drop ((k+1)*sz)=_;rw[Nat.succ_mul,Nat.add_comm,List.drop_append,hs,List.drop_eq_nil_of_le (by rw[hs];omega),Nat.add_sub_cancel_left,fL hs l k];rfl
theorem fM(hs:∀x,(cells x).length =sz):∀(l:List α) (k:Nat),(fX cells l).take (k*sz)=fX cells (l.take k)
 | [],k=>by simp[fX]
 |x::l,0=>by simp[fX]
 |x::l,k+1=>by
  show(cells x++fX cells l).take ((k+1)*sz)=_;rw[Nat.succ_mul,Nat.add_comm,List.take_append,hs,List.take_of_length_le (by rw[hs];omega),Nat.add_sub_cancel_left,fM hs l k];rfl
theorem lx(hs:∀x,(cells x).length =sz){l:List α}{k t:Nat}(hk:k<l.length)(ht:t<sz):(fX cells l)[k*sz+t]? =(cells l[k])[t]? :=by
 have h1:(fX cells l)[k*sz+t]? =((fX cells l).drop (k*sz))[t]? :=by rw[List.getElem?_drop]
 rw[h1,fL hs,List.drop_eq_getElem_cons hk];show(cells l[k]++fX cells (l.drop (k+1)))[t]? =_;rw[List.getElem?_append_left (by rw[hs];omega)]
theorem rW(hs:∀x,(cells x).length =sz){l:List α}{k:Nat}(hk:k<l.length)(x:α):
  (fX cells l).take (k*sz)++(cells x++(fX cells l).drop (k*sz+sz))=fX cells (l.set k x):=by
 rw[fM hs,show k*sz+sz=(k+1)*sz by rw[Nat.succ_mul],fL hs,List.set_eq_take_append_cons_drop,if_pos hk,jl];rfl
end
theorem gm{P:Program}(w:H)(t e ty:TypeId)(z:I)(size:Nat)(ht:P.underlying t=C (.slice e))(hv:∀w,(zeroValue e).run P w= .ok z w)(hz:z.cells.size=size)(h1:∀v∈z.cells.toList,v.oneCell'=W)(b o n c:Nat)(hn:0<n)(hs:0<size)
  (hc:∀j,j<n*size→(w.cell? ⟨b,o+j,B⟩).isSome =W) (hf:∀j,j<n*size→w.frozen? ⟨b,o+j,B⟩=N):
  (Builtin.clear_ #[t] ty #[.slice (C (O b o B)) n c]).run P w= .ok (.tuple #[]) (w.setCells b o (Builtin.zeroCells z.cells n).toList):=by
 have hl:(Builtin.zeroCells z.cells n).toList.length =n*size:=by rw[Array.length_toList,size_zeroCells,hz]
 have hst:=run_storeCells_cells (P:=P) b o (Builtin.zeroCells z.cells n).toList 0 w (by rw[hl];simpa using hc) (by rw[hl];simpa using hf) (by
  intro v hv';obtain⟨i,hi,rfl⟩:=List.getElem_of_mem hv';have hi':i<n*z.cells.size:=by simpa [hz] using (hl▸hi:i<n*size)
  have hm:i % z.cells.size<z.cells.size:=Nat.mod_lt _ (by rw[hz];exact hs);refine h1 _ ?_;simp only[Builtin.zeroCells,Array.toList_map,Array.toList_range,List.getElem_map,List.getElem_range];rw[getElem!_pos z.cells (i % z.cells.size) hm];exact Array.getElem_mem_toList hm)
 simp only[Nat.add_zero] at hst;obtain⟨m,rfl⟩:∃m,n=m+1:=⟨n - 1,by omega⟩;simp[Builtin.clear_,run_underlying ht,hv,hst]
section
variable {w w':H} {R:ab} {e size:Nat} {A:Option Addr} {n c:Nat} {xs:List I}
theorem Has.rowDelete{g i j:Nat}(h:S w (bZ e size (.slice (C (O g 0 B)) n c) n xs*R))(hij:i≤j)(hj:j≤n)(zs:List I):
  S ((w.setCells g (i*size) (xs.drop (j*size))).setCells g ((i+(n - j))*size) zs)
   (bZ e size (.slice (C (O g 0 B)) (i+(n - j)) c) (i+(n - j)) (xs.take (i*size)++xs.drop (j*size))*R):=by
 have hl:=h.rowLens.1;have e1:j*size≤n*size:=Nat.mul_le_mul_right _ hj;have e2:i*size≤j*size:=Nat.mul_le_mul_right _ hij;have e3:(i+(n - j))*size=i*size+(n*size - j*size):=by rw[Nat.add_mul,Nat.sub_mul]
 have h1:=Has.rowSetCells (xs.drop (j*size)) (i*size) h (by rw[List.length_drop,hl];omega);have h2:=h1.rowCut (k:=i+(n - j)) (by omega);have h3:=Has.rowSpareCells zs ((i+(n - j))*size) h2 (Nat.le_refl _);have e4:(xs.take (i*size)++(xs.drop (j*size)++xs.drop (i*size+(xs.drop (j*size)).length))).take ((i+(n - j))*size)=xs.take (i*size)++xs.drop (j*size):=by
  have e5:(xs.take (i*size)++xs.drop (j*size)).length =(i+(n - j))*size:=by rw[List.length_append,List.length_take,List.length_drop,hl];omega
  rw[←List.append_assoc,List.take_append_of_le_length (by omega),List.take_of_length_le (by omega)]
 rw[e4] at h3;exact h3
end
theorem cg{P:Program}{ops:Array Oper}{o:Oper}{a:Act}{w:H}{R:ab}{K:Act→H→Prop}{Q:Exit→Act→H→Prop}{E:Prop}
  (hg:o.guard=B) (s x:Operand) (t:TypeId) (hop:o.op=Op.call {callee:=Callee.builtin Builtin.append,args:= #[s,x],argTypes:= #[t,t]})
  {e:TypeId} {z:I} {size bytes:Nat} (hT:P.underlying t=C (.slice e)) (hE:jh P e z size bytes)
  (v:I) (n:Nat) (xs:List I) (hs:a.eval s=v) (h:S w (bZ e size v n xs*R))
  (ad:Addr) (m c:Nat) (news:List I) (hx:a.eval x= .slice (C ad) m c) (hl:news.length=m*size) (hnews:∀j u,news[j]? =C u→w.cell? (ad.add j)=C u) (h1:∀u∈news,u.oneCell'=W)
  (h63:n+m≤maxLen) (hbytes:(n+m)*bytes≤140737488355328)
  (hK:∀A c w',S w' (bZ e size (.slice A (n+m) c) (n+m) (xs++news)*R)→Ext w w'→K (a.put o.dst (.slice A (n+m) c)) w'):
  if Region.wanted o (yielded ops a.tmps)=W then Oper.wp P o a w K Q else E:=by
 have hw:Region.wanted o (yielded ops a.tmps)=W:=by simp[Region.wanted,hg]
 rw[if_pos hw];obtain⟨v',w',hrun,h2,h3⟩:=gV (ty:=o.type) hT hE v n xs h ad m c news hl hnews h1 h63 hbytes;unfold Oper.wp;simp[execOp,hop,resolve,invoke,builtin,hs,hx,hrun,Result.andThen];have hf:∃A c,v'= .slice A (n+m) c:=by
  rcases h2.rowCases with ⟨hv,hn,_,_⟩|⟨g,cap,cur,hv,_⟩
  ·exact⟨B,0,by rw[hv,hn]⟩
  ·exact⟨_,_,hv⟩
 obtain⟨A,c',rfl⟩:=hf;exact hK A c' w' h2 h3
structure Stp where
 kind:Int
 core:Int
 m:Mp
 a:Ac
def Stp.cells(x:Stp):List I:=[F G x.kind,F G x.core,F G x.m.page,F G x.m.size,F G x.m.frame,F G x.m.rights,F G x.a.page,F G x.a.kind,U x.a.user]
def Stp.ok(x:Stp):Prop:=cL x.kind∧cL x.core∧x.m.ok∧x.a.ok
theorem qE{cs:List I}(h:CellsOk [C .i64,C .i64,C .i64,C .i64,C .i64,C .i64,C .i64,C .i64,B] cs):∃x:Stp,cs=x.cells∧x.ok:=by
 obtain⟨a,c1,rfl,wa,g1⟩:=h.int;obtain⟨b,c2,rfl,wb,g2⟩:=g1.int;obtain⟨c,c3,rfl,wc,g3⟩:=g2.int;obtain⟨d,c4,rfl,wd,g4⟩:=g3.int;obtain⟨e,c5,rfl,we,g5⟩:=g4.int;obtain⟨f,c6,rfl,wf,g6⟩:=g5.int;obtain⟨p,c7,rfl,wp,g7⟩:=g6.int;obtain⟨k,c8,rfl,wk,g8⟩:=g7.int;obtain⟨u,c9,rfl,g9⟩:=g8.bool;obtain rfl:=g9.nil;exact⟨⟨a,b,⟨c,d,e,f⟩,⟨p,k,u⟩⟩,rfl,gF wa,gF wb,⟨gF wc,gF wd,gF we,gF wf⟩,gF wp,gF wk⟩
def a8(s:Y):Nat→Y|0=>s|k+1=>(a8 s k).takeS
theorem fY{s:Y}(h:s.Ok):∀k,(a8 s k).Ok |0=>h|k+1=>(fY h k).takeS
theorem Has.onto'{w w':H}{P Q:ab}(h:S w P)(h':S w' (Q*bS w w.heap.size)):S w' (Q*P):=by
 obtain⟨x,s,px⟩:=h;obtain⟨_,s',h1,h2,d,rfl,q,rfl⟩:=h';have sub:∀b o,x b=C o→(fun b=>if b<w.heap.size then w.heap[b]? else B) b=C o:=fun b o e=>by
  have h0:w.heap[b]? =C o:=s b o e;have hlt:b<w.heap.size:=(Array.getElem?_eq_some_iff.1 h0).1;show(if b<w.heap.size then w.heap[b]? else B)=C o;rw[if_pos hlt];exact h0
 refine⟨Hpm.union h1 x,?_,h1,x,?_,rfl,q,px⟩
 ·refine Hpm.sub_union (Hpm.sub_union_left s') fun b o e=> ?_
  exact Hpm.sub_union_right d s' b o (sub b o e)
 ·intro b
  rcases d b with e|e
  ·exact .inl e
  ·right
   cases hx:x b with
   |none=>rfl
   |some o=>rw[sub b o hx] at e;cases e
def eI(s:Y):Nat→List Int|0=>[]|k+1=>eI s k++[(a8 s k).topV]
def bx(s:Y)(l:List Int):Y:=l.foldl Ms.giveS s
theorem jm(s:Y):∀k,(eI s k).length =k|0=>rfl|k+1=>by simp[eI,jm s k]
theorem ly{s:Y}(h:s.Ok):∀l,(bx s l).Ok
 | []=>h
 |k::l=>ly (h.giveS k) l
theorem j0(s:Y)(l:List Int)(k:Int):bx s (l++[k])=(bx s l).giveS k:=by simp[bx]
theorem fZ{s:Y}{k:Nat}(h:s.top=C k):s.takeS.frees++[k]=s.frees:=by
 unfold Ms.takeS;rw[h];exact Ms.frees_take s k h
theorem fp(s:Y):∀k,k≤s.frees.length→(a8 s k).frees =s.frees.take (s.frees.length - k)
 |0,_=>by simp[a8]
 |k+1,h=>by
  have ih:=fp s k (by omega);obtain⟨t,ht⟩:=jd (s:=a8 s k) (by rw[ih];simp;omega);have h1:=fZ ht;show(a8 s k).takeS.frees =_;have h2:(a8 s k).takeS.frees =(a8 s k).frees.dropLast :=by rw[←h1];simp
  rw[h2,ih,List.dropLast_eq_take,List.take_take,List.length_take];congr 1
  omega
theorem Agree.giveS{s s':Y}(h:al s s')(k:Int):al (s.giveS k) (s'.giveS k):=by
 unfold Ms.giveS;rw[←h.has k];split
 ·refine⟨h.n,fun j=> ?_,?_,fun j i hj=> ?_⟩
  ·show bU s.tk k.toNat N j=bU s'.tk k.toNat N j
   unfold bU;rw[h.tk]
  ·rw[af,af,h.fr]
  ·have hj:bU s.tk k.toNat N j=W:=hj
   unfold bU at hj;split at hj
   ·cases hj
   ·exact h.wd j i hj
 ·exact h
theorem Agree.giveL{s s':Y}:∀(l:List Int),al s s'→al (bx s l) (bx s' l)
 | [],h=>h
 |k::l,h=>Agree.giveL l (h.giveS k)
theorem qF{s:Y}(hs:s.Ok){k:Nat}(h:s.top=C k):al (s.takeS.giveS (k:Int)) s:=by
 have hl:=a6 hs.inv h;have h1:=fZ h;have hts:s.takeS=s.take k:=by unfold Ms.takeS;rw[h]
 have hh:s.takeS.has (k:Int)=W:=by rw[hts];exact dI hl.1
 have hg:s.takeS.giveS (k:Int)=s.takeS.give k:=by unfold Ms.giveS;rw[if_pos hh];rfl
 rw[hg];refine⟨?_,fun j=> ?_,?_,fun j i hj=> ?_⟩
 ·show s.takeS.n=s.n
  exact Ms.takeS_n s
 ·show bU s.takeS.tk k N j=s.tk j
  rw[hts];show bU (bU s.tk k W) k N j=s.tk j;unfold bU;by_cases e:j=k
  ·rw[if_pos e,e,hl.2]
  ·rw[if_neg e,if_neg e]
 ·rw[af,h1]
 ·have hj:bU s.takeS.tk k N j=W:=hj
  unfold bU at hj;split at hj
  ·cases hj
  ·rename_i e
   show s.takeS.wd j i=s.wd j i;rw[hts];show(if j=k then(0:Int) else s.wd j i)=s.wd j i;rw[if_neg e]
theorem lC{s:Y}(hs:s.Ok):∀k,k≤s.frees.length→al (bx (a8 s k) (eI s k).reverse) s
 |0,_=>Agree.refl s
 |k+1,h=>by
  have hlen:0< (a8 s k).frees.length :=by rw[fp s k (by omega)];simp;omega
  obtain⟨t,ht⟩:=jd hlen;have e1:(a8 s k).topV =(t:Int):=by unfold Ms.topV;rw[ht]
  show al (bx (a8 s k).takeS (eI s k++[(a8 s k).topV]).reverse) s;rw[List.reverse_append,e1];show al (bx ((a8 s k).takeS.giveS (t:Int)) (eI s k).reverse) s;exact(Agree.giveL _ (qF (fY hs k) ht)).trans (lC hs k (by omega))
theorem qG{s:Y}{k:Nat}(hk:k≤s.frees.length):((a8 s k).topV <0)↔k=s.frees.length:=by
 have hf:=fp s k hk;constructor
 ·intro h
  apply Classical.byContradiction;intro hn;obtain⟨t,ht⟩:=jd (s:=a8 s k) (by rw[hf];simp;omega);unfold Ms.topV at h;rw[ht] at h;have:(0:Int)≤t:=by omega
  dsimp only at h;omega
 ·intro h
  have he:(a8 s k).frees =[]:=by rw[hf,h];simp
  have ht:(a8 s k).top =B:=by rw[←Ms.frees_top,he];rfl
  unfold Ms.topV;rw[ht];decide
end Go.Proofs.YtmfheghbgihdmaaGreat
