/- The document's Times: Now, Was. -/
import Derived.Test.YtmfheghbgihdmaaGreatScE
namespace Go.Proofs.YtmfheghbgihdmaaGreat
open Go.Value renaming bool→vB
open Go.Addr renaming mk→aMk
open List renaming getElem?_eq_getElem→b
open Go.Lib renaming hid→d
open Go.Value renaming int→g
open Go.IntKind renaming i64→m,wrap_i64→o
open Tryz
open Go.RowKit
set_option maxRecDepth 100000
theorem qg{w:World}{R:ae}{A:Option Addr}{c:Nat}{l:List Nat}{n:Nat}(h:Has w (ey (.slice A n c) l*R)):n≤9223372036854775807:=by
 obtain rfl:=n6 h;exact(Has.rowLens (e:=92) (size:=1) h).2
theorem zk(t:Nat)(H:List (List Mp))(f:Nat)(y:Yl)(p k:Nat)(hk:H.length=k+1)(hy:y.bs.length=H.length)(hp:y.bs[k]? =some p)(R:ae)(w:World)(h:Has w (bt t H f y R)):
  Calls prog 40 #[.pointer (some (aMk t 0 none))] w (Pure (.pointer (some (aMk p 0 none))) w):=by
 unfold bt at h;obtain⟨bA,hA,lA,cA⟩:=kZ h.right hp;have c1:=h.cell 0;have hbs:=qg h.right;rw[hA,hy,hk] at c1;rw[hy,hk] at hbs;have v1:=ab c1;have vA:=ab cA;have hkk:IntKind.i64.wrap (((k+1:Nat):Int) - 1)=(k:Int):=by
  rw[o];omega
 clear h c1 cA hA hy hp hk;go_enter func40,ntmps40;go_wp2_with fail
 refine aq (by kernel_rfl) (by kernel_rfl) ?_;repeat(first|go_big_quiet_step (fail)|quiet_step (fail))
 refine wpQuiet_nil ?_;intro _ hw';obtain⟨uq,hw''⟩:=hw';subst hw'';go_wp2_with fail
 go_ret;exact⟨rfl,aA _ _⟩
theorem sW{α:Type}{l:List α}{j:Nat}(hj:j<l.length){x:α}(hx:l[j]? =some x):l.drop j=x::l.drop (j+1):=by
 rw[List.drop_eq_getElem_cons hj];rw[b hj] at hx;injection hx with hx
 rw[hx]
theorem zZ(t:Nat)(H:List (List Mp))(f:Nat)(y:Yl)(a:Ac)(r:An)(i:Nat)(ha:cy a.page)(hi:i≤H.length)(hH:H.length≤1000000)(hok:∀L∈H,Bk.Ok L)(hy:y.bs.length=H.length)(hwas:pM H i a r=true)(R:ae)(w:World)(h:Has w (bt t H f y R)):
  Calls prog 38 #[.pointer (some (aMk t 0 none)),g m i,.agg #[g m a.page,g m a.kind,vB a.user],.agg #[g m r.fin,g m r.frame,g m r.rights]] w (Pure (vB true) w):=by
 have h0:=((aM w).new #[g m a.page,g m a.kind,vB a.user] 41).new #[g m r.fin,g m r.frame,g m r.rights] 34;have x0:=((Ext.refl w).alloc (.cells #[g m a.page,g m a.kind,vB a.user] 41)).alloc (.cells #[g m r.fin,g m r.frame,g m r.rights] 34);have h2:=(h.new #[g m a.page,g m a.kind,vB a.user] 41).new #[g m r.fin,g m r.frame,g m r.rights] 34;simp only[World.size_alloc] at h0 h2;have HW:Hid (((H.drop i).any fun L=>decide (Bk.ans L a=r))=true):=d hwas;have HOK:=d hok;have HY:=d hy;clear h hwas hok hy;obtain⟨r0,r1,r2⟩:=r;dsimp only at*
 go_enter func38,ntmps38;go_upto_region 1 with fail;generalize (w.alloc (.cells #[g m a.page,g m a.kind,vB a.user] 41)).alloc (.cells #[g m r0,g m r1,g m r2] 34)=w1 at*
 generalize w.heap.size+1=XR at*
 generalize hX:w.heap.size=XA at*
 have c0:=(show Has w1 (aa XR #[g m r0,g m r1,g m r2] 34*(aa XA #[g m a.page,g m a.kind,vB a.user] 41*bt t H f y R)) from h2).right.right.cell 0;go_wp2_with fail
 go_loopw [9] (fun s9 wr=>∃j:Nat,j≤H.length∧s9=g m j∧Hid (((H.drop j).any fun L=>decide (Bk.ans L a=⟨r0,r1,r2⟩))=true)∧Below w1.heap.size w1 wr) (fun s9 _=>H.length - (intOf s9).toNat)
 case atStart=>exact⟨i,hi,rfl,HW,Below.refl _ _⟩
 case round=>
  clear HW c0;obtain⟨j,hj,rfl,HA,BW⟩:=hrel;have h3:=h2.below BW;unfold bt at h3;have hbs:=HY.out;by_cases hlt:j<H.length
  ·obtain⟨p,hp⟩:∃p,y.bs[j]? =some p:=⟨y.bs[j]'(by omega),b (by omega)⟩
   obtain⟨L,hL⟩:∃L,H[j]? =some L:=⟨H[j],b hlt⟩;obtain⟨Q,hQ⟩:=jM hp hL;obtain⟨bA,hA,lA,cA⟩:=kZ h3.r3 hp;have h4:Has wr (be p L*(aa XR #[g m r0,g m r1,g m r2] 34*(aa XA #[g m a.page,g m a.kind,vB a.user] 41*(aa t #[.slice y.A y.bs.length y.c,g m f] 87*(ey (.slice y.A y.bs.length y.c) y.bs*(Q*R)))))):=h3.eq (by rw[hQ];ac_rfl);have HF:=d (fun u=>ry p L a _ _ (HOK.out L (List.mem_of_getElem? hL)) ha (h4.via u));have c0:=h4.r3.cell 0;obtain⟨a0,a1,a2⟩:=h4.right.right.cells3;obtain⟨g0,g1,g2⟩:=h4.right.cells3;rw[hA,hbs] at c0;have cl:=h4.r3.lt;have v0:=ab c0;have vA:=ab cA;have v3:=ab a0;have v4:=ab a1;have v5:=ab a2;have u3:=ab g0;have u4:=ab g1;have u5:=ab g2;unfold An.val at HF;have HD:Hid (H.drop j=L::H.drop (j+1)):=d (sW hlt hL);have BW':=d BW;clear h4 h3 hQ hp hL hA cA BW a0 a1 a2 g0 g1 g2;by_cases he:Bk.ans L a=⟨r0,r1,r2⟩
   ·rw[he] at HF
    dsimp only at HF;clear HD HA he;go_wp2_with fail
    refine aq (by kernel_rfl) (by kernel_rfl) ?_;repeat(first|go_big_quiet_step ((go_at_call 41;exact Pure.via (HF.out _)))|quiet_step ((go_at_call 41;exact Pure.via (HF.out _))))
    refine wpQuiet_nil ?_;intro _ hw';obtain⟨uq,hw''⟩:=hw';subst hw'';go_wp2_with fail
    go_ret;exact⟨by first|rfl|simp,ap (by rw[hX];exact(h0.below (BW'.out.trans ((aA _ uq).mono BW'.out.size))).right.right) (x0.below (BW'.out.trans ((aA _ uq).mono BW'.out.size)))⟩
   ·have HA2:Hid (((H.drop (j+1)).any fun L=>decide (Bk.ans L a=⟨r0,r1,r2⟩))=true):=d (by
     have h1:=HA.out;rw[HD.out,List.any_cons,decide_eq_false he,Bool.false_or] at h1;exact h1)
    clear HD HA;generalize Bk.ans L a=z at*
    obtain⟨z0,z1,z2⟩:=z;dsimp only at*
    have hd:(z0==r0)=false∨(z1==r1)=false∨(z2==r2)=false:=by
     by_cases e0:z0=r0
     ·by_cases e1:z1=r1
      ·right;right
       have:z2≠r2:=fun e2=>he (by rw[e0,e1,e2]);simpa using this
      ·right;left;simpa using e1
     ·left;simpa using e0
    clear he;rcases hd with hd|hd|hd
    ·go_wp2_with fail
     refine aq (by kernel_rfl) (by kernel_rfl) ?_;repeat(first|go_big_quiet_step ((go_at_call 41;exact Pure.via (HF.out _)))|quiet_step ((go_at_call 41;exact Pure.via (HF.out _))))
     refine wpQuiet_nil ?_;intro _ hw';obtain⟨uq,hw''⟩:=hw';subst hw'';go_wp2_with fail
     go_roundw
     case rel=>exact⟨j+1,by omega,by go_num,HA2,BW'.out.trans ((aA _ _).mono BW'.out.size)⟩
     case measure=>simp[intOf];omega
    ·go_wp2_with fail
     refine aq (by kernel_rfl) (by kernel_rfl) ?_;repeat(first|go_big_quiet_step ((go_at_call 41;exact Pure.via (HF.out _)))|quiet_step ((go_at_call 41;exact Pure.via (HF.out _))))
     refine wpQuiet_nil ?_;intro _ hw';obtain⟨uq,hw''⟩:=hw';subst hw'';go_wp2_with fail
     go_roundw
     case rel=>exact⟨j+1,by omega,by go_num,HA2,BW'.out.trans ((aA _ _).mono BW'.out.size)⟩
     case measure=>simp[intOf];omega
    ·go_wp2_with fail
     refine aq (by kernel_rfl) (by kernel_rfl) ?_;repeat(first|go_big_quiet_step ((go_at_call 41;exact Pure.via (HF.out _)))|quiet_step ((go_at_call 41;exact Pure.via (HF.out _))))
     refine wpQuiet_nil ?_;intro _ hw';obtain⟨uq,hw''⟩:=hw';subst hw'';go_wp2_with fail
     go_roundw
     case rel=>exact⟨j+1,by omega,by go_num,HA2,BW'.out.trans ((aA _ _).mono BW'.out.size)⟩
     case measure=>simp[intOf];omega
  ·obtain rfl:j=H.length:=by omega
   exfalso;have:=HA.out;rw[List.drop_length] at this;cases this
end Go.Proofs.YtmfheghbgihdmaaGreat
