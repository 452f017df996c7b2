/- Contract of walker's read. -/
import Derived.Test.YtmfheghbgihdmaaGreatEntry2
import Derived.Test.YtmfheghbgihdmaaGreatTblM4
import Derived.BigQuiet
import Derived.Test.YtmfheghbgihdmaaGreatSep
import Derived.Deep.RegionHeld3
import Derived.Deep.LoopGhost
import Derived.Deep.DeepCutAuto
import Derived.Deep.CutBlock
namespace Go.Proofs.YtmfheghbgihdmaaGreat
open Go.IntKind renaming u64→vU
open Bool renaming false→D,true→F
open Go.Lib renaming hid→G
open Go.Value renaming int→H,bool→M
open Go.IntKind renaming i64→I,wrap_i64→Z
open Option renaming none→J,some→S
open Go renaming bodyPost_ret→N,World→ag,Value→a4,Calls→a5,Addr→bd
open Go.Addr renaming mk→Q
open Go.Proofs.YtmfheghbgihdmaaGreat.Same renaming via→T
open Go.Proofs.YtmfheghbgihdmaaGreat renaming Has→U,Ext→a3,way→a7,Same→bb,Pure→bf
open Go.Proofs.YtmfheghbgihdmaaGreat.Pure renaming via→Y
open List renaming getElem?_eq_some_iff→ad,length_append→al
open Go.Ending renaming returned→af
open Int renaming eq_ofNat_of_zero_le→ax
open Go.World renaming size_alloc→a6
open Tryz
open Go.RowKit
set_option maxRecDepth 100000
theorem Has.frees14{w:ag}{R:ab}{b:Nat}{cs:Array a4}{t:TypeId}(h:U w (aa b cs t*R)):
  w.frozen? (Q b 1 J)=D∧w.frozen? (Q b 5 J)=D∧w.frozen? (Q b 6 J)=D∧w.frozen? (Q b 7 J)=D∧w.frozen? (Q b 8 J)=D∧w.frozen? (Q b 9 J)=D∧w.frozen? (Q b 10 J)=D∧w.frozen? (Q b 11 J)=D∧w.frozen? (Q b 12 J)=D∧w.frozen? (Q b 13 J)=D:=
 ⟨h.free 1,h.free 5,h.free 6,h.free 7,h.free 8,h.free 9,h.free 10,h.free 11,h.free 12,h.free 13⟩
theorem pp{w:ag}{b:Nat}{root:Int}{c:Ck}{w0:Int}{e0:En}{R:ab}(h:U w (aa b (gT root c w0 e0) 219*R))(v:Int)(e:En):
  U (((((((w.setCell (Q b 7 J) (H vU v)).setCell (Q b 8 J) (M e.there)).setCell (Q b 9 J) (M e.leaf)).setCell (Q b 10 J) (H I e.rights)).setCell (Q b 11 J) (M e.used)).setCell (Q b 12 J) (M e.dirty)).setCell (Q b 13 J) (H I e.frame)) (aP b root c v e*R):=by
 have s7:U _ (aa b #[H I root,H I (lQ c),H I c.a.page,H I c.a.kind,M c.a.user,H I c.level,H I c.t,H vU v,M e0.there,M e0.leaf,H I e0.rights,M e0.used,M e0.dirty,H I e0.frame] 219*R):=h.set 7 (H vU v);have s8:U _ (aa b #[H I root,H I (lQ c),H I c.a.page,H I c.a.kind,M c.a.user,H I c.level,H I c.t,H vU v,M e.there,M e0.leaf,H I e0.rights,M e0.used,M e0.dirty,H I e0.frame] 219*R):=s7.set 8 (M e.there);have s9:U _ (aa b #[H I root,H I (lQ c),H I c.a.page,H I c.a.kind,M c.a.user,H I c.level,H I c.t,H vU v,M e.there,M e.leaf,H I e0.rights,M e0.used,M e0.dirty,H I e0.frame] 219*R):=s8.set 9 (M e.leaf);have s10:U _ (aa b #[H I root,H I (lQ c),H I c.a.page,H I c.a.kind,M c.a.user,H I c.level,H I c.t,H vU v,M e.there,M e.leaf,H I e.rights,M e0.used,M e0.dirty,H I e0.frame] 219*R):=s9.set 10 (H I e.rights);have s11:U _ (aa b #[H I root,H I (lQ c),H I c.a.page,H I c.a.kind,M c.a.user,H I c.level,H I c.t,H vU v,M e.there,M e.leaf,H I e.rights,M e.used,M e0.dirty,H I e0.frame] 219*R):=s10.set 11 (M e.used);have s12:U _ (aa b #[H I root,H I (lQ c),H I c.a.page,H I c.a.kind,M c.a.user,H I c.level,H I c.t,H vU v,M e.there,M e.leaf,H I e.rights,M e.used,M e.dirty,H I e0.frame] 219*R):=s11.set 12 (M e.dirty);have s13:U _ (aa b #[H I root,H I (lQ c),H I c.a.page,H I c.a.kind,M c.a.user,H I c.level,H I c.t,H vU v,M e.there,M e.leaf,H I e.rights,M e.used,M e.dirty,H I e.frame] 219*R):=s12.set 13 (H I e.frame);exact s13
theorem Mk.idle(c:Ck)(w:Int)(e:En):Mk c.idle w e:=fun h=>by cases h
theorem Mk.off{c:Ck}(w:Int)(e:En)(h:c.mark=D):Mk c w e:=fun h'=>by rw[h] at h';cases h'
set_option maxHeartbeats 8000000 in
theorem zY(b f:Nat)(root:Int)(c:Ck)(s:Ms)(hs:s.Ok)(hc:c.Ok)(hon:c.on=F)(hmk:c.mark=D)(w0:Int)(e0:En)(R:ab)(W:ag)(h:U W (aP b root c w0 e0*(ai f s*R))):
  a5 prog 162 #[.pointer (S (Q b 0 J)),.pointer (S (Q f 0 J))] W (cR (.tuple #[yX (aL s root c).r,H I (aL s root c).code]) (aZ b root (aL s root c).c *(ai f (aL s root c).s *R)) W):=by
 have h1:=h.new #[M D,H I 0,H I 0,H I 0,H I 0,H I 0,H I 0,H I 0,M D] 181;have x1:=(Ext.refl W).alloc (.cells #[M D,H I 0,H I 0,H I 0,H I 0,H I 0,H I 0,H I 0,M D] 181);have hp:=gj (hc.acc hon);have HI:=G (fun X=>j4 c.a.page c.level X);have HL:=G (fun R X (h:U X (ai f s*R))=>rZ f s c.t (ap c.a.page c.level) R X h);rw[eI hp (hc.l0 hon) (hc.l3 hon)] at HL;have hstep:aL s root c=if s.has c.t=D then⟨c,s,Rs.zero,12⟩
   else if br (c.word s) c.level≠0 then⟨c,s,Rs.zero,br (c.word s) c.level⟩
   else if(aD (c.word s) c.level).there =D then c.endWith s 1
   else if(aD (c.word s) c.level).leaf =D then⟨{c with t:=(aD (c.word s) c.level).frame,level:=c.level - 1},s,Rs.zero,0⟩
   else if may (aD (c.word s) c.level).rights c.a=D then c.endWith s 2
   else if dZ (aD (c.word s) c.level) c.a=F then c.leafEnd s (aD (c.word s) c.level)
   else⟨{c with mark:=F,w:=c.word s},s,Rs.zero,0⟩:=by
  unfold aL;rw[if_neg (by rw[hon];simp)];simp only[hmk,Bool.false_eq_true,false_and,if_false]
 clear h;cases ht:s.has c.t with
 |false=>
  have hy:=G (show aL s root c=⟨c,s,Rs.zero,12⟩ by rw[hstep,if_pos ht]);have HM:=G (Mk.off w0 e0 hmk);rw[ht] at HL;clear hstep ht hp hon hmk hc hs;generalize eh s c.t (ap c.a.page c.level)=v at*
  generalize ap c.a.page c.level=ix at*
  go_enter func162,ntmps162;go_upto_region 1 with fail;generalize W.alloc _=W1 at*
  generalize W.heap.size=X0 at*
  have hb:=h1.p2;unfold aP at hb;obtain⟨k0,k1,k2,k3,k4,k5,k6,k7,k8,k9,k10,k11,k12,k13⟩:=hb.cells14;have v2:=ae k2;have v5:=ae k5;have v6:=ae k6;clear hb k0 k1 k2 k3 k4 k5 k6 k7 k8 k9 k10 k11 k12 k13;refine au (by kernel_rfl) (by kernel_rfl) ?_;repeat(first|go_big_quiet_step ((first|(go_at_call 152;exact T (HI.out _))|(go_at_call 170;exact T (HL.out _ _ (h1.right.right.via _)))))|quiet_step ((first|(go_at_call 152;exact T (HI.out _))|(go_at_call 170;exact T (HL.out _ _ (h1.right.right.via _))))))
  refine wpQuiet_nil ?_;intro _ hw';obtain⟨uq,hw''⟩:=hw';subst hw'';have h2:=h1.via uq;have x2:=x1.below (aE _ uq);generalize gU W1 uq=W2 at*
  clear h1 x1 v2 v5 v6 HI HL;have hb:=h2.p2;unfold aP at hb;have k5:W2.cell? (Q b 5 J)=S (H I c.level):=hb.cell 5;have kl:=hb.lt;clear hb;obtain⟨r0,r1,r2,r3,r4,r5,r6,r7,r8⟩:=h2.cells9;obtain⟨g0,g1,g2,g3,g4,g5,g6,g7,g8⟩:=h2.frees9;have rl:=h2.lt;go_wp2_with fail
  refine am (fun wz=>U wz (aa X0 #[M D,H I 0,H I 0,H I 0,H I 0,H I 0,H I 0,H I 0,M D] 181*(aP b root c w0 e0*(ai f s*R)))∧a3 W wz) ⟨h2.set9 _ _ _ _ _ _ _ _ _,ah⟩ ?_;rintro wz ⟨hz,xz⟩;exact N (aA results162 rfl rfl (cD hz)) rfl ⟨by rw[hy.out];rfl,by rw[hy.out];exact bM HM.out hz.right,xz⟩
 |true=>
  rw[ht] at HL;rw[if_neg (by rw[ht];simp)] at hstep;have hlw:eh s c.t (ap c.a.page c.level)=c.word s:=by
   unfold eh Ck.word av;rw[if_pos (by rw[eI hp (hc.l0 hon) (hc.l3 hon)];exact ht)]
  rw[hlw] at HL;have hwb:=hs.inv.wok c.t.toNat (ap c.a.page c.level).toNat;have HD:=G (fun X=>kt (c.word s) c.level X hwb.1 hwb.2);clear hwb hlw;have HM0:=G (Mk.off w0 e0 hmk);by_cases hd:br (c.word s) c.level=0
  case neg=>
   have hy:=G (show aL s root c=⟨c,s,Rs.zero,br (c.word s) c.level⟩ by rw[hstep,if_pos hd]);have hv:=G (dh (w:=c.word s) (l:=c.level) rfl (.inl hd));rw[hv.out] at HD;have hn:(br (c.word s) c.level !=0)=F:=by simpa using hd
   clear hv hstep ht hp hon hmk hc hs hd;generalize br (c.word s) c.level=code at*
   generalize c.word s=v at*
   generalize ap c.a.page c.level=ix at*
   go_enter func162,ntmps162;go_upto_region 1 with fail;generalize W.alloc _=W1 at*
   generalize W.heap.size=X0 at*
   have hb:=h1.p2;unfold aP at hb;obtain⟨k0,k1,k2,k3,k4,k5,k6,k7,k8,k9,k10,k11,k12,k13⟩:=hb.cells14;have v2:=ae k2;have v5:=ae k5;have v6:=ae k6;clear hb k0 k1 k2 k3 k4 k5 k6 k7 k8 k9 k10 k11 k12 k13;refine au (by kernel_rfl) (by kernel_rfl) ?_;repeat(first|go_big_quiet_step ((first|(go_at_call 152;exact T (HI.out _))|(go_at_call 170;exact T (HL.out _ _ (h1.right.right.via _)))))|quiet_step ((first|(go_at_call 152;exact T (HI.out _))|(go_at_call 170;exact T (HL.out _ _ (h1.right.right.via _))))))
   refine wpQuiet_nil ?_;intro _ hw';obtain⟨uq,hw''⟩:=hw';subst hw'';have h2:=h1.via uq;have x2:=x1.below (aE _ uq);generalize gU W1 uq=W2 at*
   clear h1 x1 v2 v5 v6 HI HL;have hb:=h2.p2;unfold aP at hb;have k5:W2.cell? (Q b 5 J)=S (H I c.level):=hb.cell 5;have kl:=hb.lt;clear hb;go_wp2_with fail
   refine(HD.out _).mono ?_;rintro e2 w3 ⟨rfl,b3⟩;have h3:=h2.below b3;have x3:=x2.below b3;clear h2 x2 b3 HD k5 kl;obtain⟨r0,r1,r2,r3,r4,r5,r6,r7,r8⟩:=h3.cells9;obtain⟨g0,g1,g2,g3,g4,g5,g6,g7,g8⟩:=h3.frees9;have rl:=h3.lt;go_wp2_with fail
   refine am (fun wz=>U wz (aa X0 #[M D,H I 0,H I 0,H I 0,H I 0,H I 0,H I 0,H I 0,M D] 181*(aP b root c w0 e0*(ai f s*R)))∧a3 W wz) ⟨(h3.set9 _ _ _ _ _ _ _ _ _).alloc _,ah⟩ ?_;rintro wz ⟨hz,xz⟩;exact N (aA results162 rfl rfl (cD hz)) rfl ⟨by rw[hy.out];rfl,by rw[hy.out];exact bM HM0.out hz.right,xz⟩
  case pos=>
   rw[if_neg (by rw[hd];simp)] at hstep;have hv:fv (c.word s) c.level= .tuple #[.agg #[M (aD (c.word s) c.level).there,M (aD (c.word s) c.level).leaf,H I (aD (c.word s) c.level).rights,M (aD (c.word s) c.level).used,M (aD (c.word s) c.level).dirty,H I (aD (c.word s) c.level).frame],H I 0]:=by unfold fv;rw[hd]
   rw[hv] at HD;have hdE:Hid (aD (c.word s) c.level=aD (c.word s) c.level):=G rfl;generalize hE:aD (c.word s) c.level=e at*
   have HE0:=G hE;obtain⟨th,lf,rg,us,di,fr⟩:=e;dsimp only at hstep;clear hv hdE hE;cases th with
   |false=>
    rw[if_pos rfl] at hstep;have hy:=G hstep;clear hstep ht hp hon hmk hc hs hd HE0;generalize c.word s=v at*
    generalize ap c.a.page c.level=ix at*
    go_enter func162,ntmps162;go_upto_region 1 with fail;generalize W.alloc _=W1 at*
    generalize W.heap.size=X0 at*
    have hb:=h1.p2;unfold aP at hb;obtain⟨k0,k1,k2,k3,k4,k5,k6,k7,k8,k9,k10,k11,k12,k13⟩:=hb.cells14;have v2:=ae k2;have v5:=ae k5;have v6:=ae k6;clear hb k0 k1 k2 k3 k4 k5 k6 k7 k8 k9 k10 k11 k12 k13;refine au (by kernel_rfl) (by kernel_rfl) ?_;repeat(first|go_big_quiet_step ((first|(go_at_call 152;exact T (HI.out _))|(go_at_call 170;exact T (HL.out _ _ (h1.right.right.via _)))))|quiet_step ((first|(go_at_call 152;exact T (HI.out _))|(go_at_call 170;exact T (HL.out _ _ (h1.right.right.via _))))))
    refine wpQuiet_nil ?_;intro _ hw';obtain⟨uq,hw''⟩:=hw';subst hw'';have h2:=h1.via uq;have x2:=x1.below (aE _ uq);generalize gU W1 uq=W2 at*
    clear h1 x1 v2 v5 v6 HI HL;have hb:=h2.p2;unfold aP at hb;have k5:W2.cell? (Q b 5 J)=S (H I c.level):=hb.cell 5;have kl:=hb.lt;clear hb;go_wp2_with fail
    refine(HD.out _).mono ?_;rintro e2 w3 ⟨rfl,b3⟩;have h3:=h2.below b3;have x3:=x2.below b3;clear h2 x2 b3 HD k5 kl;have h4:=h3.new #[M D,M lf,H I rg,M us,M di,H I fr] 70;have x4:=x3.alloc (.cells #[M D,M lf,H I rg,M us,M di,H I fr] 70);clear h3 x3;go_upto_region 8 with fail;generalize w3.alloc _=w4 at*
    generalize w3.heap.size=EB at*
    obtain⟨e0',e1',e2',e3',e4',e5'⟩:=h4.cells6;have el:=h4.lt;have h6:U w4 (aP b root c w0 e0*(aa X0 #[M D,H I 0,H I 0,H I 0,H I 0,H I 0,H I 0,H I 0,M D] 181*(aa EB #[M D,M lf,H I rg,M us,M di,H I fr] 70*(ai f s*R)))):=(h4).eq (by ac_rfl);have HE:=G (fun R X h=>yh b root c w0 e0 ⟨1,0,0⟩ ⟨Mp.zero,D⟩ R X h);go_wp2_with fail
    refine(HE.out _ _ h6).mono ?_;rintro e2 w6 ⟨rfl,h8,x8⟩;have h7:=h8.p2;obtain⟨r0,r1,r2,r3,r4,r5,r6,r7,r8⟩:=h7.cells9;obtain⟨g0,g1,g2,g3,g4,g5,g6,g7,g8⟩:=h7.frees9;have rl:=h7.lt;have x7:=(x4).trans x8;clear h6 h8 HE x8;go_wp2_with fail
    refine am (fun wz=>U wz (aa X0 #[M F,H I 1,H I 0,H I 0,H I 0,H I 0,H I 0,H I 0,M D] 181*(aP b root c.idle w0 e0*(aa EB #[M D,M lf,H I rg,M us,M di,H I fr] 70*(ai f s*R))))∧a3 W wz) ⟨h7.set9 _ _ _ _ _ _ _ _ _,ah⟩ ?_;rintro wz ⟨hz,xz⟩;exact N (aA results162 rfl rfl (cD hz)) rfl ⟨by rw[hy.out];rfl,by rw[hy.out];exact bM (Mk.idle _ _ _) hz.right.p2.right,xz⟩
   |true=>
    rw[if_neg (by simp)] at hstep;cases lf with
    |false=>
     rw[if_pos rfl] at hstep;have hy:=G hstep;have hwr:IntKind.i64.wrap (c.level - 1)=c.level - 1:=by
      have:=hc.l0 hon;have:=hc.l3 hon;rw[Z];omega
     have HM:=G (Mk.off (c:={c with t:=fr,level:=c.level - 1}) w0 e0 hmk);clear hstep ht hp hon hmk hc hs hd HE0;generalize c.word s=v at*
     generalize ap c.a.page c.level=ix at*
     go_enter func162,ntmps162;go_upto_region 1 with fail;generalize W.alloc _=W1 at*
     generalize W.heap.size=X0 at*
     have hb:=h1.p2;unfold aP at hb;obtain⟨k0,k1,k2,k3,k4,k5,k6,k7,k8,k9,k10,k11,k12,k13⟩:=hb.cells14;have v2:=ae k2;have v5:=ae k5;have v6:=ae k6;clear hb k0 k1 k2 k3 k4 k5 k6 k7 k8 k9 k10 k11 k12 k13;refine au (by kernel_rfl) (by kernel_rfl) ?_;repeat(first|go_big_quiet_step ((first|(go_at_call 152;exact T (HI.out _))|(go_at_call 170;exact T (HL.out _ _ (h1.right.right.via _)))))|quiet_step ((first|(go_at_call 152;exact T (HI.out _))|(go_at_call 170;exact T (HL.out _ _ (h1.right.right.via _))))))
     refine wpQuiet_nil ?_;intro _ hw';obtain⟨uq,hw''⟩:=hw';subst hw'';have h2:=h1.via uq;have x2:=x1.below (aE _ uq);generalize gU W1 uq=W2 at*
     clear h1 x1 v2 v5 v6 HI HL;have hb:=h2.p2;unfold aP at hb;have k5:W2.cell? (Q b 5 J)=S (H I c.level):=hb.cell 5;have kl:=hb.lt;clear hb;go_wp2_with fail
     refine(HD.out _).mono ?_;rintro e2 w3 ⟨rfl,b3⟩;have h3:=h2.below b3;have x3:=x2.below b3;clear h2 x2 b3 HD k5 kl;have h4:=h3.new #[M F,M D,H I rg,M us,M di,H I fr] 70;have x4:=x3.alloc (.cells #[M F,M D,H I rg,M us,M di,H I fr] 70);clear h3 x3;go_upto_region 10 with fail;generalize w3.alloc _=w4 at*
     generalize w3.heap.size=EB at*
     obtain⟨e0',e1',e2',e3',e4',e5'⟩:=h4.cells6;have el:=h4.lt;have h5:U w4 (aP b root c w0 e0*(aa EB #[M F,M D,H I rg,M us,M di,H I fr] 70*(aa X0 #[M D,H I 0,H I 0,H I 0,H I 0,H I 0,H I 0,H I 0,M D] 181*(ai f s*R)))):=h4.eq (by ac_rfl);have h6:U w4 (aP b root c w0 e0*(aa X0 #[M D,H I 0,H I 0,H I 0,H I 0,H I 0,H I 0,H I 0,M D] 181*(aa EB #[M F,M D,H I rg,M us,M di,H I fr] 70*(ai f s*R)))):=h4.eq (by ac_rfl);unfold aP at h5 h6;have n1:=h5.ne;have n2:=n1.symm;have n3:=h6.ne;have n4:=n3.symm;have k5:w4.cell? (Q b 5 J)=S (H I c.level):=h5.cell 5;have k6:w4.cell? (Q b 6 J)=S (H I c.t):=h5.cell 6;have f5:=h5.free 5;have f6:=h5.free 6;have kl:=h5.lt;have h7:U ((w4.setCell (Q b 5 J) (H I (c.level - 1))).setCell (Q b 6 J) (H I fr)) (aP b root {c with t:=fr,level:=c.level - 1} w0 e0*(aa X0 #[M D,H I 0,H I 0,H I 0,H I 0,H I 0,H I 0,H I 0,M D] 181*(aa EB #[M F,M D,H I rg,M us,M di,H I fr] 70*(ai f s*R)))):=(h6.set 5 _).set 6 _;obtain⟨r0,r1,r2,r3,r4,r5,r6,r7,r8⟩:=h6.right.cells9;obtain⟨g0,g1,g2,g3,g4,g5,g6,g7,g8⟩:=h6.right.frees9;have rl:=h6.right.lt;clear h4 h5 h6;go_wp2_with fail
     refine am (fun wz=>U wz (aa X0 #[M D,H I 0,H I 0,H I 0,H I 0,H I 0,H I 0,H I 0,M D] 181*(aP b root {c with t:=fr,level:=c.level - 1} w0 e0*(aa EB #[M F,M D,H I rg,M us,M di,H I fr] 70*(ai f s*R))))∧a3 W wz) ⟨h7.p2.set9 _ _ _ _ _ _ _ _ _,ah⟩ ?_;rintro wz ⟨hz,xz⟩;exact N (aA results162 rfl rfl (cD hz)) rfl ⟨by rw[hy.out];rfl,by rw[hy.out];exact bM HM.out hz.right.p2.right,xz⟩
    |true=>
     rw[if_neg (by simp)] at hstep;have HY:=G (fun X=>lZ rg c.a.page c.a.kind c.a.user X);rw[show(⟨c.a.page,c.a.kind,c.a.user⟩:Ac)=c.a from rfl] at HY;cases hmay:may rg c.a with
     |false=>
      rw[if_pos hmay] at hstep;rw[hmay] at HY;have hy:=G hstep;clear hstep ht hp hon hmk hc hs hd HE0 hmay;generalize c.word s=v at*
      generalize ap c.a.page c.level=ix at*
      go_enter func162,ntmps162;go_upto_region 1 with fail;generalize W.alloc _=W1 at*
      generalize W.heap.size=X0 at*
      have hb:=h1.p2;unfold aP at hb;obtain⟨k0,k1,k2,k3,k4,k5,k6,k7,k8,k9,k10,k11,k12,k13⟩:=hb.cells14;have v2:=ae k2;have v5:=ae k5;have v6:=ae k6;clear hb k0 k1 k2 k3 k4 k5 k6 k7 k8 k9 k10 k11 k12 k13;refine au (by kernel_rfl) (by kernel_rfl) ?_;repeat(first|go_big_quiet_step ((first|(go_at_call 152;exact T (HI.out _))|(go_at_call 170;exact T (HL.out _ _ (h1.right.right.via _)))))|quiet_step ((first|(go_at_call 152;exact T (HI.out _))|(go_at_call 170;exact T (HL.out _ _ (h1.right.right.via _))))))
      refine wpQuiet_nil ?_;intro _ hw';obtain⟨uq,hw''⟩:=hw';subst hw'';have h2:=h1.via uq;have x2:=x1.below (aE _ uq);generalize gU W1 uq=W2 at*
      clear h1 x1 v2 v5 v6 HI HL;have hb:=h2.p2;unfold aP at hb;have k5:W2.cell? (Q b 5 J)=S (H I c.level):=hb.cell 5;have kl:=hb.lt;clear hb;go_wp2_with fail
      refine(HD.out _).mono ?_;rintro e2 w3 ⟨rfl,b3⟩;have h3:=h2.below b3;have x3:=x2.below b3;clear h2 x2 b3 HD k5 kl;have h4:=h3.new #[M F,M F,H I rg,M us,M di,H I fr] 70;have x4:=x3.alloc (.cells #[M F,M F,H I rg,M us,M di,H I fr] 70);clear h3 x3;go_upto_region 13 with fail;generalize w3.alloc _=w4 at*
      generalize w3.heap.size=EB at*
      obtain⟨e0',e1',e2',e3',e4',e5'⟩:=h4.cells6;have el:=h4.lt;have hb:U w4 (aP b root c w0 e0*(aa EB #[M F,M F,H I rg,M us,M di,H I fr] 70*(aa X0 #[M D,H I 0,H I 0,H I 0,H I 0,H I 0,H I 0,H I 0,M D] 181*(ai f s*R)))):=h4.eq (by ac_rfl);unfold aP at hb;have v2:=ae (hb.cell 2);have v3:=ae (hb.cell 3);have v4:=ae (hb.cell 4);have ve2:=ae e2';clear hb e0' e1' e2' e3' e4' e5' el;refine au (by kernel_rfl) (by kernel_rfl) ?_;repeat(first|go_big_quiet_step ((go_at_call 103;exact Y (HY.out _)))|quiet_step ((go_at_call 103;exact Y (HY.out _))))
      refine wpQuiet_nil ?_;intro _ hw';obtain⟨uq,hw''⟩:=hw';subst hw'';have h5:=h4.via uq;have x5:=x4.below (aE _ uq);generalize gU w4 uq=w5 at*
      clear h4 x4 v2 v3 v4 ve2 HY;have h6:U w5 (aP b root c w0 e0*(aa X0 #[M D,H I 0,H I 0,H I 0,H I 0,H I 0,H I 0,H I 0,M D] 181*(aa EB #[M F,M F,H I rg,M us,M di,H I fr] 70*(ai f s*R)))):=(h5).eq (by ac_rfl);have HE:=G (fun R X h=>yh b root c w0 e0 ⟨2,0,0⟩ ⟨Mp.zero,D⟩ R X h);go_wp2_with fail
      refine(HE.out _ _ h6).mono ?_;rintro e2 w6 ⟨rfl,h8,x8⟩;have h7:=h8.p2;obtain⟨r0,r1,r2,r3,r4,r5,r6,r7,r8⟩:=h7.cells9;obtain⟨g0,g1,g2,g3,g4,g5,g6,g7,g8⟩:=h7.frees9;have rl:=h7.lt;have x7:=(x5).trans x8;clear h6 h8 HE x8;go_wp2_with fail
      refine am (fun wz=>U wz (aa X0 #[M F,H I 2,H I 0,H I 0,H I 0,H I 0,H I 0,H I 0,M D] 181*(aP b root c.idle w0 e0*(aa EB #[M F,M F,H I rg,M us,M di,H I fr] 70*(ai f s*R))))∧a3 W wz) ⟨h7.set9 _ _ _ _ _ _ _ _ _,ah⟩ ?_;rintro wz ⟨hz,xz⟩;exact N (aA results162 rfl rfl (cD hz)) rfl ⟨by rw[hy.out];rfl,by rw[hy.out];exact bM (Mk.idle _ _ _) hz.right.p2.right,xz⟩
     |true=>
      rw[if_neg (by rw[hmay];simp)] at hstep;rw[hmay] at HY;have hwd:Hid (HE0.out=HE0.out):=G rfl;have HDN:=G (fun R X h=>xt b root c (c.word s) ⟨F,F,rg,us,di,fr⟩ R X h);have HMK:=G (fun R X h=>oK b root c (c.word s) ⟨F,F,rg,us,di,fr⟩ R X h);have HM1:Hid (Mk {c with mark:=F,w:=c.word s} (c.word s) ⟨F,F,rg,us,di,fr⟩):=G (fun _=>⟨rfl,HE0.out.symm⟩);have hst2:lQ {c with mark:=F,w:=c.word s}=2:=by unfold lQ;simp[hon]
      cases hr:dZ ⟨F,F,rg,us,di,fr⟩ c.a with
      |true=>
       rw[if_pos hr] at hstep;have hme:=(mO ⟨F,F,rg,us,di,fr⟩ c.a).2 hr;rw[hme] at HDN HMK;have hy:=G hstep;clear hstep ht hp hon hmk hc hs hd HE0 hmay hr hme hwd HM1 hst2;generalize c.word s=v at*
       generalize ap c.a.page c.level=ix at*
       go_enter func162,ntmps162;go_upto_region 1 with fail;generalize W.alloc _=W1 at*
       generalize W.heap.size=X0 at*
       have hb:=h1.p2;unfold aP at hb;obtain⟨k0,k1,k2,k3,k4,k5,k6,k7,k8,k9,k10,k11,k12,k13⟩:=hb.cells14;have v2:=ae k2;have v5:=ae k5;have v6:=ae k6;clear hb k0 k1 k2 k3 k4 k5 k6 k7 k8 k9 k10 k11 k12 k13;refine au (by kernel_rfl) (by kernel_rfl) ?_;repeat(first|go_big_quiet_step ((first|(go_at_call 152;exact T (HI.out _))|(go_at_call 170;exact T (HL.out _ _ (h1.right.right.via _)))))|quiet_step ((first|(go_at_call 152;exact T (HI.out _))|(go_at_call 170;exact T (HL.out _ _ (h1.right.right.via _))))))
       refine wpQuiet_nil ?_;intro _ hw';obtain⟨uq,hw''⟩:=hw';subst hw'';have h2:=h1.via uq;have x2:=x1.below (aE _ uq);generalize gU W1 uq=W2 at*
       clear h1 x1 v2 v5 v6 HI HL;have hb:=h2.p2;unfold aP at hb;have k5:W2.cell? (Q b 5 J)=S (H I c.level):=hb.cell 5;have kl:=hb.lt;clear hb;go_wp2_with fail
       refine(HD.out _).mono ?_;rintro e2 w3 ⟨rfl,b3⟩;have h3:=h2.below b3;have x3:=x2.below b3;clear h2 x2 b3 HD k5 kl;have h4:=h3.new #[M F,M F,H I rg,M us,M di,H I fr] 70;have x4:=x3.alloc (.cells #[M F,M F,H I rg,M us,M di,H I fr] 70);clear h3 x3;go_upto_region 13 with fail;generalize w3.alloc _=w4 at*
       generalize w3.heap.size=EB at*
       obtain⟨e0',e1',e2',e3',e4',e5'⟩:=h4.cells6;have el:=h4.lt;have hb:U w4 (aP b root c w0 e0*(aa EB #[M F,M F,H I rg,M us,M di,H I fr] 70*(aa X0 #[M D,H I 0,H I 0,H I 0,H I 0,H I 0,H I 0,H I 0,M D] 181*(ai f s*R)))):=h4.eq (by ac_rfl);unfold aP at hb;have v2:=ae (hb.cell 2);have v3:=ae (hb.cell 3);have v4:=ae (hb.cell 4);have ve2:=ae e2';clear hb e0' e1' e2' e3' e4' e5' el;refine au (by kernel_rfl) (by kernel_rfl) ?_;repeat(first|go_big_quiet_step ((go_at_call 103;exact Y (HY.out _)))|quiet_step ((go_at_call 103;exact Y (HY.out _))))
       refine wpQuiet_nil ?_;intro _ hw';obtain⟨uq,hw''⟩:=hw';subst hw'';have h5:=h4.via uq;have x5:=x4.below (aE _ uq);generalize gU w4 uq=w5 at*
       clear h4 x4 v2 v3 v4 ve2 HY;go_upto_region 15 with fail;have h6:U w5 (aP b root c w0 e0*(aa EB #[M F,M F,H I rg,M us,M di,H I fr] 70*(aa X0 #[M D,H I 0,H I 0,H I 0,H I 0,H I 0,H I 0,H I 0,M D] 181*(ai f s*R)))):=h5.eq (by ac_rfl);clear h5;unfold aP at h6;go_cut [] (fun wx=>U wx (aP b root c v ⟨F,F,rg,us,di,fr⟩*(aa X0 #[M D,H I 0,H I 0,H I 0,H I 0,H I 0,H I 0,H I 0,M D] 181*(aa EB #[M F,M F,H I rg,M us,M di,H I fr] 70*(ai f s*R))))∧a3 W wx)
       case first=>
        have n1:=h6.ne;have n2:=n1.symm;obtain⟨k0,k1,k2,k3,k4,k5,k6,k7,k8,k9,k10,k11,k12,k13⟩:=h6.cells14;obtain⟨f1,f5,f6,f7,f8,f9,f10,f11,f12,f13⟩:=h6.frees14;have kl:=h6.lt;obtain⟨e0',e1',e2',e3',e4',e5'⟩:=h6.right.cells6;have el:=h6.right.lt;clear k0 k1 k2 k3 k4 k5 k6 f1 f5 f6;go_region
        all_goals
         go_wp2_with fail
         go_meet
         case rel=>
          refine⟨Has.eq (P:=aP b root c v ⟨F,F,rg,us,di,fr⟩*(aa EB #[M F,M F,H I rg,M us,M di,H I fr] 70*(aa X0 #[M D,H I 0,H I 0,H I 0,H I 0,H I 0,H I 0,H I 0,M D] 181*(ai f s*R)))) ?_ (by ac_rfl),ah⟩;with_reducible exact(pp h6 v ⟨F,F,rg,us,di,fr⟩).drew
       case rest=>
        obtain⟨h7,x7⟩:=hcut;clear h6 x5;go_wp2_with fail
        have ve0:=ae (h7.right.right.cell 0);have ve1:=ae (h7.right.right.cell 1);have ve2:=ae (h7.right.right.cell 2);have ve3:=ae (h7.right.right.cell 3);have ve4:=ae (h7.right.right.cell 4);have ve5:=ae (h7.right.right.cell 5);refine au (by kernel_rfl) (by kernel_rfl) ?_;repeat(first|go_big_quiet_step ((go_at_call 163;exact Y (HMK.out _ _ (h7.via _))))|quiet_step ((go_at_call 163;exact Y (HMK.out _ _ (h7.via _)))))
        refine wpQuiet_nil ?_;intro _ hw';obtain⟨uq,hw''⟩:=hw';subst hw'';have h8:=h7.via uq;have x8:=x7.below (aE _ uq);generalize gU wc uq=w8 at*
        clear h7 x7 ve0 ve1 ve2 ve3 ve4 ve5 HMK;go_wp2_with fail
        refine(HDN.out _ _ h8).mono ?_;rintro e2 w9 ⟨rfl,h9,x9⟩;have hA:=h9.p2;obtain⟨r0,r1,r2,r3,r4,r5,r6,r7,r8⟩:=hA.cells9;obtain⟨g0,g1,g2,g3,g4,g5,g6,g7,g8⟩:=hA.frees9;have rl:=hA.lt;have xA:=x8.trans x9;clear h8 x8 h9 x9 HDN;have hyr:=G (show(c.leafEnd s ⟨F,F,rg,us,di,fr⟩)=⟨c.idle,s,⟨F,bF (aB ⟨F,F,rg,us,di,fr⟩ c.level c.a.page) c.a,⟨aB ⟨F,F,rg,us,di,fr⟩ c.level c.a.page,di⟩⟩,0⟩ from rfl);generalize bF (aB ⟨F,F,rg,us,di,fr⟩ c.level c.a.page) c.a=an at*
        generalize aB ⟨F,F,rg,us,di,fr⟩ c.level c.a.page=lm at*
        go_wp2_with fail
        refine am (fun wz=>U wz (aa X0 #[M F,H I an.fin,H I an.frame,H I an.rights,H I lm.page,H I lm.size,H I lm.frame,H I lm.rights,M di] 181*(aP b root c.idle v ⟨F,F,rg,us,di,fr⟩*(aa EB #[M F,M F,H I rg,M us,M di,H I fr] 70*(ai f s*R))))∧a3 W wz) ⟨hA.set9 _ _ _ _ _ _ _ _ _,ah⟩ ?_;rintro wz ⟨hz,xz⟩;exact N (aA results162 rfl rfl (cD hz)) rfl ⟨by rw[hy.out,hyr.out];rfl,by rw[hy.out,hyr.out];exact bM (Mk.idle _ _ _) hz.right.p2.right,xz⟩
      |false=>
       rw[if_neg (by rw[hr];simp)] at hstep;have hcase:us=D∨(us=F∧di=D∧(c.a.kind==1)=F):=by
        unfold dZ at hr;cases us with
        |false=>exact .inl rfl
        |true=>
         right;cases di with
         |true=>simp at hr
         |false=>exact⟨rfl,rfl,by simpa using hr⟩
       have hy:=G hstep;have HST2:=G hst2;have HMK':Hid (∀(R:ab) (X:ag),U X (aP b root c (c.word s) ⟨F,F,rg,us,di,fr⟩*R)→a5 prog 163 #[.pointer (S (Q b 0 J))] X (bf (.agg #[M F,M F,H I rg,M F,M (di||c.a.kind==1),H I fr]) X)):=G (fun R X h=>HMK.out R X h);clear hstep ht hp hon hmk hc hs hd HE0 hmay hr hwd HDN hst2 HMK;have HMK:=HMK';clear HMK';generalize c.word s=v at*
       generalize ap c.a.page c.level=ix at*
       rcases hcase with rfl|⟨rfl,rfl,hk1⟩
       ·generalize (di||c.a.kind==1)=B at HMK
        go_enter func162,ntmps162;go_upto_region 1 with fail;generalize W.alloc _=W1 at*
        generalize W.heap.size=X0 at*
        have hb:=h1.p2;unfold aP at hb;obtain⟨k0,k1,k2,k3,k4,k5,k6,k7,k8,k9,k10,k11,k12,k13⟩:=hb.cells14;have v2:=ae k2;have v5:=ae k5;have v6:=ae k6;clear hb k0 k1 k2 k3 k4 k5 k6 k7 k8 k9 k10 k11 k12 k13;refine au (by kernel_rfl) (by kernel_rfl) ?_;repeat(first|go_big_quiet_step ((first|(go_at_call 152;exact T (HI.out _))|(go_at_call 170;exact T (HL.out _ _ (h1.right.right.via _)))))|quiet_step ((first|(go_at_call 152;exact T (HI.out _))|(go_at_call 170;exact T (HL.out _ _ (h1.right.right.via _))))))
        refine wpQuiet_nil ?_;intro _ hw';obtain⟨uq,hw''⟩:=hw';subst hw'';have h2:=h1.via uq;have x2:=x1.below (aE _ uq);generalize gU W1 uq=W2 at*
        clear h1 x1 v2 v5 v6 HI HL;have hb:=h2.p2;unfold aP at hb;have k5:W2.cell? (Q b 5 J)=S (H I c.level):=hb.cell 5;have kl:=hb.lt;clear hb;go_wp2_with fail
        refine(HD.out _).mono ?_;rintro e2 w3 ⟨rfl,b3⟩;have h3:=h2.below b3;have x3:=x2.below b3;clear h2 x2 b3 HD k5 kl;have h4:=h3.new #[M F,M F,H I rg,M D,M di,H I fr] 70;have x4:=x3.alloc (.cells #[M F,M F,H I rg,M D,M di,H I fr] 70);clear h3 x3;go_upto_region 13 with fail;generalize w3.alloc _=w4 at*
        generalize w3.heap.size=EB at*
        obtain⟨e0',e1',e2',e3',e4',e5'⟩:=h4.cells6;have el:=h4.lt;have hb:U w4 (aP b root c w0 e0*(aa EB #[M F,M F,H I rg,M D,M di,H I fr] 70*(aa X0 #[M D,H I 0,H I 0,H I 0,H I 0,H I 0,H I 0,H I 0,M D] 181*(ai f s*R)))):=h4.eq (by ac_rfl);unfold aP at hb;have v2:=ae (hb.cell 2);have v3:=ae (hb.cell 3);have v4:=ae (hb.cell 4);have ve2:=ae e2';clear hb e0' e1' e2' e3' e4' e5' el;refine au (by kernel_rfl) (by kernel_rfl) ?_;repeat(first|go_big_quiet_step ((go_at_call 103;exact Y (HY.out _)))|quiet_step ((go_at_call 103;exact Y (HY.out _))))
        refine wpQuiet_nil ?_;intro _ hw';obtain⟨uq,hw''⟩:=hw';subst hw'';have h5:=h4.via uq;have x5:=x4.below (aE _ uq);generalize gU w4 uq=w5 at*
        clear h4 x4 v2 v3 v4 ve2 HY;go_upto_region 15 with fail;have h6:U w5 (aP b root c w0 e0*(aa EB #[M F,M F,H I rg,M D,M di,H I fr] 70*(aa X0 #[M D,H I 0,H I 0,H I 0,H I 0,H I 0,H I 0,H I 0,M D] 181*(ai f s*R)))):=h5.eq (by ac_rfl);clear h5;unfold aP at h6;go_cut [] (fun wx=>U wx (aP b root c v ⟨F,F,rg,D,di,fr⟩*(aa X0 #[M D,H I 0,H I 0,H I 0,H I 0,H I 0,H I 0,H I 0,M D] 181*(aa EB #[M F,M F,H I rg,M D,M di,H I fr] 70*(ai f s*R))))∧a3 W wx)
        case first=>
         have n1:=h6.ne;have n2:=n1.symm;obtain⟨k0,k1,k2,k3,k4,k5,k6,k7,k8,k9,k10,k11,k12,k13⟩:=h6.cells14;obtain⟨f1,f5,f6,f7,f8,f9,f10,f11,f12,f13⟩:=h6.frees14;have kl:=h6.lt;obtain⟨e0',e1',e2',e3',e4',e5'⟩:=h6.right.cells6;have el:=h6.right.lt;clear k0 k1 k2 k3 k4 k5 k6 f1 f5 f6;go_region
         all_goals
          go_wp2_with fail
          go_meet
          case rel=>
           refine⟨Has.eq (P:=aP b root c v ⟨F,F,rg,D,di,fr⟩*(aa EB #[M F,M F,H I rg,M D,M di,H I fr] 70*(aa X0 #[M D,H I 0,H I 0,H I 0,H I 0,H I 0,H I 0,H I 0,M D] 181*(ai f s*R)))) ?_ (by ac_rfl),ah⟩;with_reducible exact(pp h6 v ⟨F,F,rg,D,di,fr⟩).drew
        case rest=>
         obtain⟨h7,x7⟩:=hcut;clear h6 x5;go_wp2_with fail
         have ve0:=ae (h7.right.right.cell 0);have ve1:=ae (h7.right.right.cell 1);have ve2:=ae (h7.right.right.cell 2);have ve3:=ae (h7.right.right.cell 3);have ve4:=ae (h7.right.right.cell 4);have ve5:=ae (h7.right.right.cell 5);refine au (by kernel_rfl) (by kernel_rfl) ?_;repeat(first|go_big_quiet_step ((go_at_call 163;exact Y (HMK.out _ _ (h7.via _))))|quiet_step ((go_at_call 163;exact Y (HMK.out _ _ (h7.via _)))))
         refine wpQuiet_nil ?_;intro _ hw';obtain⟨uq,hw''⟩:=hw';subst hw'';have h8:=h7.via uq;have x8:=x7.below (aE _ uq);generalize gU wc uq=w8 at*
         clear h7 x7 ve0 ve1 ve2 ve3 ve4 ve5 HMK;have h9:=h8;unfold aP at h9;have k1:w8.cell? (Q b 1 J)=S (H I (lQ c)):=h9.cell 1;have f1:=h9.free 1;have kl:=h9.lt;have n1:=h9.ne;have n2:=n1.symm;obtain⟨r0,r1,r2,r3,r4,r5,r6,r7,r8⟩:=h9.right.cells9;obtain⟨g0,g1,g2,g3,g4,g5,g6,g7,g8⟩:=h9.right.frees9;have rl:=h9.right.lt;have hA:U (w8.setCell (Q b 1 J) (H I 2)) (aP b root {c with mark:=F,w:=v} v ⟨F,F,rg,D,di,fr⟩*(aa X0 #[M D,H I 0,H I 0,H I 0,H I 0,H I 0,H I 0,H I 0,M D] 181*(aa EB #[M F,M F,H I rg,M D,M di,H I fr] 70*(ai f s*R)))):=by
          unfold aP gT;rw[HST2.out];exact h9.set 1 (H I 2)
         clear h8 h9;go_wp2_with fail
         refine am (fun wz=>U wz (aa X0 #[M D,H I 0,H I 0,H I 0,H I 0,H I 0,H I 0,H I 0,M D] 181*(aP b root {c with mark:=F,w:=v} v ⟨F,F,rg,D,di,fr⟩*(aa EB #[M F,M F,H I rg,M D,M di,H I fr] 70*(ai f s*R))))∧a3 W wz) ⟨hA.p2.set9 _ _ _ _ _ _ _ _ _,ah⟩ ?_;rintro wz ⟨hz,xz⟩;exact N (aA results162 rfl rfl (cD hz)) rfl ⟨by rw[hy.out];rfl,by rw[hy.out];exact bM HM1.out hz.right.p2.right,xz⟩
       ·rw[hk1] at HMK
        clear hk1;go_enter func162,ntmps162;go_upto_region 1 with fail;generalize W.alloc _=W1 at*
        generalize W.heap.size=X0 at*
        have hb:=h1.p2;unfold aP at hb;obtain⟨k0,k1,k2,k3,k4,k5,k6,k7,k8,k9,k10,k11,k12,k13⟩:=hb.cells14;have v2:=ae k2;have v5:=ae k5;have v6:=ae k6;clear hb k0 k1 k2 k3 k4 k5 k6 k7 k8 k9 k10 k11 k12 k13;refine au (by kernel_rfl) (by kernel_rfl) ?_;repeat(first|go_big_quiet_step ((first|(go_at_call 152;exact T (HI.out _))|(go_at_call 170;exact T (HL.out _ _ (h1.right.right.via _)))))|quiet_step ((first|(go_at_call 152;exact T (HI.out _))|(go_at_call 170;exact T (HL.out _ _ (h1.right.right.via _))))))
        refine wpQuiet_nil ?_;intro _ hw';obtain⟨uq,hw''⟩:=hw';subst hw'';have h2:=h1.via uq;have x2:=x1.below (aE _ uq);generalize gU W1 uq=W2 at*
        clear h1 x1 v2 v5 v6 HI HL;have hb:=h2.p2;unfold aP at hb;have k5:W2.cell? (Q b 5 J)=S (H I c.level):=hb.cell 5;have kl:=hb.lt;clear hb;go_wp2_with fail
        refine(HD.out _).mono ?_;rintro e2 w3 ⟨rfl,b3⟩;have h3:=h2.below b3;have x3:=x2.below b3;clear h2 x2 b3 HD k5 kl;have h4:=h3.new #[M F,M F,H I rg,M F,M D,H I fr] 70;have x4:=x3.alloc (.cells #[M F,M F,H I rg,M F,M D,H I fr] 70);clear h3 x3;go_upto_region 13 with fail;generalize w3.alloc _=w4 at*
        generalize w3.heap.size=EB at*
        obtain⟨e0',e1',e2',e3',e4',e5'⟩:=h4.cells6;have el:=h4.lt;have hb:U w4 (aP b root c w0 e0*(aa EB #[M F,M F,H I rg,M F,M D,H I fr] 70*(aa X0 #[M D,H I 0,H I 0,H I 0,H I 0,H I 0,H I 0,H I 0,M D] 181*(ai f s*R)))):=h4.eq (by ac_rfl);unfold aP at hb;have v2:=ae (hb.cell 2);have v3:=ae (hb.cell 3);have v4:=ae (hb.cell 4);have ve2:=ae e2';clear hb e0' e1' e2' e3' e4' e5' el;refine au (by kernel_rfl) (by kernel_rfl) ?_;repeat(first|go_big_quiet_step ((go_at_call 103;exact Y (HY.out _)))|quiet_step ((go_at_call 103;exact Y (HY.out _))))
        refine wpQuiet_nil ?_;intro _ hw';obtain⟨uq,hw''⟩:=hw';subst hw'';have h5:=h4.via uq;have x5:=x4.below (aE _ uq);generalize gU w4 uq=w5 at*
        clear h4 x4 v2 v3 v4 ve2 HY;go_upto_region 15 with fail;have h6:U w5 (aP b root c w0 e0*(aa EB #[M F,M F,H I rg,M F,M D,H I fr] 70*(aa X0 #[M D,H I 0,H I 0,H I 0,H I 0,H I 0,H I 0,H I 0,M D] 181*(ai f s*R)))):=h5.eq (by ac_rfl);clear h5;unfold aP at h6;go_cut [] (fun wx=>U wx (aP b root c v ⟨F,F,rg,F,D,fr⟩*(aa X0 #[M D,H I 0,H I 0,H I 0,H I 0,H I 0,H I 0,H I 0,M D] 181*(aa EB #[M F,M F,H I rg,M F,M D,H I fr] 70*(ai f s*R))))∧a3 W wx)
        case first=>
         have n1:=h6.ne;have n2:=n1.symm;obtain⟨k0,k1,k2,k3,k4,k5,k6,k7,k8,k9,k10,k11,k12,k13⟩:=h6.cells14;obtain⟨f1,f5,f6,f7,f8,f9,f10,f11,f12,f13⟩:=h6.frees14;have kl:=h6.lt;obtain⟨e0',e1',e2',e3',e4',e5'⟩:=h6.right.cells6;have el:=h6.right.lt;clear k0 k1 k2 k3 k4 k5 k6 f1 f5 f6;go_region
         all_goals
          go_wp2_with fail
          go_meet
          case rel=>
           refine⟨Has.eq (P:=aP b root c v ⟨F,F,rg,F,D,fr⟩*(aa EB #[M F,M F,H I rg,M F,M D,H I fr] 70*(aa X0 #[M D,H I 0,H I 0,H I 0,H I 0,H I 0,H I 0,H I 0,M D] 181*(ai f s*R)))) ?_ (by ac_rfl),ah⟩;with_reducible exact(pp h6 v ⟨F,F,rg,F,D,fr⟩).drew
        case rest=>
         obtain⟨h7,x7⟩:=hcut;clear h6 x5;go_wp2_with fail
         have ve0:=ae (h7.right.right.cell 0);have ve1:=ae (h7.right.right.cell 1);have ve2:=ae (h7.right.right.cell 2);have ve3:=ae (h7.right.right.cell 3);have ve4:=ae (h7.right.right.cell 4);have ve5:=ae (h7.right.right.cell 5);refine au (by kernel_rfl) (by kernel_rfl) ?_;repeat(first|go_big_quiet_step ((go_at_call 163;exact Y (HMK.out _ _ (h7.via _))))|quiet_step ((go_at_call 163;exact Y (HMK.out _ _ (h7.via _)))))
         refine wpQuiet_nil ?_;intro _ hw';obtain⟨uq,hw''⟩:=hw';subst hw'';have h8:=h7.via uq;have x8:=x7.below (aE _ uq);generalize gU wc uq=w8 at*
         clear h7 x7 ve0 ve1 ve2 ve3 ve4 ve5 HMK;have h9:=h8;unfold aP at h9;have k1:w8.cell? (Q b 1 J)=S (H I (lQ c)):=h9.cell 1;have f1:=h9.free 1;have kl:=h9.lt;have n1:=h9.ne;have n2:=n1.symm;obtain⟨r0,r1,r2,r3,r4,r5,r6,r7,r8⟩:=h9.right.cells9;obtain⟨g0,g1,g2,g3,g4,g5,g6,g7,g8⟩:=h9.right.frees9;have rl:=h9.right.lt;have hA:U (w8.setCell (Q b 1 J) (H I 2)) (aP b root {c with mark:=F,w:=v} v ⟨F,F,rg,F,D,fr⟩*(aa X0 #[M D,H I 0,H I 0,H I 0,H I 0,H I 0,H I 0,H I 0,M D] 181*(aa EB #[M F,M F,H I rg,M F,M D,H I fr] 70*(ai f s*R)))):=by
          unfold aP gT;rw[HST2.out];exact h9.set 1 (H I 2)
         clear h8 h9;go_wp2_with fail
         refine am (fun wz=>U wz (aa X0 #[M D,H I 0,H I 0,H I 0,H I 0,H I 0,H I 0,H I 0,M D] 181*(aP b root {c with mark:=F,w:=v} v ⟨F,F,rg,F,D,fr⟩*(aa EB #[M F,M F,H I rg,M F,M D,H I fr] 70*(ai f s*R))))∧a3 W wz) ⟨hA.p2.set9 _ _ _ _ _ _ _ _ _,ah⟩ ?_;rintro wz ⟨hz,xz⟩;exact N (aA results162 rfl rfl (cD hz)) rfl ⟨by rw[hy.out];rfl,by rw[hy.out];exact bM HM1.out hz.right.p2.right,xz⟩
theorem Ms.Ok.setW{s:Ms}(h:s.Ok)(k i:Nat){v:Int}(hv:0≤v∧v<18446744073709551616):(s.setW k i v).Ok :=⟨h.inv.setW k i hv,h.small⟩
theorem vP{s:Ms}(h:s.Ok)(root:Int)(c:Ck):(aL s root c).s.Ok :=by
 unfold aL;split;· exact h
 split;· exact h
 split;· exact h
 split;· exact h
 split;· exact h
 split;· exact h
 split;· exact h
 split;· exact h.setW _ _ (iy _ _)
 split;· exact h
 exact h
theorem rF{s:Ms}{root:Int}{c:Ck}(hc:c.Ok)(hon:c.on=F)(hmk:c.mark=F):
  aL s root c=if s.has c.t=D then⟨c,s,Rs.zero,12⟩
   else if c.word s≠c.w then⟨c.again root,s,Rs.zero,0⟩
   else c.leafEnd (s.setW c.t.toNat (ap c.a.page c.level).toNat (bq (bY (aD c.w c.level) c.a) c.level)) (bY (aD c.w c.level) c.a):=by
 unfold aL;rw[if_neg (by rw[hon];simp)];split
 ·rfl
 ·by_cases hw:c.word s≠c.w
  ·rw[if_pos ⟨hmk,hw⟩,if_pos hw]
  ·rw[if_neg (fun h=>hw h.2),if_neg hw]
   have hw:c.word s=c.w:=by simpa using hw
   obtain⟨h1,h2⟩:=hc.leaf hmk;rw[hw,if_neg (by rw[hc.dec hmk];simp),if_neg (by rw[h1];simp),if_neg (by rw[h2];simp),if_neg (by rw[hc.may hmk];simp)]
theorem rG{s:Ms}{c:Ck}(hc:c.Ok)(hmk:c.mark=F):(c.leafEnd s (bY (aD c.w c.level) c.a)).r =⟨F,bF (aB (aD c.w c.level) c.level c.a.page) c.a,⟨aB (aD c.w c.level) c.level c.a.page,(bY (aD c.w c.level) c.a).dirty⟩⟩:=by
 unfold Ck.leafEnd;dsimp only;rw[gZ c.a (fp (hc.dec hmk)).1 (hc.leaf hmk).2]
set_option maxHeartbeats 8000000 in
theorem zZ(b f:Nat)(root:Int)(c:Ck)(s:Ms)(hs:s.Ok)(hc:c.Ok)(R:ab)(W:ag)(h:U W (aZ b root c*(ai f s*R))):
  a5 prog 106 #[.pointer (S (Q b 0 J)),.pointer (S (Q f 0 J))] W (cR (.tuple #[yX (aL s root c).r,H I (aL s root c).code]) (aZ b root (aL s root c).c *(ai f (aL s root c).s *R)) W):=by
 obtain⟨w0,e0,hmk0,h⟩:=fd h;have h1:=h.new #[M D,H I 0,H I 0,H I 0,H I 0,H I 0,H I 0,H I 0,M D] 181;have x1:=(Ext.refl W).alloc (.cells #[M D,H I 0,H I 0,H I 0,H I 0,H I 0,H I 0,H I 0,M D] 181);have hb:=h;unfold aP at hb;have k1:W.cell? (Q b 1 J)=S (H I (lQ c)):=hb.cell 1;have kl:=hb.lt;clear hb;cases hon:c.on with
 |false=>
  have hy:=G (show aL s root c=⟨c,s,Rs.zero,9⟩ by unfold aL;rw[if_pos hon]);have hst:lQ c=0:=by unfold lQ;rw[if_neg (by rw[hon];simp)]
  rw[hst] at k1;have HM:=G hmk0;clear hon hst hmk0 hs hc h;obtain⟨r0,r1,r2,r3,r4,r5,r6,r7,r8⟩:=h1.cells9;obtain⟨g0,g1,g2,g3,g4,g5,g6,g7,g8⟩:=h1.frees9;have rl:=h1.lt;go_enter func106,ntmps106;go_wp2_with fail
  refine am (fun wz=>U wz (aa W.heap.size #[M D,H I 0,H I 0,H I 0,H I 0,H I 0,H I 0,H I 0,M D] 181*(aP b root c w0 e0*(ai f s*R)))∧a3 W wz) ⟨h1,ah⟩ ?_;rintro wz ⟨hz,xz⟩;exact N (aA results106 rfl rfl (cD hz)) rfl ⟨by rw[hy.out];rfl,by rw[hy.out];exact bM HM.out hz.right,xz⟩
 |true=>
  cases hmk:c.mark with
  |false=>
   have HR:=G (fun R X h=>zY b f root c s hs hc hon hmk w0 e0 R X h);have hst:lQ c=1:=by unfold lQ;rw[if_pos hon,if_neg (by rw[hmk];simp)]
   rw[hst] at k1;have h2:U _ (aP b root c w0 e0*(ai f s*(aa W.heap.size #[M D,H I 0,H I 0,H I 0,H I 0,H I 0,H I 0,H I 0,M D] 181*R))):=h1.eq (by ac_rfl);clear hon hmk hst hmk0 hs hc h h1;generalize aL s root c=r at*
   go_enter func106,ntmps106;go_wp2_with fail
   refine(HR.out _ _ h2).mono ?_;rintro e2 w3 ⟨rfl,h3,x3⟩;have h4:U w3 (aa W.heap.size #[M D,H I 0,H I 0,H I 0,H I 0,H I 0,H I 0,H I 0,M D] 181*(aZ b root r.c*(ai f r.s*R))):=h3.eq (by ac_rfl);have x4:=x1.trans x3;clear h2 h3 x1 x3 HR k1 kl;obtain⟨r0,r1,r2,r3,r4,r5,r6,r7,r8⟩:=h4.cells9;obtain⟨g0,g1,g2,g3,g4,g5,g6,g7,g8⟩:=h4.frees9;have rl:=h4.lt;go_wp2_with fail
   refine am (fun wz=>U wz (aa W.heap.size #[M r.r.fin,H I r.r.an.fin,H I r.r.an.frame,H I r.r.an.rights,H I r.r.ln.m.page,H I r.r.ln.m.size,H I r.r.ln.m.frame,H I r.r.ln.m.rights,M r.r.ln.dirty] 181*(aZ b root r.c*(ai f r.s*R)))∧a3 W wz) ⟨h4.set9 _ _ _ _ _ _ _ _ _,ah⟩ ?_;rintro wz ⟨hz,xz⟩;exact N (aA results106 rfl rfl (cD hz)) rfl ⟨rfl,hz.right,xz⟩
  |true=>
   obtain⟨rfl,rfl⟩:=hmk0 hmk;have hstep:=rF (s:=s) (root:=root) hc hon hmk;have hst:lQ c=2:=by unfold lQ;rw[if_pos hon,if_pos hmk]
   rw[hst] at k1;have hp:=gj (hc.acc hon);have HI:=G (fun X=>j4 c.a.page c.level X);have hhw:=eI (s:=s) (t:=c.t) hp (hc.l0 hon) (hc.l3 hon);have hword:c.word s=s.wd c.t.toNat (ap c.a.page c.level).toNat :=rfl;have HM:=G (show Mk c c.w (aD c.w c.level) from hmk0);have HRS:=G (fun s'=>rG (s:=s') hc hmk);have HMK:=G (fun R X h=>oK b root c c.w (aD c.w c.level) R X h);have HDN:=G (fun R X h=>xt b root c c.w (aD c.w c.level) R X h);have HEN:=G (fun X=>kq (bY (aD c.w c.level) c.a) c.level X);have h1':U _ (aP b root c c.w (aD c.w c.level)*(aa W.heap.size #[M D,H I 0,H I 0,H I 0,H I 0,H I 0,H I 0,H I 0,M D] 181*(ai f s*R))):=h1.p2;clear h1;have h1:=h1';clear h1' h;cases ht:s.has c.t with
   |false=>
    have hy:=G (hstep.trans (if_pos ht));have hsb:jc s c.t (ap c.a.page c.level) c.w=D:=by unfold jc;rw[hhw,ht];rfl
    have HSW:=G (fun R X h=>vy f s c.t (ap c.a.page c.level) (bq (bY (aD c.w c.level) c.a) c.level) c.w R X h);have hss:iG s c.t (ap c.a.page c.level) c.w (bq (bY (aD c.w c.level) c.a) c.level)=s:=by unfold iG;rw[hsb];rfl
    rw[hsb,hss] at HSW;have HTK:=G (fun R X h=>vx f s c.t R X h);rw[ht] at HTK;clear hstep ht hsb hss hword hhw hp hon hmk hst hmk0 hs hc HRS HDN;generalize bq (bY (aD c.w c.level) c.a) c.level=x at*
    generalize bY (aD c.w c.level) c.a=me at*
    generalize aD c.w c.level=e0 at*
    generalize ap c.a.page c.level=ix at*
    go_enter func106,ntmps106;go_upto_region 5 with fail;generalize W.alloc _=W1 at*
    generalize W.heap.size=X0 at*
    clear k1 kl;have hb:=h1;unfold aP at hb;have v5:=ae (hb.cell 5);clear hb;refine au (by kernel_rfl) (by kernel_rfl) ?_;repeat(first|go_big_quiet_step ((first|(go_at_call 163;exact Y (HMK.out _ _ (h1.via _)))|(go_at_call 157;exact Y (HEN.out _))))|quiet_step ((first|(go_at_call 163;exact Y (HMK.out _ _ (h1.via _)))|(go_at_call 157;exact Y (HEN.out _)))))
    refine wpQuiet_nil ?_;intro _ hw';obtain⟨uq,hw''⟩:=hw';subst hw'';have h2:=h1.via uq;have x2:=x1.below (aE _ uq);generalize gU W1 uq=W2 at*
    clear h1 x1 v5 HMK HEN;go_upto_region 6 with fail;have hb:=h2;unfold aP at hb;have k2:W2.cell? (Q b 2 J)=S (H I c.a.page):=hb.cell 2;have k5:W2.cell? (Q b 5 J)=S (H I c.level):=hb.cell 5;have k6:W2.cell? (Q b 6 J)=S (H I c.t):=hb.cell 6;have k7:W2.cell? (Q b 7 J)=S (H vU c.w):=hb.cell 7;have kl:=hb.lt;clear hb;have HK:=G (fun(w':ag) (P:ab) (h:U w' (aP b root c c.w e0*P))=>(by
     unfold aP at h;exact⟨h.cell 2,h.cell 5,h.cell 6,h.cell 7⟩:w'.cell? (Q b 2 J)=S (H I c.a.page)∧w'.cell? (Q b 5 J)=S (H I c.level)∧w'.cell? (Q b 6 J)=S (H I c.t)∧w'.cell? (Q b 7 J)=S (H vU c.w)))
    have h3:U W2.drew (ai f s*(aP b root c c.w e0*(aa X0 #[M D,H I 0,H I 0,H I 0,H I 0,H I 0,H I 0,H I 0,M D] 181*R))):=Has.drew (h2.eq (by ac_rfl));go_region_held3 (fun w'=>w'.cell? (Q b 2 J)=S (H I c.a.page)∧w'.cell? (Q b 5 J)=S (H I c.level)∧w'.cell? (Q b 6 J)=S (H I c.t)∧w'.cell? (Q b 7 J)=S (H vU c.w)) (first|(with_reducible exact HK.out _ _ h4.right)|go_keep) (first|(go_at_call 152;(with_reducible refine(HI.out _).mono ?_);rintro e2 w3 ⟨rfl,rfl⟩)|(go_at_call 164;(with_reducible refine(HSW.out _ _ h3).mono ?_);rintro e2 w4 ⟨rfl,h4,x4⟩))
    have x5:=x2.drew.trans x4;clear h2 h3 x2 x4 k2 k5 k6 k7 kl HK HI HSW;have h5:=h4.right;unfold aP at h5;have k6:w4.cell? (Q b 6 J)=S (H I c.t):=h5.cell 6;have kl:=h5.lt;clear h5;go_wp2_with fail
    refine(HTK.out _ _ h4).mono ?_;rintro e2 w6 ⟨rfl,rfl⟩;have h7:U w4 (aa X0 #[M D,H I 0,H I 0,H I 0,H I 0,H I 0,H I 0,H I 0,M D] 181*(aP b root c c.w e0*(ai f s*R))):=h4.eq (by ac_rfl);obtain⟨r0,r1,r2,r3,r4,r5,r6,r7,r8⟩:=h7.cells9;obtain⟨g0,g1,g2,g3,g4,g5,g6,g7,g8⟩:=h7.frees9;have rl:=h7.lt;clear h4 k6 kl HTK;go_wp2_with fail
    refine am (fun wz=>U wz (aa X0 #[M D,H I 0,H I 0,H I 0,H I 0,H I 0,H I 0,H I 0,M D] 181*(aP b root c c.w e0*(ai f s*R)))∧a3 W wz) ⟨h7.set9 _ _ _ _ _ _ _ _ _,ah⟩ ?_;rintro wz ⟨hz,xz⟩;exact N (aA results106 rfl rfl (cD hz)) rfl ⟨by rw[hy.out];rfl,by rw[hy.out];exact bM HM.out hz.right,xz⟩
   |true=>
    rw[if_neg (by rw[ht];simp)] at hstep;by_cases hw:c.word s=c.w
    case neg=>
     have hy:=G (hstep.trans (if_pos hw));have hsb:jc s c.t (ap c.a.page c.level) c.w=D:=by unfold jc;rw[hhw,ht,←hword];simpa using hw
     have HSW:=G (fun R X h=>vy f s c.t (ap c.a.page c.level) (bq (bY (aD c.w c.level) c.a) c.level) c.w R X h);have hss:iG s c.t (ap c.a.page c.level) c.w (bq (bY (aD c.w c.level) c.a) c.level)=s:=by unfold iG;rw[hsb];rfl
     rw[hsb,hss] at HSW;have HTK:=G (fun R X h=>vx f s c.t R X h);rw[ht] at HTK;have HAG:=G (fun R X h=>ut b root c R X h);clear hstep ht hsb hss hword hhw hp hon hmk hst hmk0 hs hc HRS HDN hw;generalize bq (bY (aD c.w c.level) c.a) c.level=x at*
     generalize bY (aD c.w c.level) c.a=me at*
     generalize aD c.w c.level=e0 at*
     generalize ap c.a.page c.level=ix at*
     go_enter func106,ntmps106;go_upto_region 5 with fail;generalize W.alloc _=W1 at*
     generalize W.heap.size=X0 at*
     clear k1 kl;have hb:=h1;unfold aP at hb;have v5:=ae (hb.cell 5);clear hb;refine au (by kernel_rfl) (by kernel_rfl) ?_;repeat(first|go_big_quiet_step ((first|(go_at_call 163;exact Y (HMK.out _ _ (h1.via _)))|(go_at_call 157;exact Y (HEN.out _))))|quiet_step ((first|(go_at_call 163;exact Y (HMK.out _ _ (h1.via _)))|(go_at_call 157;exact Y (HEN.out _)))))
     refine wpQuiet_nil ?_;intro _ hw';obtain⟨uq,hw''⟩:=hw';subst hw'';have h2:=h1.via uq;have x2:=x1.below (aE _ uq);generalize gU W1 uq=W2 at*
     clear h1 x1 v5 HMK HEN;go_upto_region 6 with fail;have hb:=h2;unfold aP at hb;have k2:W2.cell? (Q b 2 J)=S (H I c.a.page):=hb.cell 2;have k5:W2.cell? (Q b 5 J)=S (H I c.level):=hb.cell 5;have k6:W2.cell? (Q b 6 J)=S (H I c.t):=hb.cell 6;have k7:W2.cell? (Q b 7 J)=S (H vU c.w):=hb.cell 7;have kl:=hb.lt;clear hb;have HK:=G (fun(w':ag) (P:ab) (h:U w' (aP b root c c.w e0*P))=>(by
      unfold aP at h;exact⟨h.cell 2,h.cell 5,h.cell 6,h.cell 7⟩:w'.cell? (Q b 2 J)=S (H I c.a.page)∧w'.cell? (Q b 5 J)=S (H I c.level)∧w'.cell? (Q b 6 J)=S (H I c.t)∧w'.cell? (Q b 7 J)=S (H vU c.w)))
     have h3:U W2.drew (ai f s*(aP b root c c.w e0*(aa X0 #[M D,H I 0,H I 0,H I 0,H I 0,H I 0,H I 0,H I 0,M D] 181*R))):=Has.drew (h2.eq (by ac_rfl));go_region_held3 (fun w'=>w'.cell? (Q b 2 J)=S (H I c.a.page)∧w'.cell? (Q b 5 J)=S (H I c.level)∧w'.cell? (Q b 6 J)=S (H I c.t)∧w'.cell? (Q b 7 J)=S (H vU c.w)) (first|(with_reducible exact HK.out _ _ h4.right)|go_keep) (first|(go_at_call 152;(with_reducible refine(HI.out _).mono ?_);rintro e2 w3 ⟨rfl,rfl⟩)|(go_at_call 164;(with_reducible refine(HSW.out _ _ h3).mono ?_);rintro e2 w4 ⟨rfl,h4,x4⟩))
     have x5:=x2.drew.trans x4;clear h2 h3 x2 x4 k2 k5 k6 k7 kl HK HI HSW;have h5:=h4.right;unfold aP at h5;have k6:w4.cell? (Q b 6 J)=S (H I c.t):=h5.cell 6;have kl:=h5.lt;clear h5;go_wp2_with fail
     refine(HTK.out _ _ h4).mono ?_;rintro e2 w6 ⟨rfl,rfl⟩;go_wp2_with fail
     refine(HAG.out _ _ (bM HM.out h4.p2)).mono ?_;rintro e2 w6 ⟨rfl,h6,x6⟩;have h7:U w6 (aa X0 #[M D,H I 0,H I 0,H I 0,H I 0,H I 0,H I 0,H I 0,M D] 181*(aZ b root (c.again root)*(ai f s*R))):=h6.eq (by ac_rfl);have x7:=x5.trans x6;obtain⟨r0,r1,r2,r3,r4,r5,r6,r7,r8⟩:=h7.cells9;obtain⟨g0,g1,g2,g3,g4,g5,g6,g7,g8⟩:=h7.frees9;have rl:=h7.lt;clear h4 h6 k6 kl HTK x5 x6 HAG;go_wp2_with fail
     refine am (fun wz=>U wz (aa X0 #[M D,H I 0,H I 0,H I 0,H I 0,H I 0,H I 0,H I 0,M D] 181*(aZ b root (c.again root)*(ai f s*R)))∧a3 W wz) ⟨h7.set9 _ _ _ _ _ _ _ _ _,ah⟩ ?_;rintro wz ⟨hz,xz⟩;exact N (aA results106 rfl rfl (cD hz)) rfl ⟨by rw[hy.out];rfl,by rw[hy.out];exact hz.right,xz⟩
    case pos=>
     have hy:=G (hstep.trans (if_neg (fun h=>h hw)));have hsb:jc s c.t (ap c.a.page c.level) c.w=F:=by unfold jc;rw[hhw,ht,←hword];simpa using hw
     have HSW:=G (fun R X h=>vy f s c.t (ap c.a.page c.level) (bq (bY (aD c.w c.level) c.a) c.level) c.w R X h);have hss:iG s c.t (ap c.a.page c.level) c.w (bq (bY (aD c.w c.level) c.a) c.level)=s.setW c.t.toNat (ap c.a.page c.level).toNat (bq (bY (aD c.w c.level) c.a) c.level):=by unfold iG;rw[hsb];rfl
     rw[hsb,hss] at HSW;have HRS':=G (HRS.out (s.setW c.t.toNat (ap c.a.page c.level).toNat (bq (bY (aD c.w c.level) c.a) c.level)));clear HRS;have HR0:Hid ((aL s root c).r =⟨F,bF (aB (aD c.w c.level) c.level c.a.page) c.a,⟨aB (aD c.w c.level) c.level c.a.page,(bY (aD c.w c.level) c.a).dirty⟩⟩∧(aL s root c).c =c.idle∧(aL s root c).code =0∧(aL s root c).s =s.setW c.t.toNat (ap c.a.page c.level).toNat (bq (bY (aD c.w c.level) c.a) c.level)):=G (by
      rw[hy.out];exact⟨HRS'.out,rfl,rfl,rfl⟩)
     clear hstep ht hsb hss hword hhw hp hon hmk hst hmk0 hs hc HRS' hw hy;generalize s.setW c.t.toNat (ap c.a.page c.level).toNat (bq (bY (aD c.w c.level) c.a) c.level)=s' at*
     generalize bq (bY (aD c.w c.level) c.a) c.level=x at*
     generalize bF (aB (aD c.w c.level) c.level c.a.page) c.a=an at*
     generalize aB (aD c.w c.level) c.level c.a.page=lm at*
     generalize bY (aD c.w c.level) c.a=me at*
     generalize aD c.w c.level=e0 at*
     generalize ap c.a.page c.level=ix at*
     go_enter func106,ntmps106;go_upto_region 5 with fail;generalize W.alloc _=W1 at*
     generalize W.heap.size=X0 at*
     clear k1 kl;have hb:=h1;unfold aP at hb;have v5:=ae (hb.cell 5);clear hb;refine au (by kernel_rfl) (by kernel_rfl) ?_;repeat(first|go_big_quiet_step ((first|(go_at_call 163;exact Y (HMK.out _ _ (h1.via _)))|(go_at_call 157;exact Y (HEN.out _))))|quiet_step ((first|(go_at_call 163;exact Y (HMK.out _ _ (h1.via _)))|(go_at_call 157;exact Y (HEN.out _)))))
     refine wpQuiet_nil ?_;intro _ hw';obtain⟨uq,hw''⟩:=hw';subst hw'';have h2:=h1.via uq;have x2:=x1.below (aE _ uq);generalize gU W1 uq=W2 at*
     clear h1 x1 v5 HMK HEN;go_upto_region 6 with fail;have hb:=h2;unfold aP at hb;have k2:W2.cell? (Q b 2 J)=S (H I c.a.page):=hb.cell 2;have k5:W2.cell? (Q b 5 J)=S (H I c.level):=hb.cell 5;have k6:W2.cell? (Q b 6 J)=S (H I c.t):=hb.cell 6;have k7:W2.cell? (Q b 7 J)=S (H vU c.w):=hb.cell 7;have kl:=hb.lt;clear hb;have HK:=G (fun(w':ag) (P:ab) (h:U w' (aP b root c c.w e0*P))=>(by
      unfold aP at h;exact⟨h.cell 2,h.cell 5,h.cell 6,h.cell 7⟩:w'.cell? (Q b 2 J)=S (H I c.a.page)∧w'.cell? (Q b 5 J)=S (H I c.level)∧w'.cell? (Q b 6 J)=S (H I c.t)∧w'.cell? (Q b 7 J)=S (H vU c.w)))
     have h3:U W2.drew (ai f s*(aP b root c c.w e0*(aa X0 #[M D,H I 0,H I 0,H I 0,H I 0,H I 0,H I 0,H I 0,M D] 181*R))):=Has.drew (h2.eq (by ac_rfl));go_region_held3 (fun w'=>w'.cell? (Q b 2 J)=S (H I c.a.page)∧w'.cell? (Q b 5 J)=S (H I c.level)∧w'.cell? (Q b 6 J)=S (H I c.t)∧w'.cell? (Q b 7 J)=S (H vU c.w)) (first|(with_reducible exact HK.out _ _ h4.right)|go_keep) (first|(go_at_call 152;(with_reducible refine(HI.out _).mono ?_);rintro e2 w3 ⟨rfl,rfl⟩)|(go_at_call 164;(with_reducible refine(HSW.out _ _ h3).mono ?_);rintro e2 w4 ⟨rfl,h4,x4⟩))
     have x5:=x2.drew.trans x4;clear h2 h3 x2 x4 k2 k5 k6 k7 kl HK HI HSW;go_wp2_with fail
     refine(HDN.out _ _ h4.p2).mono ?_;rintro e2 w6 ⟨rfl,h6,x6⟩;have h7:U w6 (aa X0 #[M D,H I 0,H I 0,H I 0,H I 0,H I 0,H I 0,H I 0,M D] 181*(aP b root c.idle c.w e0*(ai f s'*R))):=h6.eq (by ac_rfl);have x7:=x5.trans x6;obtain⟨r0,r1,r2,r3,r4,r5,r6,r7,r8⟩:=h7.cells9;obtain⟨g0,g1,g2,g3,g4,g5,g6,g7,g8⟩:=h7.frees9;have rl:=h7.lt;clear h4 h6 x5 x6 HDN;go_wp2_with fail
     refine am (fun wz=>U wz (aa X0 #[M F,H I an.fin,H I an.frame,H I an.rights,H I lm.page,H I lm.size,H I lm.frame,H I lm.rights,M me.dirty] 181*(aP b root c.idle c.w e0*(ai f s'*R)))∧a3 W wz) ⟨h7.set9 _ _ _ _ _ _ _ _ _,ah⟩ ?_;rintro wz ⟨hz,xz⟩;exact N (aA results106 rfl rfl (cD hz)) rfl ⟨by rw[HR0.out.1,HR0.out.2.2.1];rfl,by rw[HR0.out.2.1,HR0.out.2.2.2];exact bM (Mk.idle _ _ _) hz.right,xz⟩
theorem se(s:Ms)(p lw:Int)(sz:Nat)(u:Int):∀l:List Int,(nM s p lw sz l).has u=s.has u
 | []=>rfl
 | [_]=>rfl
 |_::k::ks=>se s p lw sz u (k::ks)
theorem vQ{s:Ms}(hs:s.Ok)(p:Int){lw:Int}(hlw:0≤lw∧lw<18446744073709551616)(sz:Nat):∀l:List Int,(nM s p lw sz l).Ok
 | []=>hs
 | [_]=>hs.setW _ _ hlw
 |_::k::ks=>(vQ hs p hlw sz (k::ks)).setW _ _ (by unfold iP;exact iy _ _)
structure InsAt (s:Ms) (r:Int) (x:Mp) (n m sz:Nat):Prop where
 code:(a7 s r x.page).code =0
 hp:cY x.page=F
 len:(a7 s r x.page).tabs.length =n+1
 lev:(a7 s r x.page).lev =3 - (n:Int)
 size:x.size=(sz:Int)
 sum:n+m+sz=3
 fr:m≤s.frees.length
def iB(s:Ms)(r:Int)(x:Mp)(m:Nat):List Int:=(a7 s r x.page).tabs ++eZ s m
section
variable {s:Ms} {r:Int} {x:Mp} {n m sz:Nat}
theorem InsAt.all_len(h:InsAt s r x n m sz):(iB s r x m).length =n+1+m:=by
 unfold iB;rw[al,h.len,jQ]
theorem InsAt.all_has(h:InsAt s r x n m sz)(hs:s.Ok):∀t∈iB s r x m,(a8 s m).has t=F:=fun t ht=>by
 obtain⟨_,n',hn,_,_,hu⟩:=fb h.code;rcases List.mem_append.1 ht with ht|ht
 ·exact nO hs (hu t ht) m h.fr
 ·have hl:0< (a7 s r x.page).tabs.length :=by rw[h.len];omega
  have:=hu _ (List.getElem_mem hl);exact(mv hs (Ms.has_iff.1 this).2.2 m h.fr t ht).2
theorem InsAt.store(h:InsAt s r x n m sz)(hs:s.Ok){σ:Ms}(hσ:∀u,σ.has u=(a8 s m).has u){j:Nat}{t:Int}(hj:(iB s r x m)[j]? =S t)(v:Int):
  fA σ t (ap x.page (3 - (j:Int))) v=σ.setW t.toNat (ap x.page (3 - (j:Int))).toNat v:=by
 obtain⟨hl,e⟩:=ad.1 hj;have hlen:=h.all_len;have:=h.sum;unfold fA;rw[if_pos (by rw[eI h.hp (by omega) (by omega),hσ];exact h.all_has hs t (e▸List.getElem_mem hl))]
theorem InsAt.last(h:InsAt s r x n m sz){t:Int}(ht:(iB s r x m)[n+m]? =S t)(σ:Ms)(lw:Int):nM σ x.page lw sz ((iB s r x m).drop (n+m))=σ.setW t.toNat (ap x.page (3 - ((n+m:Nat):Int))).toNat lw:=by
 obtain⟨hl,e⟩:=ad.1 ht;rw[List.drop_eq_getElem_cons hl,e,List.drop_eq_nil_of_le (by rw[h.all_len];omega)];show σ.setW t.toNat (ap x.page sz).toNat lw=_;have:=h.sum;rw[show(3:Int) - ((n+m:Nat):Int)=(sz:Int) by omega]
theorem InsAt.step(h:InsAt s r x n m sz){j:Nat}{t k:Int}(ht:(iB s r x m)[j]? =S t)(hk:(iB s r x m)[j+1]? =S k)(σ:Ms)(lw:Int):
  nM σ x.page lw sz ((iB s r x m).drop j)=(nM σ x.page lw sz ((iB s r x m).drop (j+1))).setW t.toNat (ap x.page (3 - (j:Int))).toNat (bq ⟨F,D,7,D,D,k⟩ (3 - (j:Int))):=by
 obtain⟨hl,e⟩:=ad.1 ht;obtain⟨hl2,e2⟩:=ad.1 hk;have hlen:=h.all_len;have:=h.sum;have hd:(iB s r x m).drop j=t::(iB s r x m).drop (j+1):=by rw[List.drop_eq_getElem_cons hl,e]
 have hd2:(iB s r x m).drop (j+1)=k::(iB s r x m).drop (j+2):=by rw[List.drop_eq_getElem_cons hl2,e2]
 rw[hd,hd2];show(nM σ x.page lw sz (k::(iB s r x m).drop (j+2))).setW t.toNat (ap x.page (sz+((iB s r x m).drop (j+2)).length +1:Nat)).toNat (iP k (sz+((iB s r x m).drop (j+2)).length +1))=_;have hz:sz+((iB s r x m).drop (j+2)).length +1=3 - j:=by rw[List.length_drop];omega
 rw[hz];unfold iP sY;rw[show((3 - j:Nat):Int)=3 - (j:Int) by omega]
theorem InsAt.fin(h:InsAt s r x n m sz)(hs:s.Ok)(hc:cU s r x=0):nM (a8 s m) x.page (bq (dq x) x.size) sz ((iB s r x m).drop n)=dR s r x:=by
 have:=h.sum;obtain⟨_,n',hn',_,_,hu⟩:=fb h.code;obtain⟨t,ht⟩:∃t,(a7 s r x.page).tabs[n]? =S t:=⟨_,List.getElem?_eq_getElem (by rw[h.len];omega)⟩;have hlast:=jW h.len ht;obtain⟨hl,e⟩:=ad.1 ht;unfold dR;rw[if_pos hc,hlast,h.size,h.lev];have e1:((3:Int) - (n:Int) - (sz:Int)).toNat =m:=by omega
 have e2:((sz:Nat):Int).toNat =sz:=by omega
 rw[e1,e2,pK h.hp (by omega) m s t hs h.fr (hu t (e▸List.getElem_mem hl)) (by omega)];congr 1
 unfold iB;rw[List.drop_append_of_le_length (by rw[h.len];omega),List.drop_eq_getElem_cons (by rw[h.len];omega),e,List.drop_eq_nil_of_le (by rw[h.len];omega)];rfl
end
theorem nA{x:Mp}(h:bc x=0):cY x.page=F∧∃z:Nat,x.size=z∧z≤2:=by
 have hx:=fh h;have h0:=hx.p0;have h1:=hx.p1;have h2:=hx.sp;refine⟨by unfold cY;simp;omega,?_⟩;rcases hx.size with ⟨e,_⟩|⟨e,_⟩|⟨e,_⟩
 ·exact⟨0,e,by omega⟩
 ·exact⟨1,e,by omega⟩
 ·exact⟨2,e,by omega⟩
set_option maxHeartbeats 4000000 in
theorem fV(e:En)(l:Int)(w:ag):a5 prog 136 #[.agg #[M e.there,M e.leaf,H I e.rights,M e.used,M e.dirty,H I e.frame],.int .i64 l] w (bf (H I (aj e l)) w):=by
 obtain⟨th,leaf,r,u,d,f⟩:=e;have h1:=Has.new (aT w) #[M th,M leaf,H I r,M u,M d,H I f] 70;have bl:=ar h1.right ((Ext.refl w).alloc (.cells #[M th,M leaf,H I r,M u,M d,H I f] 70));have hcell:=h1.cells6.2.2.2.2.2;clear h1;by_cases l0:l<0
 ·have hy:=G (show aj ⟨th,leaf,r,u,d,f⟩ l=1 by unfold aj;rw[if_pos (.inl l0)])
  generalize aj ⟨th,leaf,r,u,d,f⟩ l=c at hy⊢;clear hcell;go_enter func136,ntmps136;go_wp2_with fail
  go_ret;exact⟨by rw[hy.out];rfl,bl⟩
 by_cases l4:4≤l
 ·have hy:=G (show aj ⟨th,leaf,r,u,d,f⟩ l=1 by unfold aj;rw[if_pos (.inr l4)])
  generalize aj ⟨th,leaf,r,u,d,f⟩ l=c at hy⊢;clear hcell;go_enter func136,ntmps136;go_wp2_with fail
  go_ret;exact⟨by rw[hy.out];rfl,bl⟩
 have hl:¬(l<0∨4≤l):=by omega
 cases th with
 |false=>
  by_cases hz:leaf=D∧r=0∧u=D∧d=D∧f=0
  ·obtain⟨rfl,rfl,rfl,rfl,rfl⟩:=hz
   have hy:=G (show aj ⟨D,D,0,D,D,0⟩ l=0 by unfold aj;rw[if_neg hl];rfl);clear hl hcell;go_enter func136,ntmps136;go_wp2_with fail
   go_ret;exact⟨by rw[hy.out];rfl,bl⟩
  ·have hy:=G (show aj ⟨D,leaf,r,u,d,f⟩ l=7 by
    unfold aj;rw[if_neg hl,if_pos rfl,if_neg (fun e=>hz (by unfold En.zero at e;injection e with _ a b c d e;exact⟨a,b,c,d,e⟩))])
   clear hl hcell;generalize aj ⟨D,leaf,r,u,d,f⟩ l=c at hy⊢;cases leaf with
   |true=>((clear hz);go_enter func136,ntmps136;(go_wp2_with fail);go_ret;exact⟨by rw[hy.out];rfl,bl⟩)
   |false=>
    by_cases r0:r=0
    ·subst r0
     cases u with
     |true=>((clear hz);go_enter func136,ntmps136;(go_wp2_with fail);go_ret;exact⟨by rw[hy.out];rfl,bl⟩)
     |false=>
      cases d with
      |true=>((clear hz);go_enter func136,ntmps136;(go_wp2_with fail);go_ret;exact⟨by rw[hy.out];rfl,bl⟩)
      |false=>
       have f0:(f !=0)=F:=by
        rw[bne_iff_ne];intro h;exact hz ⟨rfl,rfl,rfl,rfl,h⟩
       ((clear hz);go_enter func136,ntmps136;(go_wp2_with fail);go_ret;exact⟨by rw[hy.out];rfl,bl⟩)
    ·have r0':(r !=0)=F:=by simpa using r0
     clear r0
     ((clear hz);go_enter func136,ntmps136;(go_wp2_with fail);go_ret;exact⟨by rw[hy.out];rfl,bl⟩)
 |true=>
  have ht:¬((⟨F,leaf,r,u,d,f⟩:En).there =D):=by simp
  by_cases hb:r<0
  ·have hy:=G (show aj ⟨F,leaf,r,u,d,f⟩ l=1 by unfold aj;rw[if_neg hl,if_neg ht,if_pos (.inl hb)])
   generalize aj ⟨F,leaf,r,u,d,f⟩ l=c at hy⊢;clear hl ht;go_enter func136,ntmps136;go_wp2_with fail
   go_ret;exact⟨by rw[hy.out];rfl,bl⟩
  by_cases hb:7<r
  ·have hy:=G (show aj ⟨F,leaf,r,u,d,f⟩ l=1 by unfold aj;rw[if_neg hl,if_neg ht,if_pos (.inr (.inl hb))])
   generalize aj ⟨F,leaf,r,u,d,f⟩ l=c at hy⊢;clear hl ht;go_enter func136,ntmps136;go_wp2_with fail
   go_ret;exact⟨by rw[hy.out];rfl,bl⟩
  by_cases hb:f<0
  ·have hy:=G (show aj ⟨F,leaf,r,u,d,f⟩ l=1 by unfold aj;rw[if_neg hl,if_neg ht,if_pos (.inr (.inr (.inl hb)))])
   generalize aj ⟨F,leaf,r,u,d,f⟩ l=c at hy⊢;clear hl ht;go_enter func136,ntmps136;go_wp2_with fail
   go_ret;exact⟨by rw[hy.out];rfl,bl⟩
  by_cases hb:1048576≤f
  ·have hy:=G (show aj ⟨F,leaf,r,u,d,f⟩ l=1 by unfold aj;rw[if_neg hl,if_neg ht,if_pos (.inr (.inr (.inr hb)))])
   generalize aj ⟨F,leaf,r,u,d,f⟩ l=c at hy⊢;clear hl ht;go_enter func136,ntmps136;go_wp2_with fail
   go_ret;exact⟨by rw[hy.out];rfl,bl⟩
  have hr:¬(r<0∨7<r∨f<0∨1048576≤f):=by omega
  have d1:decide (r<0)=D:=by simp;omega
  have d2:decide (7<r)=D:=by simp;omega
  have d3:decide (f<0)=D:=by simp;omega
  have d4:decide (1048576≤f)=D:=by simp;omega
  cases leaf with
  |false=>
   by_cases lz:l=0
   ·subst lz
    have hy:=G (show aj ⟨F,D,r,u,d,f⟩ 0=2 by
     unfold aj;rw[if_neg hl,if_neg ht,if_neg hr,if_pos (.inr ⟨rfl,rfl⟩)])
    generalize aj ⟨F,D,r,u,d,f⟩ 0=c at hy⊢;clear hl ht hr hcell;go_enter func136,ntmps136;go_wp2_with fail
    go_ret;exact⟨by rw[hy.out];rfl,bl⟩
   have hk:¬((D=F∧l=3)∨(D=D∧l=0)):=by simp[lz]
   have lz':(l==0)=D:=by simpa using lz
   by_cases hx:r≠7∨u=F∨d=F
   ·have hy:=G (show aj ⟨F,D,r,u,d,f⟩ l=7 by
     unfold aj;rw[if_neg hl,if_neg ht,if_neg hr,if_neg hk,if_pos rfl,if_pos hx])
    clear hl ht hr hk hcell;generalize aj ⟨F,D,r,u,d,f⟩ l=c at hy⊢;by_cases r7:r=7
    ·cases u with
     |true=>
      subst r7;clear hx;go_enter func136,ntmps136;go_wp2_with fail
      go_ret;exact⟨by rw[hy.out];rfl,bl⟩
     |false=>
      obtain rfl:d=F:=by rcases hx with hx|hx|hx;exact absurd r7 hx;cases hx;exact hx
      subst r7;clear hx;go_enter func136,ntmps136;go_wp2_with fail
      go_ret;exact⟨by rw[hy.out];rfl,bl⟩
    ·have r7':(r !=7)=F:=by simpa using r7
     clear hx r7;go_enter func136,ntmps136;go_wp2_with fail
     go_ret;exact⟨by rw[hy.out];rfl,bl⟩
   ·obtain⟨rfl,rfl,rfl⟩:r=7∧u=D∧d=D:=by
     refine⟨?_,?_,?_⟩
     ·exact Decidable.of_not_not fun h=>hx (.inl h)
     ·cases u with
      |false=>rfl
      |true=>exact absurd (.inr (.inl rfl)) hx
     ·cases d with
      |false=>rfl
      |true=>exact absurd (.inr (.inr rfl)) hx
    have hy:=G (show aj ⟨F,D,7,D,D,f⟩ l=0 by
     unfold aj;rw[if_neg hl,if_neg ht,if_neg hr,if_neg hk,if_pos rfl,if_neg hx])
    generalize aj ⟨F,D,7,D,D,f⟩ l=c at hy⊢;clear hl ht hr hk hx lz hcell;go_enter func136,ntmps136;go_wp2_with fail
    go_ret;exact⟨by rw[hy.out];rfl,bl⟩
  |true=>
   by_cases l3:l=3
   ·subst l3
    have hy:=G (show aj ⟨F,F,r,u,d,f⟩ 3=2 by
     unfold aj;rw[if_neg hl,if_neg ht,if_neg hr,if_pos (.inl ⟨rfl,rfl⟩)])
    generalize aj ⟨F,F,r,u,d,f⟩ 3=c at hy⊢;clear hl ht hr hcell;go_enter func136,ntmps136;go_wp2_with fail
    go_ret;exact⟨by rw[hy.out];rfl,bl⟩
   have hk:¬((F=F∧l=3)∨(F=D∧l=0)):=by simp[l3]
   have hsp:aj ⟨F,F,r,u,d,f⟩ l=if f % bn l≠0 then 3 else 0:=by
    unfold aj;rw[if_neg hl,if_neg ht,if_neg hr,if_neg hk,if_neg (by simp)]
   have hl3:l=0∨l=1∨l=2:=by omega
   clear hk l3;rcases hl3 with rfl|rfl|rfl
   ·skip
    have hs:bn 0=1:=rfl;have HS:=G (fun W=>bN 0 W);rw[hs] at HS hsp;have c5:=hcell;have v5:=ae c5;by_cases hm:f % 1=0
    ·have hy:=G (show aj ⟨F,F,r,u,d,f⟩ 0=0 by rw[hsp,if_neg (fun h=>h hm)])
     have hm':(f.tmod 1 !=0)=D:=by rw[Int.tmod_eq_emod_of_nonneg (by omega)];rw[bne_eq_false_iff_eq];exact hm
     have hm2:(f % 1 !=0)=D:=by rw[bne_eq_false_iff_eq];exact hm
     generalize aj ⟨F,F,r,u,d,f⟩ 0=c at hy⊢;clear hl hsp hm hs ht hr;go_enter func136,ntmps136;go_wp2_with fail
     refine au (by kernel_rfl) (by kernel_rfl) ?_;repeat(first|go_big_quiet_step ((go_at_call 137;exact T (HS.out _)))|quiet_step ((go_at_call 137;exact T (HS.out _))))
     refine wpQuiet_nil ?_;intro _ hw';obtain⟨uq,hw''⟩:=hw';subst hw'';go_wp2;go_ret;exact⟨by rw[hy.out];rfl,bl.trans ((aE _ _).mono (by simp))⟩
    ·exact absurd (Int.emod_one f) hm
   ·skip
    have hs:bn 1=8:=rfl;have HS:=G (fun W=>bN 1 W);rw[hs] at HS hsp;have c5:=hcell;have v5:=ae c5;by_cases hm:f % 8=0
    ·have hy:=G (show aj ⟨F,F,r,u,d,f⟩ 1=0 by rw[hsp,if_neg (fun h=>h hm)])
     have hm':(f.tmod 8 !=0)=D:=by rw[Int.tmod_eq_emod_of_nonneg (by omega)];rw[bne_eq_false_iff_eq];exact hm
     have hm2:(f % 8 !=0)=D:=by rw[bne_eq_false_iff_eq];exact hm
     generalize aj ⟨F,F,r,u,d,f⟩ 1=c at hy⊢;clear hl hsp hm hs ht hr;go_enter func136,ntmps136;go_wp2_with fail
     refine au (by kernel_rfl) (by kernel_rfl) ?_;repeat(first|go_big_quiet_step ((go_at_call 137;exact T (HS.out _)))|quiet_step ((go_at_call 137;exact T (HS.out _))))
     refine wpQuiet_nil ?_;intro _ hw';obtain⟨uq,hw''⟩:=hw';subst hw'';go_wp2;go_ret;exact⟨by rw[hy.out];rfl,bl.trans ((aE _ _).mono (by simp))⟩
    ·have hy:=G (show aj ⟨F,F,r,u,d,f⟩ 1=3 by rw[hsp,if_pos hm])
     have hm':(f.tmod 8 !=0)=F:=by rw[Int.tmod_eq_emod_of_nonneg (by omega)];rw[bne_iff_ne];exact hm
     have hm2:(f % 8 !=0)=F:=by rw[bne_iff_ne];exact hm
     generalize aj ⟨F,F,r,u,d,f⟩ 1=c at hy⊢;clear hl hsp hm hs ht hr;go_enter func136,ntmps136;go_wp2_with fail
     refine au (by kernel_rfl) (by kernel_rfl) ?_;repeat(first|go_big_quiet_step ((go_at_call 137;exact T (HS.out _)))|quiet_step ((go_at_call 137;exact T (HS.out _))))
     refine wpQuiet_nil ?_;intro _ hw';obtain⟨uq,hw''⟩:=hw';subst hw'';go_wp2;go_ret;exact⟨by rw[hy.out];rfl,bl.trans ((aE _ _).mono (by simp))⟩
   ·skip
    have hs:bn 2=64:=rfl;have HS:=G (fun W=>bN 2 W);rw[hs] at HS hsp;have c5:=hcell;have v5:=ae c5;by_cases hm:f % 64=0
    ·have hy:=G (show aj ⟨F,F,r,u,d,f⟩ 2=0 by rw[hsp,if_neg (fun h=>h hm)])
     have hm':(f.tmod 64 !=0)=D:=by rw[Int.tmod_eq_emod_of_nonneg (by omega)];rw[bne_eq_false_iff_eq];exact hm
     have hm2:(f % 64 !=0)=D:=by rw[bne_eq_false_iff_eq];exact hm
     generalize aj ⟨F,F,r,u,d,f⟩ 2=c at hy⊢;clear hl hsp hm hs ht hr;go_enter func136,ntmps136;go_wp2_with fail
     refine au (by kernel_rfl) (by kernel_rfl) ?_;repeat(first|go_big_quiet_step ((go_at_call 137;exact T (HS.out _)))|quiet_step ((go_at_call 137;exact T (HS.out _))))
     refine wpQuiet_nil ?_;intro _ hw';obtain⟨uq,hw''⟩:=hw';subst hw'';go_wp2;go_ret;exact⟨by rw[hy.out];rfl,bl.trans ((aE _ _).mono (by simp))⟩
    ·have hy:=G (show aj ⟨F,F,r,u,d,f⟩ 2=3 by rw[hsp,if_pos hm])
     have hm':(f.tmod 64 !=0)=F:=by rw[Int.tmod_eq_emod_of_nonneg (by omega)];rw[bne_iff_ne];exact hm
     have hm2:(f % 64 !=0)=F:=by rw[bne_iff_ne];exact hm
     generalize aj ⟨F,F,r,u,d,f⟩ 2=c at hy⊢;clear hl hsp hm hs ht hr;go_enter func136,ntmps136;go_wp2_with fail
     refine au (by kernel_rfl) (by kernel_rfl) ?_;repeat(first|go_big_quiet_step ((go_at_call 137;exact T (HS.out _)))|quiet_step ((go_at_call 137;exact T (HS.out _))))
     refine wpQuiet_nil ?_;intro _ hw';obtain⟨uq,hw''⟩:=hw';subst hw'';go_wp2;go_ret;exact⟨by rw[hy.out];rfl,bl.trans ((aE _ _).mono (by simp))⟩
def fB(k:Nat):Bool:=decide (k≤3)||(decide (5≤k)&&decide (k≤7))||(decide (12≤k)&&decide (k≤31))
def ka(w l:Int)(k:Nat):Bool:=aK w ((2 ^ k:Nat):Int)&&(!fB k|| !aK w 1||(decide (k=7)&&decide (l=0)))
theorem ov(n k:Nat):aK (n:Int) ((2 ^ k:Nat):Int)=n.testBit k:=by
 unfold aK;rw[Nat.testBit_eq_decide_div_mod_eq,←Int.natCast_ediv];by_cases h:n / 2 ^ k % 2=1
 ·have:((n / 2 ^ k:Nat):Int) % 2=1:=by omega
  rw[decide_eq_true h,decide_eq_true this]
 ·have:¬((n / 2 ^ k:Nat):Int) % 2=1:=by omega
  rw[decide_eq_false h,decide_eq_false this]
theorem xj{w l:Int}(h0:0≤w)(h1:w<18446744073709551616)(h:∀k,k<64→ka w l k=D):iM w l:=by
 obtain⟨n,rfl⟩:=ax h0;have hb:∀k,k<64→n.testBit k=F→fB k=F∧aK (n:Int) 1=F∧¬(k=7∧l=0):=fun k hk ht=>by
  have:=h k hk;unfold ka at this;rw[ov,ht] at this;cases hkn:fB k<;>cases hb1:aK (n:Int) 1<;>rw[hkn,hb1] at this<;>simp at this⊢
  exact this
 have hz:∀k,k<64→fB k=D→n / 2 ^ k % 2=0:=fun k hk hkn=>by
  cases ht:n.testBit k with
  |true=>have:=(hb k hk ht).1;rw[hkn] at this;cases this
  |false=>
   rw[Nat.testBit_eq_decide_div_mod_eq] at ht;simp at ht;omega
 have z4:=hz 4 (by omega) rfl;have z8:=hz 8 (by omega) rfl;have z9:=hz 9 (by omega) rfl;have z10:=hz 10 (by omega) rfl;have z11:=hz 11 (by omega) rfl;simp only[Nat.reducePow] at z4 z8 z9 z10 z11;have h1':n<2 ^ 64:=by
  have:(2 ^ 64:Nat)=18446744073709551616:=by decide
  omega
 have hlt:∀k,n.testBit k=F→k<64:=fun k ht=>by
  refine Decidable.byContradiction fun hk=> ?_;rw[Nat.testBit_lt_two_pow (Nat.lt_of_lt_of_le h1' (Nat.pow_le_pow_right (by omega) (by omega)))] at ht;cases ht
 refine⟨by omega,by omega,?_,?_,fun e=> ?_⟩
 ·refine Decidable.byContradiction fun hc=> ?_
  have hge:n≥2 ^ 32:=by
   have:(2 ^ 32:Nat)=4294967296:=by decide
   omega
  obtain⟨i,hi,ht⟩:=Nat.exists_ge_and_testBit_of_ge_two_pow hge;have hi64:=hlt i ht;have:=(hb i hi64 ht).1;unfold fB at this;simp at this;omega
 ·by_cases hn:n=0
  ·left;omega
  ·right
   obtain⟨i,ht⟩:=Nat.exists_testBit_of_ne_zero hn;have:=(hb i (hlt i ht) ht).2.1;unfold aK at this;simp at this;omega
 ·cases ht:n.testBit 7 with
  |true=>exact absurd ⟨rfl,e⟩ (hb 7 (by omega) ht).2.2
  |false=>
   rw[Nat.testBit_eq_decide_div_mod_eq] at ht;simp at ht;omega
theorem vR{w l:Int}{k:Nat}(h0:0≤w)(hk:k<64)(h:ka w l k=F):¬iM w l:=by
 rintro⟨a,b,c,d,e⟩;obtain⟨n,rfl⟩:=ax h0;unfold ka at h;rw[ov] at h;simp only[Bool.and_eq_true] at h;obtain⟨ht,h⟩:=h;have ht':=ht;rw[Nat.testBit_eq_decide_div_mod_eq,decide_eq_true_eq] at ht';have hn:n≠0:=by rintro rfl;simp at ht
 have b1:aK (n:Int) 1=F:=by unfold aK;simp;omega
 rw[b1] at h;have hlt:k<32:=by
  refine Decidable.byContradiction fun hc=> ?_;have h32:n<2 ^ 32:=by
   have:(2 ^ 32:Nat)=4294967296:=by decide
   omega
  rw[Nat.testBit_lt_two_pow (Nat.lt_of_lt_of_le h32 (Nat.pow_le_pow_right (by omega) (by omega)))] at ht;cases ht
 by_cases k7:k=7∧l=0
 ·obtain⟨rfl,rfl⟩:=k7
  have:=e rfl;simp only[Nat.reducePow] at ht';omega
 ·have:fB k=D:=by
   cases hkn:fB k with
   |false=>rfl
   |true=>
    rw[hkn] at h;simp at h;exact absurd h k7
  unfold fB at this;simp at this;have hk':k=4∨k=8∨k=9∨k=10∨k=11:=by omega
  rcases hk' with rfl|rfl|rfl|rfl|rfl<;>simp only[Nat.reducePow] at ht'<;>omega
theorem kJ(b:Nat)(w:Int)(k:Nat)(W:ag)(c0:W.cell? (Q b 0 J)=S (H vU w))(h0:0≤w)(_:w<18446744073709551616)(hk:k<64):
  a5 prog 169 #[H vU k,.pointer (S (Q b 0 J))] W (bb (M (aK w ((2 ^ k:Nat):Int))) W):=by
 have hy:=G (show aK w ((2 ^ k:Nat):Int)=((w / 2 ^ k).tmod 2==1) by
  unfold aK;rw[show((2 ^ k:Nat):Int)=2 ^ k by simp,Int.tmod_eq_emod_of_nonneg (Int.ediv_nonneg h0 (Int.le_of_lt (Int.pow_pos (by decide))))];rfl)
 generalize aK w ((2 ^ k:Nat):Int)=B at*
 go_enter func169,ntmps169;go_wp2;go_ret;exact⟨by rw[hy.out];rfl,rfl⟩
theorem kj(b:Nat)(w:Int)(k:Nat)(B:Bool)(h:aK w ((2 ^ k:Nat):Int)=B)(W:ag)(c0:W.cell? (Q b 0 J)=S (H vU w))(h0:0≤w)(h1:w<18446744073709551616)(hk:k<64):
  a5 prog 169 #[H vU k,.pointer (S (Q b 0 J))] W (bb (M B) W):=h▸kJ b w k W c0 h0 h1 hk
theorem nB{w l:Int}{k:Nat}(hl:0≤l∧l<4)(h0:0≤w)(hk:k<64)(h:ka w l k=F):br w l=7:=by
 unfold br;rw[if_neg (by omega),if_pos (vR h0 hk h)]
set_option maxHeartbeats 8000000 in
theorem iJ(w l:Int)(W:ag)(h0:0≤w)(h1:w<18446744073709551616):a5 prog 121 #[.int .u64 w,.int .i64 l] W (bf (fv w l) W):=by
 have hmf:∀(fn:Fn) (first cap:Array a4) (w:ag),(Instr.makeFunc fn first cap).run prog w= .ok (.func fn first cap) w:=fun _ _ _ _=>rfl;have hw:=(Has.new (aT W) #[H vU w] 64).new #[M D,M D,H I 0,M D,M D,H I 0] 70;have xw:=((Ext.refl W).alloc (.cells #[H vU w] 64)).alloc (.cells #[M D,M D,H I 0,M D,M D,H I 0] 70);simp only[a6] at hw;by_cases l0:l<0
 ·have hy:=G (dh (w:=w) (l:=l) (c:=1) (by unfold br;rw[if_pos (.inl l0)]) (.inl (by decide)))
  generalize fv w l=V at hy⊢;go_enter func121,ntmps121;go_wp2;exact N (aA results121 rfl rfl (bw hw)) rfl ⟨congrArg af hy.out.symm,ar hw.right.right xw⟩
 by_cases l4:4≤l
 ·have hy:=G (dh (w:=w) (l:=l) (c:=1) (by unfold br;rw[if_pos (.inr l4)]) (.inl (by decide)))
  generalize fv w l=V at hy⊢;go_enter func121,ntmps121;go_wp2;exact N (aA results121 rfl rfl (bw hw)) rfl ⟨congrArg af hy.out.symm,ar hw.right.right xw⟩
 have hl:0≤l∧l<4:=by omega
 go_enter func121,ntmps121;go_wp2_with fail
 generalize (W.alloc (.cells #[H vU w] 64)).alloc (.cells #[M D,M D,H I 0,M D,M D,H I 0] 70)=W2 at*
 obtain⟨d0,d1,d2,d3,d4,d5⟩:=hw.cells6;have wc:W2.cell? (Q W.heap.size 0 J)=S (H vU w):=hw.right.cell 0;have f0:=hw.free 0;have f1:=hw.free 1;have f2:=hw.free 2;have f3:=hw.free 3;have f4:=hw.free 4;have f5:=hw.free 5;have zl:=hw.lt;have zl2:=hw.right.lt;go_loopw [7] (fun t wz=>∃k:Nat,k≤64∧t=H vU k∧(∀i,i<k→ka w l i=D)∧W2=wz) (fun t _=>64 - (intOf t).toNat)
 case atStart=>exact⟨0,by omega,rfl,fun i hi=>by omega,rfl⟩
 case round=>
  obtain⟨k,hk,rfl,hno,rfl⟩:=hrel;by_cases hk64:k<64
  ·obtain⟨kn,hkn⟩:∃kn,fB k=kn:=⟨_,rfl⟩
   have hkn:=G hkn;have hnx:=G hno;clear hno;go_upto_region 7 with fail;go_cut [8] (fun B wx=>B=M kn∧W2=wx)
   case first=>
    have hr:(0≤k∧k≤3)∨(4≤k∧k≤4)∨(5≤k∧k≤7)∨(8≤k∧k≤11)∨(12≤k∧k≤31)∨(32≤k∧k≤63):=by omega
    rcases hr with ⟨r1,r2⟩|⟨r1,r2⟩|⟨r1,r2⟩|⟨r1,r2⟩|⟨r1,r2⟩|⟨r1,r2⟩
    ·skip
     have hk2:=G (show M F=M kn by rw[←hkn.out];congr 1;unfold fB;symm;simp;omega);clear hkn hnx;go_wp2_with fail
     go_meet
     case rel=>exact⟨by first|(rw[←hk2.out];done)|(rw[←hk2.out];rfl)|(rw[←hk2.out];simp;done)|(rw[←hk2.out];simp;omega),rfl⟩
    ·skip
     have hk2:=G (show M D=M kn by rw[←hkn.out];congr 1;unfold fB;symm;simp;omega);clear hkn hnx;go_wp2_with fail
     go_meet
     case rel=>exact⟨by first|(rw[←hk2.out];done)|(rw[←hk2.out];rfl)|(rw[←hk2.out];simp;done)|(rw[←hk2.out];simp;omega),rfl⟩
    ·skip
     have hk2:=G (show M F=M kn by rw[←hkn.out];congr 1;unfold fB;symm;simp;omega);clear hkn hnx;go_wp2_with fail
     go_meet
     case rel=>exact⟨by first|(rw[←hk2.out];done)|(rw[←hk2.out];rfl)|(rw[←hk2.out];simp;done)|(rw[←hk2.out];simp;omega),rfl⟩
    ·skip
     have hk2:=G (show M D=M kn by rw[←hkn.out];congr 1;unfold fB;symm;simp;omega);clear hkn hnx;go_wp2_with fail
     go_meet
     case rel=>exact⟨by first|(rw[←hk2.out];done)|(rw[←hk2.out];rfl)|(rw[←hk2.out];simp;done)|(rw[←hk2.out];simp;omega),rfl⟩
    ·skip
     have hk2:=G (show M F=M kn by rw[←hkn.out];congr 1;unfold fB;symm;simp;omega);clear hkn hnx;go_wp2_with fail
     go_meet
     case rel=>exact⟨by first|(rw[←hk2.out];done)|(rw[←hk2.out];rfl)|(rw[←hk2.out];simp;done)|(rw[←hk2.out];simp;omega),rfl⟩
    ·skip
     have hk2:=G (show M D=M kn by rw[←hkn.out];congr 1;unfold fB;symm;simp;omega);clear hkn hnx;go_wp2_with fail
     go_meet
     case rel=>exact⟨by first|(rw[←hk2.out];done)|(rw[←hk2.out];rfl)|(rw[←hk2.out];simp;done)|(rw[←hk2.out];simp;omega),rfl⟩
   case rest=>
    obtain⟨rfl,rfl⟩:=hcut;cases hbit:aK w ((2 ^ k:Nat):Int) with
    |false=>
     have hno':=G (fun(i:Nat) (hi:i<k+1)=>show ka w l i=D by
      by_cases e:i=k
      ·subst e;unfold ka;rw[hbit];rfl
      ·exact hnx.out i (by omega))
     clear hnx hkn;go_wp2_with fail
     refine(kj _ w k D hbit _ wc h0 h1 hk64).mono ?_;rintro e w' ⟨rfl,rfl⟩;go_wp2_with fail
     go_roundw
     case rel=>exact⟨k+1,by omega,by go_num,hno'.out,trivial⟩
     case measure=>simp[intOf];omega
    |true=>
     cases kn with
     |false=>
      have hy:=G (dh (nB hl h0 hk64 (show ka w l k=F by unfold ka;rw[hbit];rw[hkn.out];rfl)) (.inl (by decide)));clear hkn hnx;go_wp2_with fail
      refine(kj _ w k F hbit _ wc h0 h1 hk64).mono ?_;rintro e w' ⟨rfl,rfl⟩;go_wp2_with fail
      refine am (fun wz=>U wz (aa (W.heap.size+1) #[M D,M D,H I 0,M D,M D,H I 0] 70*(aa W.heap.size #[H vU w] 64*bE W W.heap.size))∧a3 W wz) ⟨hw.set6 _ _ _ _ _ _,ah⟩ ?_;rintro wz ⟨hz,xz⟩;exact N (aA results121 rfl rfl (bw hz)) rfl ⟨congrArg af hy.out.symm,ar hz.right.right xz⟩
     |true=>
      cases hb1:aK w 1 with
      |false=>
       have hy:=G (dh (nB hl h0 hk64 (show ka w l k=F by unfold ka;rw[hbit];rw[hb1];simp)) (.inl (by decide)));have hb0:aK w ((2 ^ 0:Nat):Int)=D:=hb1;clear hkn hnx;go_wp2_with fail
       refine(kj _ w k F hbit _ wc h0 h1 hk64).mono ?_;rintro e w' ⟨rfl,rfl⟩;go_wp2_with fail
       refine(kj _ w 0 D hb0 _ wc h0 h1 (by omega)).mono ?_;rintro e w' ⟨rfl,rfl⟩;go_wp2_with fail
       refine am (fun wz=>U wz (aa (W.heap.size+1) #[M D,M D,H I 0,M D,M D,H I 0] 70*(aa W.heap.size #[H vU w] 64*bE W W.heap.size))∧a3 W wz) ⟨hw.set6 _ _ _ _ _ _,ah⟩ ?_;rintro wz ⟨hz,xz⟩;exact N (aA results121 rfl rfl (bw hz)) rfl ⟨congrArg af hy.out.symm,ar hz.right.right xz⟩
      |true=>
       have hb0:aK w ((2 ^ 0:Nat):Int)=F:=hb1;have hno':=fun(h7:¬(k=7∧l=0)) (i:Nat) (hi:i<k+1)=>show ka w l i=D by
        by_cases e:i=k
        ·subst e
         unfold ka;rw[hkn.out,hb1];cases hd:(decide (i=7)&&decide (l=0)) with
         |false=>simp
         |true=>simp at hd;exact absurd hd h7
        ·exact hnx.out i (by omega)
       by_cases k7:k=7
       ·have k7':((k:Int)==7)=F:=by rw[beq_iff_eq];omega
        by_cases l0':l=0
        ·have hy:=G (dh (nB hl h0 hk64 (show ka w l k=F by unfold ka;rw[hbit];rw[hkn.out,hb1];simp[k7,l0'])) (.inl (by decide)))
         have l1:(l==0)=F:=by simpa using l0'
         clear hkn hnx hno' k7 l0' hb1;go_wp2_with fail
         refine(kj _ w k F hbit _ wc h0 h1 hk64).mono ?_;rintro e w' ⟨rfl,rfl⟩;go_wp2_with fail
         refine(kj _ w 0 F hb0 _ wc h0 h1 (by omega)).mono ?_;rintro e w' ⟨rfl,rfl⟩;go_wp2_with fail
         refine am (fun wz=>U wz (aa (W.heap.size+1) #[M D,M D,H I 0,M D,M D,H I 0] 70*(aa W.heap.size #[H vU w] 64*bE W W.heap.size))∧a3 W wz) ⟨hw.set6 _ _ _ _ _ _,ah⟩ ?_;rintro wz ⟨hz,xz⟩;exact N (aA results121 rfl rfl (bw hz)) rfl ⟨congrArg af hy.out.symm,ar hz.right.right xz⟩
        ·have l1:(l==0)=D:=by simpa using l0'
         have hno':=G (hno' (fun h=>l0' h.2));clear hkn hnx k7 l0' hb1;go_wp2_with fail
         refine(kj _ w k F hbit _ wc h0 h1 hk64).mono ?_;rintro e w' ⟨rfl,rfl⟩;go_wp2_with fail
         refine(kj _ w 0 F hb0 _ wc h0 h1 (by omega)).mono ?_;rintro e w' ⟨rfl,rfl⟩;go_wp2_with fail
         go_roundw
         case rel=>exact⟨k+1,by omega,by go_num,hno'.out,trivial⟩
         case measure=>simp[intOf];omega
       ·have k7':((k:Int)==7)=D:=by rw[beq_eq_false_iff_ne];omega
        have hno':=G (hno' (fun h=>k7 h.1));clear hkn hnx k7 hb1;go_wp2_with fail
        refine(kj _ w k F hbit _ wc h0 h1 hk64).mono ?_;rintro e w' ⟨rfl,rfl⟩;go_wp2_with fail
        refine(kj _ w 0 F hb0 _ wc h0 h1 (by omega)).mono ?_;rintro e w' ⟨rfl,rfl⟩;go_wp2_with fail
        go_roundw
        case rel=>exact⟨k+1,by omega,by go_num,hno'.out,trivial⟩
        case measure=>simp[intOf];omega
  ·obtain rfl:k=64:=by omega
   have hok:=xj h0 h1 hno;clear hno;by_cases wz:w=0
   ·have hy:=G (dh (w:=w) (l:=l) (c:=0) (by unfold br;rw[if_neg (by omega),if_neg (by simpa using hok),if_pos wz]) (.inr wz))
    have wz':(w==0)=F:=by simpa using wz
    clear wz hok;go_wp2_with fail
    refine am (fun wz=>U wz (aa (W.heap.size+1) #[M D,M D,H I 0,M D,M D,H I 0] 70*(aa W.heap.size #[H vU w] 64*bE W W.heap.size))∧a3 W wz) ⟨hw.set6 _ _ _ _ _ _,ah⟩ ?_;rintro wz ⟨hz,xz⟩;exact N (aA results121 rfl rfl (bw hz)) rfl ⟨congrArg af hy.out.symm,ar hz.right.right xz⟩
   have wz':(w==0)=D:=by simpa using wz
   have hd:br w l=aj (dC w l) l:=by unfold br;rw[if_neg (by omega),if_neg (by simpa using hok),if_neg wz]
   have hv0:br w l=0→fv w l= .tuple #[.agg #[M F,M (dC w l).leaf,H I (w / 2 % 8),M (aK w 32),M (aK w 64),H I (w / 4096)],H I 0]:=fun hc=>by
    unfold fv aD;rw[if_pos ⟨hc,wz⟩,hc];rfl
   have hv0:=G hv0;clear wz hok;by_cases l00:l=0
   ·subst l00
    have he:dC w 0=⟨F,F,w / 2 % 8,aK w 32,aK w 64,w / 4096⟩:=rfl;have HC:∀X,a5 prog 136 #[.agg #[M F,M (F),H I (w / 2 % 8),M (aK w 32),M (aK w 64),H I (w / 4096)],.int .i64 0] X (bf (H I (br w 0)) X):=fun X=>by
     have:=fV (dC w 0) 0 X;rw[←hd,he] at this;exact this
    have HC:=G HC;have HO7:=G (fun X c=>show a5 prog 169 #[.int .u64 7,.pointer (S (Q W.heap.size 0 J))] X (bb (M (aK w 128)) X) from kJ W.heap.size w 7 X c h0 h1 (by omega));have HO5:=G (fun X c=>show a5 prog 169 #[.int .u64 5,.pointer (S (Q W.heap.size 0 J))] X (bb (M (aK w 32)) X) from kJ W.heap.size w 5 X c h0 h1 (by omega));have HO6:=G (fun X c=>show a5 prog 169 #[.int .u64 6,.pointer (S (Q W.heap.size 0 J))] X (bb (M (aK w 64)) X) from kJ W.heap.size w 6 X c h0 h1 (by omega));rw[he] at hv0;have hno:=G (fun hc=>dh (w:=w) (l:=0) (c:=br w 0) rfl (.inl hc));clear hl hd he;go_upto_region 12 with fail;clear hmf d0 d1 d2 d3 d4 d5 f0 f1 f2 f3 f4 f5 wz' zl;have q1:=G (show IntKind.i64.wrap ((IntKind.u64.wrap (w.tdiv 2)).tmod 8)=w / 2 % 8 by rw[Int.tdiv_eq_ediv_of_nonneg h0,IntKind.wrap_u64,Int.tmod_eq_emod_of_nonneg (by omega),Z];omega);have q2:=G (show IntKind.i64.wrap (IntKind.u64.wrap (w.tdiv 4096))=w / 4096 by rw[Int.tdiv_eq_ediv_of_nonneg h0,IntKind.wrap_u64,Z];omega);go_cut [9] (fun v wx=>v= .pointer (S (Q W2.heap.size 0 J))∧(W2.alloc (.cells #[M F,M (F),H I (w / 2 % 8),M (aK w 32),M (aK w 64),H I (w / 4096)] 70)).drew =wx)
    case first=>
     first|(go_region_held (fun w'=>w'.cell? (Q W.heap.size 0 J)=S (H vU w)) (go_keep) (first|(go_at_call 169;(with_reducible refine(HO7.out _ (by assumption)).mono ?_);rintro e w' ⟨rfl,rfl⟩)|(go_at_call 169;(with_reducible refine(HO5.out _ (by assumption)).mono ?_);rintro e w' ⟨rfl,rfl⟩)|(go_at_call 169;(with_reducible refine(HO6.out _ (by assumption)).mono ?_);rintro e w' ⟨rfl,rfl⟩)))|fail
     all_goals
      go_wp2_with fail
      go_meet;first|exact⟨rfl,by rw[q1.out,q2.out]⟩|(case rel=>exact⟨rfl,by rw[q1.out,q2.out]⟩)
    case rest=>
     obtain⟨rfl,rfl⟩:=hcut;have hx:=(hw.new #[M F,M (F),H I (w / 2 % 8),M (aK w 32),M (aK w 64),H I (w / 4096)] 70).drew;have xx:=(xw.alloc (.cells #[M F,M (F),H I (w / 2 % 8),M (aK w 32),M (aK w 64),H I (w / 4096)] 70)).drew;clear q1 q2 HO5 HO6 HO7;by_cases hc:br w 0=0
     ·have hy:=G (hv0.out hc)
      rw[hc] at HC;clear hc hv0 hno;go_wp2_with fail
      refine(HC.out _).mono ?_;rintro e w2 ⟨rfl,bl⟩;have h2:=hx.below bl;have x2:=xx.below bl;obtain⟨c0,c1,c2,c3,c4,c5⟩:=h2.cells6;obtain⟨d0,d1,d2,d3,d4,d5⟩:=h2.right.cells6;obtain⟨f0,f1,f2,f3,f4,f5⟩:=h2.right.frees6;have l2:=h2.right.lt;clear HC bl hx xx hw xw;go_wp2;refine am (fun wz=>U wz (aa (W.heap.size+1) #[M F,M (F),H I (w / 2 % 8),M (aK w 32),M (aK w 64),H I (w / 4096)] 70*(aa W.heap.size #[H vU w] 64*bE W W.heap.size))∧a3 W wz) ⟨h2.right.set6 _ _ _ _ _ _,ah⟩ ?_;rintro wz ⟨hz,xz⟩;exact N (aA results121 rfl rfl (bw hz)) rfl ⟨congrArg af hy.out.symm,ar hz.right.right xz⟩
     ·have hy:=G (hno.out hc)
      have hn:(br w 0 !=0)=F:=by simpa using hc
      clear hc hv0 hno;generalize br w 0=c at*
      go_wp2_with fail
      refine(HC.out _).mono ?_;rintro e w2 ⟨rfl,bl⟩;have h2:=hx.below bl;have x2:=xx.below bl;obtain⟨c0,c1,c2,c3,c4,c5⟩:=h2.cells6;obtain⟨d0,d1,d2,d3,d4,d5⟩:=h2.right.cells6;obtain⟨f0,f1,f2,f3,f4,f5⟩:=h2.right.frees6;have l2:=h2.right.lt;clear HC bl hx xx hw xw;go_wp2;refine am (fun wz=>U wz (aa (W.heap.size+1) #[M D,M D,H I 0,M D,M D,H I 0] 70*(aa W.heap.size #[H vU w] 64*bE W W.heap.size))∧a3 W wz) ⟨h2.right.set6 _ _ _ _ _ _,ah⟩ ?_;rintro wz ⟨hz,xz⟩;exact N (aA results121 rfl rfl (bw hz)) rfl ⟨congrArg af hy.out.symm,ar hz.right.right xz⟩
   ·have l00':(l==0)=D:=by simpa using l00
    have he:dC w l=⟨F,aK w 128,w / 2 % 8,aK w 32,aK w 64,w / 4096⟩:=by unfold dC;rw[l00'];rfl
    clear l00;have HC:∀X,a5 prog 136 #[.agg #[M F,M (aK w 128),H I (w / 2 % 8),M (aK w 32),M (aK w 64),H I (w / 4096)],.int .i64 l] X (bf (H I (br w l)) X):=fun X=>by
     have:=fV (dC w l) l X;rw[←hd,he] at this;exact this
    have HC:=G HC;have HO7:=G (fun X c=>show a5 prog 169 #[.int .u64 7,.pointer (S (Q W.heap.size 0 J))] X (bb (M (aK w 128)) X) from kJ W.heap.size w 7 X c h0 h1 (by omega));have HO5:=G (fun X c=>show a5 prog 169 #[.int .u64 5,.pointer (S (Q W.heap.size 0 J))] X (bb (M (aK w 32)) X) from kJ W.heap.size w 5 X c h0 h1 (by omega));have HO6:=G (fun X c=>show a5 prog 169 #[.int .u64 6,.pointer (S (Q W.heap.size 0 J))] X (bb (M (aK w 64)) X) from kJ W.heap.size w 6 X c h0 h1 (by omega));rw[he] at hv0;have hno:=G (fun hc=>dh (w:=w) (l:=l) (c:=br w l) rfl (.inl hc));clear hl hd he;go_upto_region 12 with fail;clear hmf d0 d1 d2 d3 d4 d5 f0 f1 f2 f3 f4 f5 wz' zl;have q1:=G (show IntKind.i64.wrap ((IntKind.u64.wrap (w.tdiv 2)).tmod 8)=w / 2 % 8 by rw[Int.tdiv_eq_ediv_of_nonneg h0,IntKind.wrap_u64,Int.tmod_eq_emod_of_nonneg (by omega),Z];omega);have q2:=G (show IntKind.i64.wrap (IntKind.u64.wrap (w.tdiv 4096))=w / 4096 by rw[Int.tdiv_eq_ediv_of_nonneg h0,IntKind.wrap_u64,Z];omega);go_cut [9] (fun v wx=>v= .pointer (S (Q W2.heap.size 0 J))∧(W2.alloc (.cells #[M F,M (aK w 128),H I (w / 2 % 8),M (aK w 32),M (aK w 64),H I (w / 4096)] 70)).drew =wx)
    case first=>
     first|(go_region_held (fun w'=>w'.cell? (Q W.heap.size 0 J)=S (H vU w)) (go_keep) (first|(go_at_call 169;(with_reducible refine(HO7.out _ (by assumption)).mono ?_);rintro e w' ⟨rfl,rfl⟩)|(go_at_call 169;(with_reducible refine(HO5.out _ (by assumption)).mono ?_);rintro e w' ⟨rfl,rfl⟩)|(go_at_call 169;(with_reducible refine(HO6.out _ (by assumption)).mono ?_);rintro e w' ⟨rfl,rfl⟩)))|fail
     all_goals
      go_wp2_with fail
      go_meet;first|exact⟨rfl,by rw[q1.out,q2.out]⟩|(case rel=>exact⟨rfl,by rw[q1.out,q2.out]⟩)
    case rest=>
     obtain⟨rfl,rfl⟩:=hcut;have hx:=(hw.new #[M F,M (aK w 128),H I (w / 2 % 8),M (aK w 32),M (aK w 64),H I (w / 4096)] 70).drew;have xx:=(xw.alloc (.cells #[M F,M (aK w 128),H I (w / 2 % 8),M (aK w 32),M (aK w 64),H I (w / 4096)] 70)).drew;clear q1 q2 HO5 HO6 HO7;by_cases hc:br w l=0
     ·have hy:=G (hv0.out hc)
      rw[hc] at HC;clear hc hv0 hno;go_wp2_with fail
      refine(HC.out _).mono ?_;rintro e w2 ⟨rfl,bl⟩;have h2:=hx.below bl;have x2:=xx.below bl;obtain⟨c0,c1,c2,c3,c4,c5⟩:=h2.cells6;obtain⟨d0,d1,d2,d3,d4,d5⟩:=h2.right.cells6;obtain⟨f0,f1,f2,f3,f4,f5⟩:=h2.right.frees6;have l2:=h2.right.lt;clear HC bl hx xx hw xw;go_wp2;refine am (fun wz=>U wz (aa (W.heap.size+1) #[M F,M (aK w 128),H I (w / 2 % 8),M (aK w 32),M (aK w 64),H I (w / 4096)] 70*(aa W.heap.size #[H vU w] 64*bE W W.heap.size))∧a3 W wz) ⟨h2.right.set6 _ _ _ _ _ _,ah⟩ ?_;rintro wz ⟨hz,xz⟩;exact N (aA results121 rfl rfl (bw hz)) rfl ⟨congrArg af hy.out.symm,ar hz.right.right xz⟩
     ·have hy:=G (hno.out hc)
      have hn:(br w l !=0)=F:=by simpa using hc
      clear hc hv0 hno;generalize br w l=c at*
      go_wp2_with fail
      refine(HC.out _).mono ?_;rintro e w2 ⟨rfl,bl⟩;have h2:=hx.below bl;have x2:=xx.below bl;obtain⟨c0,c1,c2,c3,c4,c5⟩:=h2.cells6;obtain⟨d0,d1,d2,d3,d4,d5⟩:=h2.right.cells6;obtain⟨f0,f1,f2,f3,f4,f5⟩:=h2.right.frees6;have l2:=h2.right.lt;clear HC bl hx xx hw xw;go_wp2;refine am (fun wz=>U wz (aa (W.heap.size+1) #[M D,M D,H I 0,M D,M D,H I 0] 70*(aa W.heap.size #[H vU w] 64*bE W W.heap.size))∧a3 W wz) ⟨h2.right.set6 _ _ _ _ _ _,ah⟩ ?_;rintro wz ⟨hz,xz⟩;exact N (aA results121 rfl rfl (bw hz)) rfl ⟨congrArg af hy.out.symm,ar hz.right.right xz⟩
theorem Has.set8{w:ag}{R:ab}{b:Nat}{v0 v1 v2 v3 v4 v5 v6 v7:a4}{t:TypeId}(h:U w (aa b #[v0,v1,v2,v3,v4,v5,v6,v7] t*R))(u0 u1 u2 u3 u4 u5 u6 u7:a4):
  U (((((((((w.setCell (Q b 0 J) u0).setCell (Q b 1 J) u1).setCell (Q b 2 J) u2).setCell (Q b 3 J) u3).setCell (Q b 4 J) u4).setCell (Q b 5 J) u5).setCell (Q b 6 J) u6).setCell (Q b 7 J) u7)) (aa b #[u0,u1,u2,u3,u4,u5,u6,u7] t*R):=by
 have h0:U _ (aa b #[u0,v1,v2,v3,v4,v5,v6,v7] t*R):=h.set 0 u0;have h1:U _ (aa b #[u0,u1,v2,v3,v4,v5,v6,v7] t*R):=h0.set 1 u1;have h2:U _ (aa b #[u0,u1,u2,v3,v4,v5,v6,v7] t*R):=h1.set 2 u2;have h3:U _ (aa b #[u0,u1,u2,u3,v4,v5,v6,v7] t*R):=h2.set 3 u3;have h4:U _ (aa b #[u0,u1,u2,u3,u4,v5,v6,v7] t*R):=h3.set 4 u4;have h5:U _ (aa b #[u0,u1,u2,u3,u4,u5,v6,v7] t*R):=h4.set 5 u5;have h6:U _ (aa b #[u0,u1,u2,u3,u4,u5,u6,v7] t*R):=h5.set 6 u6;have h7:U _ (aa b #[u0,u1,u2,u3,u4,u5,u6,u7] t*R):=h6.set 7 u7;exact h7
theorem Has.cells8{w:ag}{R:ab}{b:Nat}{v0 v1 v2 v3 v4 v5 v6 v7:a4}{t:TypeId}(h:U w (aa b #[v0,v1,v2,v3,v4,v5,v6,v7] t*R)):
  w.cell? (Q b 0 J)=S v0∧w.cell? (Q b 1 J)=S v1∧w.cell? (Q b 2 J)=S v2∧w.cell? (Q b 3 J)=S v3∧w.cell? (Q b 4 J)=S v4∧w.cell? (Q b 5 J)=S v5∧w.cell? (Q b 6 J)=S v6∧w.cell? (Q b 7 J)=S v7:=
 ⟨h.cell 0,h.cell 1,h.cell 2,h.cell 3,h.cell 4,h.cell 5,h.cell 6,h.cell 7⟩
theorem Has.frees8{w:ag}{R:ab}{b:Nat}{v0 v1 v2 v3 v4 v5 v6 v7:a4}{t:TypeId}(h:U w (aa b #[v0,v1,v2,v3,v4,v5,v6,v7] t*R)):
  w.frozen? (Q b 0 J)=D∧w.frozen? (Q b 1 J)=D∧w.frozen? (Q b 2 J)=D∧w.frozen? (Q b 3 J)=D∧w.frozen? (Q b 4 J)=D∧w.frozen? (Q b 5 J)=D∧w.frozen? (Q b 6 J)=D∧w.frozen? (Q b 7 J)=D:=
 ⟨h.free 0,h.free 1,h.free 2,h.free 3,h.free 4,h.free 5,h.free 6,h.free 7⟩
theorem Ext.set8{w0 w:ag}(h:a3 w0 w)(b:Nat)(u0 u1 u2 u3 u4 u5 u6 u7:a4):a3 w0 (((((((((w.setCell (Q b 0 J) u0).setCell (Q b 1 J) u1).setCell (Q b 2 J) u2).setCell (Q b 3 J) u3).setCell (Q b 4 J) u4).setCell (Q b 5 J) u5).setCell (Q b 6 J) u6).setCell (Q b 7 J) u7)):=
 ((((((((h.set _ _).set _ _).set _ _).set _ _).set _ _).set _ _).set _ _).set _ _)
theorem qC{w:ag}{A X O:ab}{b r:Nat}{v0 v1 v2 v3 v4 v5 v6 v7 z0 z1 z2 z3 z4 z5 z6 z7:a4}{t:TypeId}(h:U w (A*(aa b #[v0,v1,v2,v3,v4,v5,v6,v7] t*(X*(aa r #[z0,z1,z2,z3,z4,z5,z6,z7] t*O)))))(u1 u2 u3 u4 u5 u6:a4):
  U ((((((((((((((w.setCell (Q b 1 J) u1).setCell (Q b 2 J) u2).setCell (Q b 3 J) u3).setCell (Q b 4 J) u4).setCell (Q b 5 J) u5).setCell (Q b 6 J) u6).setCell (Q r 0 J) v0).setCell (Q r 1 J) u1).setCell (Q r 2 J) u2).setCell (Q r 3 J) u3).setCell (Q r 4 J) u4).setCell (Q r 5 J) u5).setCell (Q r 6 J) u6).setCell (Q r 7 J) v7) (aa r #[v0,u1,u2,u3,u4,u5,u6,v7] t*(A*O)):=by
 have h1:=h.drop3;rw[ay A] at h1;have s1:U _ (aa b #[v0,u1,v2,v3,v4,v5,v6,v7] t*_):=h1.set 1 u1;have s2:U _ (aa b #[v0,u1,u2,v3,v4,v5,v6,v7] t*_):=s1.set 2 u2;have s3:U _ (aa b #[v0,u1,u2,u3,v4,v5,v6,v7] t*_):=s2.set 3 u3;have s4:U _ (aa b #[v0,u1,u2,u3,u4,v5,v6,v7] t*_):=s3.set 4 u4;have s5:U _ (aa b #[v0,u1,u2,u3,u4,u5,v6,v7] t*_):=s4.set 5 u5;have s6:U _ (aa b #[v0,u1,u2,u3,u4,u5,u6,v7] t*_):=s5.set 6 u6;have h2:=s6.right;rw[ay A] at h2;exact h2.set8 _ _ _ _ _ _ _ _
theorem jd{w:ag}{R:ab}{b:Nat}{v0 v1 v2 v3 v4 v5 v6 v7:a4}(h:U w (aa b #[v0,v1,v2,v3,v4,v5,v6,v7] 146*R)):(loadVar 146 (Q b 0 J)).run prog w= .ok (.agg #[v0,v1,v2,v3,v4,v5,v6,v7]) w:=
 run_loadVar_row w b 146 146 _ _ _ h.heap underlying146 rfl (by kernel_rfl)
theorem vS{w:ag}{A C:ab}{b:Nat}{v0 v1 v2 v3 v4 v5 v6 v7:a4}{t:TypeId}(h:U w (A*(aa b #[v0,v1,v2,v3,v4,v5,v6,v7] t*C)))(u:a4):
  U (w.setCell (Q b 0 J) u) (A*(aa b #[u,v1,v2,v3,v4,v5,v6,v7] t*C)):=by
 rw[ay A] at h;have h1:U _ (aa b #[u,v1,v2,v3,v4,v5,v6,v7] t*_):=h.set 0 u;rw[ay A];exact h1
theorem vT{w:ag}{A C:ab}{b:Nat}{v0 v1 v2 v3 v4 v5 v6 v7:a4}{t:TypeId}(h:U w (A*(aa b #[v0,v1,v2,v3,v4,v5,v6,v7] t*C)))(u:a4):
  U (w.setCell (Q b 7 J) u) (A*(aa b #[v0,v1,v2,v3,v4,v5,v6,u] t*C)):=by
 rw[ay A] at h;have h1:U _ (aa b #[v0,v1,v2,v3,v4,v5,v6,u] t*_):=h.set 7 u;rw[ay A];exact h1
theorem vV{w:ag}{u:a4}{l:List Int}{x:Int}{C:ab}(h:U w (ct 3 1 u (l.length+1) (l.map (H I)++[H I x])*C)):U w (ao u (l++[x])*C):=by
 unfold ao;rw[al,List.length_singleton,List.map_append];exact h
theorem sf{w:ag}{A B C:ab}{b:Nat}{z0 z1 z2 z3 z4 z5:a4}{t:TypeId}(h:U w (A*(B*(aa b #[z0,z1,z2,z3,z4,z5] t*C))))(u0 u1 u2 u3 u4 u5:a4):
  U ((((((w.setCell (Q b 0 J) u0).setCell (Q b 1 J) u1).setCell (Q b 2 J) u2).setCell (Q b 3 J) u3).setCell (Q b 4 J) u4).setCell (Q b 5 J) u5) (A*(B*(aa b #[u0,u1,u2,u3,u4,u5] t*C))):=by
 rw[ay B,ay A] at h;have h1:=h.set6 u0 u1 u2 u3 u4 u5;rw[ay B,ay A];exact h1
def yW(y:Wy)(A:Option bd)(n c:Nat):a4:= .tuple #[.agg #[.slice A n c,M y.e.there,M y.e.leaf,H I y.e.rights,M y.e.used,M y.e.dirty,H I y.e.frame,H I y.lev],H I y.code]
def vW(y:Wy)(w:ag)(e:Ending)(w':ag):Prop:=
 ∃A c,e= .returned (yW y A y.tabs.length c)∧U w' (ao (.slice A y.tabs.length c) y.tabs*bE w w.heap.size)∧a3 w w'
def xk(w:ag)(b:Nat):Nat:=match w.cell? (Q b 7 J) with|some (.int _ n)=>n.toNat|_=>0
set_option maxHeartbeats 4000000 in
theorem j9(q:Nat)(s:Ms)(root p:Int)(R:ab)(w:ag)(hs:s.Ok)(h:U w (az q s*R)):
  a5 prog 79 #[.pointer (S (Q q 0 J)),.int .i64 root,.int .i64 p] w (vW (a7 s root p) w):=by
 have h1:=(aT w).new #[.slice J 0 0,M D,M D,H I 0,M D,M D,H I 0,H I 0] 146;have x1:=(Ext.refl w).alloc (.cells #[.slice J 0 0,M D,M D,H I 0,M D,M D,H I 0,H I 0] 146);cases hp:cY p with
 |false=>
  have hy:=G (show a7 s root p= .err 1 by unfold a7;rw[hp];rfl);by_cases p0:p<0
  ·go_enter func79,ntmps79
   go_wp2_with fail
   refine am (fun wz=>U wz (aa w.heap.size #[.slice J 0 0,M D,M D,H I 0,M D,M D,H I 0,H I 0] 146*bE w w.heap.size)∧a3 w wz) ⟨h1,x1⟩ ?_;rintro wz ⟨hz,xz⟩;exact N (aA results79 rfl rfl (jd hz)) rfl ⟨J,0,by rw[hy.out];rfl,by rw[hy.out];exact Has.rowNil hz.right,xz⟩
  ·have p4:4096≤p:=by unfold cY at hp;simp at hp;omega
   go_enter func79,ntmps79;go_wp2_with fail
   refine am (fun wz=>U wz (aa w.heap.size #[.slice J 0 0,M D,M D,H I 0,M D,M D,H I 0,H I 0] 146*bE w w.heap.size)∧a3 w wz) ⟨h1,x1⟩ ?_;rintro wz ⟨hz,xz⟩;exact N (aA results79 rfl rfl (jd hz)) rfl ⟨J,0,by rw[hy.out];rfl,by rw[hy.out];exact Has.rowNil hz.right,xz⟩
 |true=>
  have hp':0≤p∧p<4096:=by unfold cY at hp;simpa using hp
  obtain⟨p0,p4⟩:=hp';have hwy:=G (show a7 s root p=cZ s p 3 root [] by unfold a7;rw[if_pos hp]);have h2:=h1.new #[.slice J 0 0,M D,M D,H I 0,M D,M D,H I 0,H I 3] 146;have x2:=x1.alloc (.cells #[.slice J 0 0,M D,M D,H I 0,M D,M D,H I 0,H I 3] 146);simp only[a6] at h2;have h3:U ((w.alloc (.cells #[.slice J 0 0,M D,M D,H I 0,M D,M D,H I 0,H I 0] 146)).alloc (.cells #[.slice J 0 0,M D,M D,H I 0,M D,M D,H I 0,H I 3] 146))
    (ao (.slice J 0 0) []*(aa (w.heap.size+1) #[.slice J 0 0,M D,M D,H I 0,M D,M D,H I 0,H I 3] 146*(aa w.heap.size #[.slice J 0 0,M D,M D,H I 0,M D,M D,H I 0,H I 0] 146*bE w w.heap.size))):=Has.rowNil h2
  clear h1 x1 h2;go_enter func79,ntmps79;go_wp2_with fail
  go_loopw [9] (fun s9 wr=>∃(L:Nat) (t:Int) (acc:List Int) (A:Option bd) (c:Nat),s9=H I t∧acc.length+L=3∧Hid (cZ s p 3 root []=cZ s p L t acc)∧
    U wr (ao (.slice A acc.length c) acc*(aa (w.heap.size+1) #[.slice A acc.length c,M D,M D,H I 0,M D,M D,H I 0,H I L] 146*(aa w.heap.size #[.slice J 0 0,M D,M D,H I 0,M D,M D,H I 0,H I 0] 146*bE w w.heap.size)))∧a3 w wr)
   (fun _ wr=>xk wr (w.heap.size+1))
  case atStart=>exact⟨3,root,[],J,0,rfl,rfl,G rfl,h3,x2⟩
  case round=>
   clear h3 x2;obtain⟨L,t,acc,A,c,rfl,hL,HW,hr,hx⟩:=hrel;have hlev:=G (show xk wr (w.heap.size+1)=L by unfold xk;rw[hr.right.cell 7];rfl);have hL3:(L:Int)≤3:=by omega
   have hL0:(0:Int)≤L:=by omega
   have hM:U wr (az q s*R):=(h.onto' (hr.eq (show _=(ao (.slice A acc.length c) acc*(aa (w.heap.size+1) #[.slice A acc.length c,M D,M D,H I 0,M D,M D,H I 0,H I L] 146*aa w.heap.size #[.slice J 0 0,M D,M D,H I 0,M D,M D,H I 0,H I 0] 146))*bE w w.heap.size by simp only[aX]))).right;have hTK:=oY q s t R wr hM;cases ht:s.has t with
   |false=>
    rw[ht] at hTK;have hy:=G (show a7 s root p= .err 12 by rw[hwy.out,HW.out];exact fY ht);clear ht;obtain⟨r0,r1,r2,r3,r4,r5,r6,r7⟩:=hr.right.right.cells8;obtain⟨g0,g1,g2,g3,g4,g5,g6,g7⟩:=hr.right.right.frees8;have rl:=hr.right.right.lt;go_wp2_with fail
    refine hTK.mono ?_;rintro e w2 ⟨rfl,rfl⟩;go_wp2_with fail
    refine am (fun wz=>U wz (aa w.heap.size #[.slice J 0 0,M D,M D,H I 0,M D,M D,H I 0,H I 0] 146*bE w w.heap.size)∧a3 w wz) ⟨hr.right.right.set8 _ _ _ _ _ _ _ _,hx.set8 _ _ _ _ _ _ _ _ _⟩ ?_;rintro wz ⟨hz,xz⟩;exact N (aA results79 rfl rfl (jd hz)) rfl ⟨J,0,by rw[hy.out];rfl,by rw[hy.out];exact Has.rowNil hz.right,xz⟩
   |true=>
    rw[ht] at hTK;obtain⟨i0,i8⟩:=im hp hL0 hL3;obtain⟨k0,k1,_⟩:=Ms.has_iff.1 ht;obtain⟨gw,gi,vk,hq⟩:=cv hM;have hb:=hs.inv.wok t.toNat (ap p L).toNat;have HD:=G (fun W=>iJ (av s t (ap p L)) L W hb.1 hb.2);have HI:=G (ei p L);have hq0:=hq.cell 0;have hword:wr.cell? ⟨gw,t.toNat*8+(ap p L).toNat,J⟩=S (H vU (av s t (ap p L))):=ch hq (k:=t.toNat) (i:=(ap p L).toNat) (by omega) (by omega);have ql:=hq.lt;have gl:=hq.right.lt;have cl:=hr.right.lt;clear hb hM;have c7:wr.cell? ⟨w.heap.size+1,7,J⟩=S (H I L):=hr.right.cell 7;have hy:=G (show a7 s root p=cZ s p L t acc by rw[hwy.out,HW.out]);have hbad:=G (fun he=>iq (acc:=acc) (L:=L) (p:=p) ht he);have hend:=G (fun hc he=>dW (acc:=acc) (L:=L) (p:=p) ht hc he);have hon:=G (fun hc he=>jh (acc:=acc) (L:=L) (p:=p) ht hc he);have hzero:=G (fun hc=>ra (w:=av s t (ap p L)) (l:=L) hc);unfold fv at HD;clear HW ht;generalize br (av s t (ap p L)) L=code at*
    generalize aD (av s t (ap p L)) L=e at*
    generalize av s t (ap p L)=v at*
    generalize ap p L=ix at*
    obtain⟨t,rfl⟩:=ax k0;obtain⟨ix,rfl⟩:=ax i0;simp only[Int.toNat_natCast] at hword;have hSB:∀(w1 w2:ag),Below w1.heap.size w1 w2→(w1.cell? (Q q 0 J)=S (.slice (S (Q gw 0 J)) s.n s.n)∧w1.cell? ⟨gw,t*8+ix,J⟩=S (H vU v)∧w1.cell? ⟨w.heap.size+1,7,J⟩=S (H I L))→w2.cell? (Q q 0 J)=S (.slice (S (Q gw 0 J)) s.n s.n)∧w2.cell? ⟨gw,t*8+ix,J⟩=S (H vU v)∧w2.cell? ⟨w.heap.size+1,7,J⟩=S (H I L):=fun w1 w2 b h=>
     ⟨(b.cell (World.block_lt_of_cell? _ _ h.1)).trans h.1,(b.cell (World.block_lt_of_cell? _ _ h.2.1)).trans h.2.1,(b.cell (World.block_lt_of_cell? _ _ h.2.2)).trans h.2.2⟩
    have HSB:=G hSB;have hSA:∀(w1:ag) (o:Obj),(w1.cell? (Q q 0 J)=S (.slice (S (Q gw 0 J)) s.n s.n)∧w1.cell? ⟨gw,t*8+ix,J⟩=S (H vU v)∧w1.cell? ⟨w.heap.size+1,7,J⟩=S (H I L))→(w1.alloc o).cell? (Q q 0 J)=S (.slice (S (Q gw 0 J)) s.n s.n)∧(w1.alloc o).cell? ⟨gw,t*8+ix,J⟩=S (H vU v)∧(w1.alloc o).cell? ⟨w.heap.size+1,7,J⟩=S (H I L):=fun w1 o h=>
     hSB w1 (w1.alloc o) ((Below.refl _ _).alloc (Nat.le_refl _) _) h
    have HSA:=G hSA;have hS6:∀(w1:ag) (E:Nat) (u0 u1 u2 u3 u4 u5:a4),E≠q→E≠gw→E≠w.heap.size+1→(w1.cell? (Q q 0 J)=S (.slice (S (Q gw 0 J)) s.n s.n)∧w1.cell? ⟨gw,t*8+ix,J⟩=S (H vU v)∧w1.cell? ⟨w.heap.size+1,7,J⟩=S (H I L))→((((((w1.setCell (Q E 0 J) u0).setCell (Q E 1 J) u1).setCell (Q E 2 J) u2).setCell (Q E 3 J) u3).setCell (Q E 4 J) u4).setCell (Q E 5 J) u5).cell? (Q q 0 J)=S (.slice (S (Q gw 0 J)) s.n s.n)∧((((((w1.setCell (Q E 0 J) u0).setCell (Q E 1 J) u1).setCell (Q E 2 J) u2).setCell (Q E 3 J) u3).setCell (Q E 4 J) u4).setCell (Q E 5 J) u5).cell? ⟨gw,t*8+ix,J⟩=S (H vU v)∧((((((w1.setCell (Q E 0 J) u0).setCell (Q E 1 J) u1).setCell (Q E 2 J) u2).setCell (Q E 3 J) u3).setCell (Q E 4 J) u4).setCell (Q E 5 J) u5).cell? ⟨w.heap.size+1,7,J⟩=S (H I L):=fun w1 E u0 u1 u2 u3 u4 u5 e1 e2 e3 h=>by
     refine⟨?_,?_,?_⟩
     ·iterate 6 rw[World.cell?_setCell_far _ _ _ _ e1]
      exact h.1
     ·iterate 6 rw[World.cell?_setCell_far _ _ _ _ e2]
      exact h.2.1
     ·iterate 6 rw[World.cell?_setCell_far _ _ _ _ e3]
      exact h.2.2
    have HS6:=G hS6;clear hSB hSA hS6;go_wp2_with fail
    refine hTK.mono ?_;rintro e2 w2 ⟨rfl,rfl⟩;go_upto_region 7 with fail;go_cut [10,11] (fun s10 s11 wx=>∃E:Nat,s10= .pointer (S (Q E 0 J))∧s11=H I code∧U wx (ao (.slice A acc.length c) acc*(aa (w.heap.size+1) #[.slice A acc.length c,M D,M D,H I 0,M D,M D,H I 0,H I L] 146*(aa E #[M e.there,M e.leaf,H I e.rights,M e.used,M e.dirty,H I e.frame] 70*(aa w.heap.size #[.slice J 0 0,M D,M D,H I 0,M D,M D,H I 0,H I 0] 146*bE w w.heap.size))))∧a3 w wx)
    case first=>
     have n1:=World.new_ne wr _ hq0;have n2:=World.new_ne wr _ hword;have n3:=World.new_ne wr _ c7;go_wp2_with fail
     go_region_held3 (fun w'=>w'.cell? (Q q 0 J)=S (.slice (S (Q gw 0 J)) s.n s.n)∧w'.cell? ⟨gw,t*8+ix,J⟩=S (H vU v)∧w'.cell? ⟨w.heap.size+1,7,J⟩=S (H I L)) (first|with_reducible exact⟨hq0,hword,c7⟩|with_reducible exact s6|with_reducible exact s5|(with_reducible exact HSA.out _ _ ⟨hq0,hword,c7⟩)|(with_reducible exact HSA.out _ _ s5)|(with_reducible exact HSA.out _ _ s6)|(with_reducible refine HS6.out _ _ _ _ _ _ _ _ ?_ ?_ ?_ s6;(first|exact n1|exact World.new_ne w5 _ s5.1);(first|exact n2|exact World.new_ne w5 _ s5.2.1);(first|exact n3|exact World.new_ne w5 _ s5.2.2))|exact HSA.out wr (.cells #[M D,M D,H I 0,M D,M D,H I 0] 70) ⟨hq0,hword,c7⟩|exact⟨hq0,hword,c7⟩) (first|(go_at_call 120;refine(HI.out _).mono ?_;rintro e2 w5 ⟨rfl,b5⟩;have s5:=HSB.out _ _ b5 (by first|with_reducible exact⟨hq0,hword,c7⟩|exact HSA.out wr (.cells #[M D,M D,H I 0,M D,M D,H I 0] 70) ⟨hq0,hword,c7⟩|exact⟨hq0,hword,c7⟩);first|(have z5:=Has.below (Has.drew (Has.new (aT wr) #[M D,M D,H I 0,M D,M D,H I 0] 70)) b5)|skip)|(go_at_call 121;refine(HD.out _).mono ?_;rintro e2 w6 ⟨rfl,b6⟩;have s6:=HSB.out _ _ b6 (by first|exact s5|exact HSA.out _ _ s5);first|(have z6:=z5.below b6;obtain⟨q0,q1,q2,q3,q4,q5⟩:=z6.cells6;obtain⟨y0,y1,y2,y3,y4,y5⟩:=z6.frees6;have zl:=z6.lt)|(have z6:=Has.below (Has.new (aT w5) #[M D,M D,H I 0,M D,M D,H I 0] 70) b6;obtain⟨q0,q1,q2,q3,q4,q5⟩:=z6.cells6;obtain⟨y0,y1,y2,y3,y4,y5⟩:=z6.frees6;have zl:=z6.lt)|skip))
     all_goals
      go_wp2_with fail
      go_meet
      case rel=>first
       |with_reducible exact⟨w6.heap.size,rfl,rfl,((hr.drew.below b5).below b6).build #[M e.there,M e.leaf,H I e.rights,M e.used,M e.dirty,H I e.frame] 70,((hx.drew.below b5).below b6).alloc _⟩
       |with_reducible exact⟨w5.heap.size,rfl,rfl,sf (((hr.drew.below b5).build #[M D,M D,H I 0,M D,M D,H I 0] 70).below b6) _ _ _ _ _ _,((((((((hx.drew.below b5).alloc _).below b6).set _ _).set _ _).set _ _).set _ _).set _ _).set _ _⟩
       |with_reducible exact⟨wr.heap.size,rfl,rfl,sf (((hr.build #[M D,M D,H I 0,M D,M D,H I 0] 70).drew.below b5).below b6) _ _ _ _ _ _,((((((((hx.alloc _).drew.below b5).below b6).set _ _).set _ _).set _ _).set _ _).set _ _).set _ _⟩
       |trace_state
    case rest=>
     obtain⟨E,rfl,rfl,hr2,hx2⟩:=hcut;clear hr hx hq hq0 hword ql gl cl c7 hTK HI HD HSB HSA HS6;obtain⟨c0,c1,c2,c3,c4,c5,c6,c7⟩:=hr2.right.cells8;obtain⟨f0,f1,f2,f3,f4,f5,f6,f7⟩:=hr2.right.frees8;have cl:=hr2.right.lt;obtain⟨e0,e1,e2,e3,e4,e5⟩:=hr2.right.right.cells6;have el:=hr2.right.right.lt;have hE:=hr2.r3;obtain⟨r0,r1,r2,r3,r4,r5,r6,r7⟩:=hE.cells8;obtain⟨g0,g1,g2,g3,g4,g5,g6,g7⟩:=hE.frees8;have rl:=hE.lt;have hne:w.heap.size+1≠w.heap.size:=by omega
     by_cases hc:code=0
     case neg=>
      have hyy:=G (hy.out.trans (hbad.out hc));clear hy;have hy:=hyy;have hn:(code !=0)=F:=by simpa using hc
      go_wp2_with fail
      refine am (fun wz=>U wz (aa w.heap.size #[.slice J 0 0,M D,M D,H I 0,M D,M D,H I 0,H I 0] 146*bE w w.heap.size)∧a3 w wz) ⟨hE.set8 _ _ _ _ _ _ _ _,hx2.set8 _ _ _ _ _ _ _ _ _⟩ ?_;rintro wz ⟨hz,xz⟩;exact N (aA results79 rfl rfl (jd hz)) rfl ⟨J,0,by rw[hy.out];rfl,by rw[hy.out];exact Has.rowNil hz.right,xz⟩
     subst hc;have hrow:=hr2.alloc (.cells #[H I (t:Int)] 3);clear r0 r1 r2 r3 r4 r5 r6 r7 g0 g1 g2 g3 g4 g5 g6 g7;go_upto_region 10 with fail;go_cut [] (fun wx=>∃(A':Option bd) (c':Nat),U wx (ao (.slice A' (acc.length+1) c') (acc++[(t:Int)])*(aa (w.heap.size+1) #[.slice A' (acc.length+1) c',M D,M D,H I 0,M D,M D,H I 0,H I L] 146*(aa E #[M e.there,M e.leaf,H I e.rights,M e.used,M e.dirty,H I e.frame] 70*(aa w.heap.size #[.slice J 0 0,M D,M D,H I 0,M D,M D,H I 0,H I 0] 146*bE w w.heap.size))))∧a3 w wx)
     case first=>
      go_wp2_with(at_builtin;refine aV rfl _ _ 45 rfl underlying45 fK _ _ _ rfl hrow (Q wc.heap.size 0 J) 1 1 [H I (t:Int)] rfl rfl (dU _ _ _) ?k1 ?k2 ?k3 ?_)
      case k1=>rfl
      case k2=>unfold maxLen;omega
      case k3=>omega
      intro v' w7 h7 x7;obtain⟨A',c',rfl⟩:=h7.rowForm;have y0:=h7.right.cell 0;have y1:=h7.right.free 0;have yl:=h7.right.lt;go_wp2_with fail
      go_meet
      case rel=>exact⟨A',c',vV (vS h7 _),((hx2.alloc _).trans x7).set _ _⟩
     case rest=>
      obtain⟨A',c',hr,hx⟩:=hcut;clear hr2 hx2 hrow c0 c1 c2 c3 c4 c5 c6 c7 f0 f1 f2 f3 f4 f5 f6 f7 cl e0 e1 e2 e3 e4 e5 el hE rl;obtain⟨c0,c1,c2,c3,c4,c5,c6,c7⟩:=hr.right.cells8;obtain⟨f0,f1,f2,f3,f4,f5,f6,f7⟩:=hr.right.frees8;have cl:=hr.right.lt;obtain⟨e0,e1,e2,e3,e4,e5⟩:=hr.right.right.cells6;have el:=hr.right.right.lt;have hE:=hr.r3;obtain⟨r0,r1,r2,r3,r4,r5,r6,r7⟩:=hE.cells8;obtain⟨g0,g1,g2,g3,g4,g5,g6,g7⟩:=hE.frees8;have rl:=hE.lt;by_cases hend1:e.there=D∨e.leaf=F
      ·have hyy:=G (hy.out.trans (hend.out rfl hend1))
       obtain⟨th,lf,rg,us,di,fr⟩:=e;dsimp only at*
       cases th with
       |false=>
        go_wp2_with fail
        refine am (fun wz=>U wz (aa w.heap.size #[.slice A' (acc.length+1) c',M D,M lf,H I rg,M us,M di,H I fr,H I L] 146*(ao (.slice A' (acc.length+1) c') (acc++[(t:Int)])*bE w w.heap.size))∧a3 w wz) ⟨qC hr _ _ _ _ _ _,Ext.set8 ((((((hx.set _ _).set _ _).set _ _).set _ _).set _ _).set _ _) _ _ _ _ _ _ _ _ _⟩ ?_;rintro wz ⟨hz,xz⟩;have hlen:(acc++[(t:Int)]).length =acc.length+1:=by rw[al,List.length_singleton]
        refine N (aA results79 rfl rfl (jd hz)) rfl ?_;rw[hyy.out];refine⟨A',c',?_,?_,xz⟩
        ·show _=af (yW _ A' (acc++[(t:Int)]).length c')
         rw[hlen];rfl
        ·show U wz (ao (.slice A' (acc++[(t:Int)]).length c') (acc++[(t:Int)])*bE w w.heap.size)
         rw[hlen];exact hz.right
       |true=>
        cases lf with
        |true=>
         go_wp2_with fail
         refine am (fun wz=>U wz (aa w.heap.size #[.slice A' (acc.length+1) c',M F,M F,H I rg,M us,M di,H I fr,H I L] 146*(ao (.slice A' (acc.length+1) c') (acc++[(t:Int)])*bE w w.heap.size))∧a3 w wz) ⟨qC hr _ _ _ _ _ _,Ext.set8 ((((((hx.set _ _).set _ _).set _ _).set _ _).set _ _).set _ _) _ _ _ _ _ _ _ _ _⟩ ?_;rintro wz ⟨hz,xz⟩;have hlen:(acc++[(t:Int)]).length =acc.length+1:=by rw[al,List.length_singleton]
         refine N (aA results79 rfl rfl (jd hz)) rfl ?_;rw[hyy.out];refine⟨A',c',?_,?_,xz⟩
         ·show _=af (yW _ A' (acc++[(t:Int)]).length c')
          rw[hlen];rfl
         ·show U wz (ao (.slice A' (acc++[(t:Int)]).length c') (acc++[(t:Int)])*bE w w.heap.size)
          rw[hlen];exact hz.right
        |false=>rcases hend1 with h|h<;>cases h
      ·have h12:e.there=F∧e.leaf=D:=by
        cases h1:e.there<;>cases h2:e.leaf<;>simp_all
       obtain⟨h1,h2⟩:=h12;obtain⟨K,rfl,hK⟩:=hon.out rfl hend1;have hwr:IntKind.i64.wrap (((K+1:Nat):Int) - 1)=(K:Int):=by rw[Z];omega
       go_wp2_with fail
       go_roundw
       case rel=>
        refine⟨K,e.frame,acc++[(t:Int)],A',c',rfl,by rw[al,List.length_singleton];omega,G ?_,?_,hx.set _ _⟩
        ·rw[←hK,←hy.out,←hwy.out]
        ·rw[al,List.length_singleton]
         exact(vT hr _).drop3
       case measure=>
        rw[hlev.out];unfold xk;rw[World.cell?_setCell_same _ _ _ c7];simp
set_option maxHeartbeats 4000000 in
theorem iA(e:En)(l a:Int)(w:ag):a5 prog 80 #[.agg #[M e.there,M e.leaf,H I e.rights,M e.used,M e.dirty,H I e.frame],.int .i64 l,.int .i64 a] w (bf (aB e l a).val w):=by
 obtain⟨th,leaf,r,u,d,f⟩:=e;have h1:=(Has.new (aT w) #[M th,M leaf,H I r,M u,M d,H I f] 70).new #[H I 0,H I 0,H I 0,H I 0] 39;have x1:=((Ext.refl w).alloc (.cells #[M th,M leaf,H I r,M u,M d,H I f] 70)).alloc (.cells #[H I 0,H I 0,H I 0,H I 0] 39);simp only[a6] at h1;have HC:=G (fun W=>fV ⟨th,leaf,r,u,d,f⟩ l W);by_cases hc:aj ⟨th,leaf,r,u,d,f⟩ l=0
 ·have hl:=ip hc
  cases leaf with
  |false=>
   have hy:=G (fw (e:=⟨th,D,r,u,d,f⟩) (l:=l) (a:=a) (.inr (.inl rfl)));rw[hc] at HC;clear hc;go_enter func80,ntmps80;go_wp2_with fail
   refine(HC.out _).mono ?_;rintro e w2 ⟨rfl,bl⟩;have h2:=h1.below bl;have x2:=x1.below bl;obtain⟨c0,c1,c2,c3⟩:=h2.cells4;obtain⟨d0,d1,d2,d3,d4,d5⟩:=h2.right.cells6;obtain⟨f0,f1,f2,f3⟩:=h2.frees4;have l2:=h2.lt;go_wp2_with fail
   refine am (fun wz=>U wz (aa (w.heap.size+1) #[H I 0,H I 0,H I 0,H I 0] 39*(aa w.heap.size _ 70*bE w w.heap.size))∧a3 w wz) ⟨h2.set4 _ _ _ _,ah⟩ ?_;rintro wz ⟨hz,xz⟩;exact N (aG results80 rfl (bh hz)) rfl ⟨by rw[hy.out];rfl,ar hz.right.right xz⟩
  |true=>
   by_cases a0:0≤a
   ·by_cases a1:a<4096
    ·have hth:th=F:=by
      cases th with
      |true=>rfl
      |false=>
       have:=dE hc rfl;simp[En.zero] at this
     subst hth;have hl3:=((dF hc rfl).leaf rfl).1;have hl0:=hl.1;have hy:=G (show aB ⟨F,F,r,u,d,f⟩ l a=⟨a / bn l*bn l,l,f,r⟩ by unfold aB;rw[if_pos ⟨hc,rfl,a0,a1⟩]);rw[hc] at HC;clear hc hl;have hl:l=0∨l=1∨l=2:=by omega
     clear hl0 hl3;rcases hl with rfl|rfl|rfl
     ·skip
      have hq:=G (show IntKind.i64.wrap a=a / bn 0*bn 0 by rw[show bn 0=1 from rfl];first|(simp only[Z];omega)|(simp only[Z,Int.tmod_eq_emod_of_nonneg a0];omega));have hs':=G (bN 0);rw[show bn 0=1 from rfl] at hs';go_enter func80,ntmps80;go_wp2_with fail
      refine(HC.out _).mono ?_;rintro e w2 ⟨rfl,bl⟩;have h2:=h1.below bl;have x2:=x1.below bl;obtain⟨c0,c1,c2,c3⟩:=h2.cells4;obtain⟨d0,d1,d2,d3,d4,d5⟩:=h2.right.cells6;obtain⟨f0,f1,f2,f3⟩:=h2.frees4;have l2:=h2.lt;clear HC h1 x1 bl;go_wp2_with fail
      go_region_held3 (fun w'=>w'.cell? (Q w.heap.size 5 J)=S (H I f)∧w'.cell? (Q w.heap.size 2 J)=S (H I r)) (go_keep) (first|(go_at_call 137;(with_reducible refine(hs'.out _).mono ?_);rintro e w' ⟨rfl,rfl⟩))
      go_wp2;refine am (fun wz=>U wz (aa (w.heap.size+1) #[H I (IntKind.i64.wrap a),H I 0,H I f,H I r] 39*(aa w.heap.size #[M F,M F,H I r,M u,M d,H I f] 70*bE w w.heap.size))∧a3 w wz) ⟨(h2.set4 _ _ _ _).drew,ah⟩ ?_;rintro wz ⟨hz,xz⟩;exact N (aG results80 rfl (bh hz)) rfl ⟨by rw[hy.out,←hq.out];rfl,ar hz.right.right xz⟩
     ·skip
      have hq:=G (show IntKind.i64.wrap (a - a.tmod 8)=a / bn 1*bn 1 by rw[show bn 1=8 from rfl];first|(simp only[Z];omega)|(simp only[Z,Int.tmod_eq_emod_of_nonneg a0];omega));have hs':=G (bN 1);rw[show bn 1=8 from rfl] at hs';go_enter func80,ntmps80;go_wp2_with fail
      refine(HC.out _).mono ?_;rintro e w2 ⟨rfl,bl⟩;have h2:=h1.below bl;have x2:=x1.below bl;obtain⟨c0,c1,c2,c3⟩:=h2.cells4;obtain⟨d0,d1,d2,d3,d4,d5⟩:=h2.right.cells6;obtain⟨f0,f1,f2,f3⟩:=h2.frees4;have l2:=h2.lt;clear HC h1 x1 bl;go_wp2_with fail
      go_region_held3 (fun w'=>w'.cell? (Q w.heap.size 5 J)=S (H I f)∧w'.cell? (Q w.heap.size 2 J)=S (H I r)) (go_keep) (first|(go_at_call 137;(with_reducible refine(hs'.out _).mono ?_);rintro e w' ⟨rfl,rfl⟩))
      go_wp2;refine am (fun wz=>U wz (aa (w.heap.size+1) #[H I (IntKind.i64.wrap (a - a.tmod 8)),H I 1,H I f,H I r] 39*(aa w.heap.size #[M F,M F,H I r,M u,M d,H I f] 70*bE w w.heap.size))∧a3 w wz) ⟨(h2.set4 _ _ _ _).drew,ah⟩ ?_;rintro wz ⟨hz,xz⟩;exact N (aG results80 rfl (bh hz)) rfl ⟨by rw[hy.out,←hq.out];rfl,ar hz.right.right xz⟩
     ·skip
      have hq:=G (show IntKind.i64.wrap (a - a.tmod 64)=a / bn 2*bn 2 by rw[show bn 2=64 from rfl];first|(simp only[Z];omega)|(simp only[Z,Int.tmod_eq_emod_of_nonneg a0];omega));have hs':=G (bN 2);rw[show bn 2=64 from rfl] at hs';go_enter func80,ntmps80;go_wp2_with fail
      refine(HC.out _).mono ?_;rintro e w2 ⟨rfl,bl⟩;have h2:=h1.below bl;have x2:=x1.below bl;obtain⟨c0,c1,c2,c3⟩:=h2.cells4;obtain⟨d0,d1,d2,d3,d4,d5⟩:=h2.right.cells6;obtain⟨f0,f1,f2,f3⟩:=h2.frees4;have l2:=h2.lt;clear HC h1 x1 bl;go_wp2_with fail
      go_region_held3 (fun w'=>w'.cell? (Q w.heap.size 5 J)=S (H I f)∧w'.cell? (Q w.heap.size 2 J)=S (H I r)) (go_keep) (first|(go_at_call 137;(with_reducible refine(hs'.out _).mono ?_);rintro e w' ⟨rfl,rfl⟩))
      go_wp2;refine am (fun wz=>U wz (aa (w.heap.size+1) #[H I (IntKind.i64.wrap (a - a.tmod 64)),H I 2,H I f,H I r] 39*(aa w.heap.size #[M F,M F,H I r,M u,M d,H I f] 70*bE w w.heap.size))∧a3 w wz) ⟨(h2.set4 _ _ _ _).drew,ah⟩ ?_;rintro wz ⟨hz,xz⟩;exact N (aG results80 rfl (bh hz)) rfl ⟨by rw[hy.out,←hq.out];rfl,ar hz.right.right xz⟩
    ·have hy:=G (fw (e:=⟨th,F,r,u,d,f⟩) (l:=l) (a:=a) (.inr (.inr (by unfold cY;simp;omega))))
     rw[hc] at HC;clear hc;go_enter func80,ntmps80;go_wp2_with fail
     refine(HC.out _).mono ?_;rintro e w2 ⟨rfl,bl⟩;have h2:=h1.below bl;have x2:=x1.below bl;obtain⟨c0,c1,c2,c3⟩:=h2.cells4;obtain⟨d0,d1,d2,d3,d4,d5⟩:=h2.right.cells6;obtain⟨f0,f1,f2,f3⟩:=h2.frees4;have l2:=h2.lt;go_wp2_with fail
     refine am (fun wz=>U wz (aa (w.heap.size+1) #[H I 0,H I 0,H I 0,H I 0] 39*(aa w.heap.size _ 70*bE w w.heap.size))∧a3 w wz) ⟨h2.set4 _ _ _ _,ah⟩ ?_;rintro wz ⟨hz,xz⟩;exact N (aG results80 rfl (bh hz)) rfl ⟨by rw[hy.out];rfl,ar hz.right.right xz⟩
   ·have hy:=G (fw (e:=⟨th,F,r,u,d,f⟩) (l:=l) (a:=a) (.inr (.inr (by unfold cY;simp;omega))))
    rw[hc] at HC;clear hc;go_enter func80,ntmps80;go_wp2_with fail
    refine(HC.out _).mono ?_;rintro e w2 ⟨rfl,bl⟩;have h2:=h1.below bl;have x2:=x1.below bl;obtain⟨c0,c1,c2,c3⟩:=h2.cells4;obtain⟨d0,d1,d2,d3,d4,d5⟩:=h2.right.cells6;obtain⟨f0,f1,f2,f3⟩:=h2.frees4;have l2:=h2.lt;go_wp2_with fail
    refine am (fun wz=>U wz (aa (w.heap.size+1) #[H I 0,H I 0,H I 0,H I 0] 39*(aa w.heap.size _ 70*bE w w.heap.size))∧a3 w wz) ⟨h2.set4 _ _ _ _,ah⟩ ?_;rintro wz ⟨hz,xz⟩;exact N (aG results80 rfl (bh hz)) rfl ⟨by rw[hy.out];rfl,ar hz.right.right xz⟩
 ·have hy:=G (fw (e:=⟨th,leaf,r,u,d,f⟩) (l:=l) (a:=a) (.inl hc))
  have hn:(aj ⟨th,leaf,r,u,d,f⟩ l !=0)=F:=by simpa using hc
  clear hc;generalize aj ⟨th,leaf,r,u,d,f⟩ l=c at*
  go_enter func80,ntmps80;go_wp2_with fail
  refine(HC.out _).mono ?_;rintro e w2 ⟨rfl,bl⟩;have h2:=h1.below bl;have x2:=x1.below bl;obtain⟨c0,c1,c2,c3⟩:=h2.cells4;obtain⟨d0,d1,d2,d3,d4,d5⟩:=h2.right.cells6;obtain⟨f0,f1,f2,f3⟩:=h2.frees4;have l2:=h2.lt;go_wp2_with fail
  refine am (fun wz=>U wz (aa (w.heap.size+1) #[H I 0,H I 0,H I 0,H I 0] 39*(aa w.heap.size _ 70*bE w w.heap.size))∧a3 w wz) ⟨h2.set4 _ _ _ _,ah⟩ ?_;rintro wz ⟨hz,xz⟩;exact N (aG results80 rfl (bh hz)) rfl ⟨by rw[hy.out];rfl,ar hz.right.right xz⟩
theorem da{w:ag}{R:ab}{A:Option bd}{n c:Nat}{l:List Int}(h:U w (ao (.slice A n c) l*R)){k:Nat}(hk:k<l.length):
  ∃b,A=S (Q b 0 J)∧b<w.heap.size∧w.cell? (Q b k J)=S (H I l[k]):=by
 have hf:=(Has.rowCases (e:=3) (size:=1) h);have hn:n=l.length:=by
  rcases hf with ⟨hv,h0,_⟩|⟨g,cap,cur,hv,_⟩
  ·injection hv with a b
   omega
  ·injection hv
 subst hn;obtain⟨b,e,hb,hc,_⟩:=Has.rowGet (e:=3) (size:=1) h (i:=k) (u:=H I l[k]) (by simp[hk]);exact⟨b,e,hb,hc⟩
theorem cT{w:ag}{R:ab}{A:Option bd}{n c:Nat}{l:List Int}(h:U w (ao (.slice A n c) l*R)):n=l.length:=by
 rcases(Has.rowCases (e:=3) (size:=1) h) with ⟨hv,h0,_⟩|⟨g,cap,cur,hv,_⟩
 ·injection hv with a b
  omega
 ·injection hv
theorem kK{w:ag}{R:ab}{A:Option bd}{n c:Nat}{l:List Int}(h:U w (ao (.slice A n c) l*R)):n≤9223372036854775807:=by
 obtain rfl:=cT h;exact(Has.rowLens (e:=3) (size:=1) h).2
theorem lg{w:ag}{R:ab}{A:Option bd}{n c:Nat}{l:List Int}(h:U w (ao (.slice A n c) l*R)):n≤c∧c≤maxLen:=by
 have hn:=cT h;rcases(Has.rowCases (e:=3) (size:=1) h) with ⟨hv,h0,_⟩|⟨g,cap,cur,hv,h1,h2,_⟩
 ·injection hv with a b d
  subst d;exact⟨by omega,Nat.zero_le _⟩
 ·injection hv with a b d
  subst d;exact⟨by omega,h2⟩
theorem tO{w:ag}{R:ab}{A:Option bd}{n c:Nat}{l:List Int}(h:U w (ao (.slice A n c) l*R))(i:Nat)(hi:i≤l.length):Rd w A i ((l.take i).map (H I)):=by
 obtain rfl:=cT h;have hsm:=kK h;refine⟨by simp;omega,by omega,fun j u hj=> ?_⟩;have hjl:j< ((l.take i).map (H I)).length :=(ad.1 hj).1;have hjl:j<l.length:=by simp at hjl;omega
 obtain⟨b,rfl,hb,hc⟩:=da h hjl;refine⟨b,0,rfl,hb,?_⟩;rw[Nat.zero_add,hc];obtain⟨_,e⟩:=ad.1 hj;rw[←e];simp
end Go.Proofs.YtmfheghbgihdmaaGreat
