/- Contract of walker's read. -/
import Derived.Test.YtmfheghbgihdmaaGreatDoorWkr
import Derived.Test.YtmfheghbgihdmaaGreatDoorEntBits
import Derived.Test.YtmfheghbgihdmaaGreatDoorTblM3
import Derived.BigQuiet
namespace Go.Proofs.YtmfheghbgihdmaaGreatDoor
open Bool renaming false→d,true→o
open Go.Value renaming int→g,bool→p
open Go.IntKind renaming i64→j,u64→H,wrap_i64→I
open Go.Lib renaming hid→q
open Option renaming none→u,some→A
open Go.Proofs.YtmfheghbgihdmaaGreatDoor.Same renaming via→y
open Go.Proofs.YtmfheghbgihdmaaGreatDoor.Pure renaming via→z
open Go.Addr renaming mk→C
open Go renaming bodyPost_ret→D,World→F,Calls→J
open Go.Proofs.YtmfheghbgihdmaaGreatDoor renaming Has→E,Ext→G,Ck→K
open Tryz
open Go.RowKit
set_option maxRecDepth 100000
theorem Has.frees14{w:F}{R:ab}{b:Nat}{cs:Array Value}{t:TypeId}(h:E w (aa b cs t*R)):
  w.frozen? (C b 1 u)=d∧w.frozen? (C b 5 u)=d∧w.frozen? (C b 6 u)=d∧w.frozen? (C b 7 u)=d∧w.frozen? (C b 8 u)=d∧w.frozen? (C b 9 u)=d∧w.frozen? (C b 10 u)=d∧w.frozen? (C b 11 u)=d∧w.frozen? (C b 12 u)=d∧w.frozen? (C b 13 u)=d:=
 ⟨h.free 1,h.free 5,h.free 6,h.free 7,h.free 8,h.free 9,h.free 10,h.free 11,h.free 12,h.free 13⟩
theorem oT{w:F}{b:Nat}{root:Int}{c:K}{w0:Int}{e0:En}{R:ab}(h:E w (aa b (gm root c w0 e0) 266*R))(v:Int)(e:En):
  E (((((((w.setCell (C b 7 u) (g H v)).setCell (C b 8 u) (p e.there)).setCell (C b 9 u) (p e.leaf)).setCell (C b 10 u) (g j e.rights)).setCell (C b 11 u) (p e.used)).setCell (C b 12 u) (p e.dirty)).setCell (C b 13 u) (g j e.frame)) (aJ b root c v e*R):=by
 have s7:E _ (aa b #[g j root,g j (lj c),g j c.a.page,g j c.a.kind,p c.a.user,g j c.level,g j c.t,g H v,p e0.there,p e0.leaf,g j e0.rights,p e0.used,p e0.dirty,g j e0.frame] 266*R):=h.set 7 (g H v);have s8:E _ (aa b #[g j root,g j (lj c),g j c.a.page,g j c.a.kind,p c.a.user,g j c.level,g j c.t,g H v,p e.there,p e0.leaf,g j e0.rights,p e0.used,p e0.dirty,g j e0.frame] 266*R):=s7.set 8 (p e.there);have s9:E _ (aa b #[g j root,g j (lj c),g j c.a.page,g j c.a.kind,p c.a.user,g j c.level,g j c.t,g H v,p e.there,p e.leaf,g j e0.rights,p e0.used,p e0.dirty,g j e0.frame] 266*R):=s8.set 9 (p e.leaf);have s10:E _ (aa b #[g j root,g j (lj c),g j c.a.page,g j c.a.kind,p c.a.user,g j c.level,g j c.t,g H v,p e.there,p e.leaf,g j e.rights,p e0.used,p e0.dirty,g j e0.frame] 266*R):=s9.set 10 (g j e.rights);have s11:E _ (aa b #[g j root,g j (lj c),g j c.a.page,g j c.a.kind,p c.a.user,g j c.level,g j c.t,g H v,p e.there,p e.leaf,g j e.rights,p e.used,p e0.dirty,g j e0.frame] 266*R):=s10.set 11 (p e.used);have s12:E _ (aa b #[g j root,g j (lj c),g j c.a.page,g j c.a.kind,p c.a.user,g j c.level,g j c.t,g H v,p e.there,p e.leaf,g j e.rights,p e.used,p e.dirty,g j e0.frame] 266*R):=s11.set 12 (p e.dirty);have s13:E _ (aa b #[g j root,g j (lj c),g j c.a.page,g j c.a.kind,p c.a.user,g j c.level,g j c.t,g H v,p e.there,p e.leaf,g j e.rights,p e.used,p e.dirty,g j e.frame] 266*R):=s12.set 13 (g j e.frame);exact s13
theorem Mk.idle(c:K)(w:Int)(e:En):Mk c.idle w e:=fun h=>by cases h
theorem Mk.off{c:K}(w:Int)(e:En)(h:c.mark=d):Mk c w e:=fun h'=>by rw[h] at h';cases h'
set_option maxHeartbeats 8000000 in
theorem Ax(b f:Nat)(root:Int)(c:K)(s:Ms)(hs:s.Ok)(hc:c.Ok)(hon:c.on=o)(hmk:c.mark=d)(w0:Int)(e0:En)(R:ab)(W:F)(h:E W (aJ b root c w0 e0*(ae f s*R))):
  J prog 218 #[.pointer (A (C b 0 u)),.pointer (A (C f 0 u))] W (cF (.tuple #[zy (be s root c).r,g j (be s root c).code]) (aO b root (be s root c).c *(ae f (be s root c).s *R)) W):=by
 have h1:=h.new #[p d,g j 0,g j 0,g j 0,g j 0,g j 0,g j 0,g j 0,p d] 274;have x1:=(Ext.refl W).alloc (.cells #[p d,g j 0,g j 0,g j 0,g j 0,g j 0,g j 0,g j 0,p d] 274);have hp:=jJ (hc.acc hon);have HI:=q (fun X=>jE c.a.page c.level X);have HL:=q (fun R X (h:E X (ae f s*R))=>rM f s c.t (ai c.a.page c.level) R X h);rw[dJ hp (hc.l0 hon) (hc.l3 hon)] at HL;have hstep:be s root c=if s.has c.t=d then⟨c,s,Rs.zero,12⟩
   else if bv (c.word s) c.level≠0 then⟨c,s,Rs.zero,bv (c.word s) c.level⟩
   else if(aC (c.word s) c.level).there =d then c.endWith s 1
   else if(aC (c.word s) c.level).leaf =d then⟨{c with t:=(aC (c.word s) c.level).frame,level:=c.level - 1},s,Rs.zero,0⟩
   else if may (aC (c.word s) c.level).rights c.a=d then c.endWith s 2
   else if fI (aC (c.word s) c.level) c.a=o then c.leafEnd s (aC (c.word s) c.level)
   else⟨{c with mark:=o,w:=c.word s},s,Rs.zero,0⟩:=by
  unfold be;rw[if_neg (by rw[hon];simp)];simp only[hmk,Bool.false_eq_true,false_and,if_false]
 clear h;cases ht:s.has c.t with
 |false=>
  have hy:=q (show be s root c=⟨c,s,Rs.zero,12⟩ by rw[hstep,if_pos ht]);have HM:=q (Mk.off w0 e0 hmk);rw[ht] at HL;clear hstep ht hp hon hmk hc hs;generalize dw s c.t (ai c.a.page c.level)=v at*
  generalize ai c.a.page c.level=ix at*
  go_enter func218,ntmps218;go_upto_region 1 with fail;generalize W.alloc _=W1 at*
  generalize W.heap.size=X0 at*
  have hb:=h1.p2;unfold aJ at hb;obtain⟨k0,k1,k2,k3,k4,k5,k6,k7,k8,k9,k10,k11,k12,k13⟩:=hb.cells14;have v2:=am k2;have v5:=am k5;have v6:=am k6;clear hb k0 k1 k2 k3 k4 k5 k6 k7 k8 k9 k10 k11 k12 k13;refine aI (by kernel_rfl) (by kernel_rfl) ?_;repeat(first|go_big_quiet_step ((first|(go_at_call 209;exact y (HI.out _))|(go_at_call 200;exact y (HL.out _ _ (h1.right.right.via _)))))|quiet_step ((first|(go_at_call 209;exact y (HI.out _))|(go_at_call 200;exact y (HL.out _ _ (h1.right.right.via _))))))
  refine wpQuiet_nil ?_;intro _ hw';obtain⟨uq,hw''⟩:=hw';subst hw'';have h2:=h1.via uq;have x2:=x1.below (aV _ uq);generalize kb W1 uq=W2 at*
  clear h1 x1 v2 v5 v6 HI HL;have hb:=h2.p2;unfold aJ at hb;have k5:W2.cell? (C b 5 u)=A (g j c.level):=hb.cell 5;have kl:=hb.lt;clear hb;obtain⟨r0,r1,r2,r3,r4,r5,r6,r7,r8⟩:=h2.cells9;obtain⟨g0,g1,g2,g3,g4,g5,g6,g7,g8⟩:=h2.frees9;have rl:=h2.lt;go_wp2_with fail
  refine ay (fun wz=>E wz (aa X0 #[p d,g j 0,g j 0,g j 0,g j 0,g j 0,g j 0,g j 0,p d] 274*(aJ b root c w0 e0*(ae f s*R)))∧G W wz) ⟨h2.set9 _ _ _ _ _ _ _ _ _,aj⟩ ?_;rintro wz ⟨hz,xz⟩;exact D (aF results218 rfl rfl (b9 hz)) rfl ⟨by rw[hy.out];rfl,by rw[hy.out];exact bw HM.out hz.right,xz⟩
 |true=>
  rw[ht] at HL;rw[if_neg (by rw[ht];simp)] at hstep;have hlw:dw s c.t (ai c.a.page c.level)=c.word s:=by
   unfold dw Ck.word ar;rw[if_pos (by rw[dJ hp (hc.l0 hon) (hc.l3 hon)];exact ht)]
  rw[hlw] at HL;have hwb:=hs.inv.wok c.t.toNat (ai c.a.page c.level).toNat;have HD:=q (fun X=>j0 (c.word s) c.level X hwb.1 hwb.2);clear hwb hlw;have HM0:=q (Mk.off w0 e0 hmk);by_cases hd:bv (c.word s) c.level=0
  case neg=>
   have hy:=q (show be s root c=⟨c,s,Rs.zero,bv (c.word s) c.level⟩ by rw[hstep,if_pos hd]);have hv:=q (fd (w:=c.word s) (l:=c.level) rfl (.inl hd));rw[hv.out] at HD;have hn:(bv (c.word s) c.level !=0)=o:=by simpa using hd
   clear hv hstep ht hp hon hmk hc hs hd;generalize bv (c.word s) c.level=code at*
   generalize c.word s=v at*
   generalize ai c.a.page c.level=ix at*
   go_enter func218,ntmps218;go_upto_region 1 with fail;generalize W.alloc _=W1 at*
   generalize W.heap.size=X0 at*
   have hb:=h1.p2;unfold aJ at hb;obtain⟨k0,k1,k2,k3,k4,k5,k6,k7,k8,k9,k10,k11,k12,k13⟩:=hb.cells14;have v2:=am k2;have v5:=am k5;have v6:=am k6;clear hb k0 k1 k2 k3 k4 k5 k6 k7 k8 k9 k10 k11 k12 k13;refine aI (by kernel_rfl) (by kernel_rfl) ?_;repeat(first|go_big_quiet_step ((first|(go_at_call 209;exact y (HI.out _))|(go_at_call 200;exact y (HL.out _ _ (h1.right.right.via _)))))|quiet_step ((first|(go_at_call 209;exact y (HI.out _))|(go_at_call 200;exact y (HL.out _ _ (h1.right.right.via _))))))
   refine wpQuiet_nil ?_;intro _ hw';obtain⟨uq,hw''⟩:=hw';subst hw'';have h2:=h1.via uq;have x2:=x1.below (aV _ uq);generalize kb W1 uq=W2 at*
   clear h1 x1 v2 v5 v6 HI HL;have hb:=h2.p2;unfold aJ at hb;have k5:W2.cell? (C b 5 u)=A (g j c.level):=hb.cell 5;have kl:=hb.lt;clear hb;go_wp2_with fail
   refine(HD.out _).mono ?_;rintro e2 w3 ⟨rfl,b3⟩;have h3:=h2.below b3;have x3:=x2.below b3;clear h2 x2 b3 HD k5 kl;obtain⟨r0,r1,r2,r3,r4,r5,r6,r7,r8⟩:=h3.cells9;obtain⟨g0,g1,g2,g3,g4,g5,g6,g7,g8⟩:=h3.frees9;have rl:=h3.lt;go_wp2_with fail
   refine ay (fun wz=>E wz (aa X0 #[p d,g j 0,g j 0,g j 0,g j 0,g j 0,g j 0,g j 0,p d] 274*(aJ b root c w0 e0*(ae f s*R)))∧G W wz) ⟨(h3.set9 _ _ _ _ _ _ _ _ _).alloc _,aj⟩ ?_;rintro wz ⟨hz,xz⟩;exact D (aF results218 rfl rfl (b9 hz)) rfl ⟨by rw[hy.out];rfl,by rw[hy.out];exact bw HM0.out hz.right,xz⟩
  case pos=>
   rw[if_neg (by rw[hd];simp)] at hstep;have hv:ic (c.word s) c.level= .tuple #[.agg #[p (aC (c.word s) c.level).there,p (aC (c.word s) c.level).leaf,g j (aC (c.word s) c.level).rights,p (aC (c.word s) c.level).used,p (aC (c.word s) c.level).dirty,g j (aC (c.word s) c.level).frame],g j 0]:=by unfold ic;rw[hd]
   rw[hv] at HD;have hdE:Hid (aC (c.word s) c.level=aC (c.word s) c.level):=q rfl;generalize hE:aC (c.word s) c.level=e at*
   have HE0:=q hE;obtain⟨th,lf,rg,us,di,fr⟩:=e;dsimp only at hstep;clear hv hdE hE;cases th with
   |false=>
    rw[if_pos rfl] at hstep;have hy:=q hstep;clear hstep ht hp hon hmk hc hs hd HE0;generalize c.word s=v at*
    generalize ai c.a.page c.level=ix at*
    go_enter func218,ntmps218;go_upto_region 1 with fail;generalize W.alloc _=W1 at*
    generalize W.heap.size=X0 at*
    have hb:=h1.p2;unfold aJ at hb;obtain⟨k0,k1,k2,k3,k4,k5,k6,k7,k8,k9,k10,k11,k12,k13⟩:=hb.cells14;have v2:=am k2;have v5:=am k5;have v6:=am k6;clear hb k0 k1 k2 k3 k4 k5 k6 k7 k8 k9 k10 k11 k12 k13;refine aI (by kernel_rfl) (by kernel_rfl) ?_;repeat(first|go_big_quiet_step ((first|(go_at_call 209;exact y (HI.out _))|(go_at_call 200;exact y (HL.out _ _ (h1.right.right.via _)))))|quiet_step ((first|(go_at_call 209;exact y (HI.out _))|(go_at_call 200;exact y (HL.out _ _ (h1.right.right.via _))))))
    refine wpQuiet_nil ?_;intro _ hw';obtain⟨uq,hw''⟩:=hw';subst hw'';have h2:=h1.via uq;have x2:=x1.below (aV _ uq);generalize kb W1 uq=W2 at*
    clear h1 x1 v2 v5 v6 HI HL;have hb:=h2.p2;unfold aJ at hb;have k5:W2.cell? (C b 5 u)=A (g j c.level):=hb.cell 5;have kl:=hb.lt;clear hb;go_wp2_with fail
    refine(HD.out _).mono ?_;rintro e2 w3 ⟨rfl,b3⟩;have h3:=h2.below b3;have x3:=x2.below b3;clear h2 x2 b3 HD k5 kl;have h4:=h3.new #[p d,p lf,g j rg,p us,p di,g j fr] 81;have x4:=x3.alloc (.cells #[p d,p lf,g j rg,p us,p di,g j fr] 81);clear h3 x3;go_upto_region 8 with fail;generalize w3.alloc _=w4 at*
    generalize w3.heap.size=EB at*
    obtain⟨e0',e1',e2',e3',e4',e5'⟩:=h4.cells6;have el:=h4.lt;have h6:E w4 (aJ b root c w0 e0*(aa X0 #[p d,g j 0,g j 0,g j 0,g j 0,g j 0,g j 0,g j 0,p d] 274*(aa EB #[p d,p lf,g j rg,p us,p di,g j fr] 81*(ae f s*R)))):=(h4).eq (by ac_rfl);have HE:=q (fun R X h=>zw b root c w0 e0 ⟨1,0,0⟩ ⟨Mp.zero,d⟩ R X h);go_wp2_with fail
    refine(HE.out _ _ h6).mono ?_;rintro e2 w6 ⟨rfl,h8,x8⟩;have h7:=h8.p2;obtain⟨r0,r1,r2,r3,r4,r5,r6,r7,r8⟩:=h7.cells9;obtain⟨g0,g1,g2,g3,g4,g5,g6,g7,g8⟩:=h7.frees9;have rl:=h7.lt;have x7:=(x4).trans x8;clear h6 h8 HE x8;go_wp2_with fail
    refine ay (fun wz=>E wz (aa X0 #[p o,g j 1,g j 0,g j 0,g j 0,g j 0,g j 0,g j 0,p d] 274*(aJ b root c.idle w0 e0*(aa EB #[p d,p lf,g j rg,p us,p di,g j fr] 81*(ae f s*R))))∧G W wz) ⟨h7.set9 _ _ _ _ _ _ _ _ _,aj⟩ ?_;rintro wz ⟨hz,xz⟩;exact D (aF results218 rfl rfl (b9 hz)) rfl ⟨by rw[hy.out];rfl,by rw[hy.out];exact bw (Mk.idle _ _ _) hz.right.p2.right,xz⟩
   |true=>
    rw[if_neg (by simp)] at hstep;cases lf with
    |false=>
     rw[if_pos rfl] at hstep;have hy:=q hstep;have hwr:IntKind.i64.wrap (c.level - 1)=c.level - 1:=by
      have:=hc.l0 hon;have:=hc.l3 hon;rw[I];omega
     have HM:=q (Mk.off (c:={c with t:=fr,level:=c.level - 1}) w0 e0 hmk);clear hstep ht hp hon hmk hc hs hd HE0;generalize c.word s=v at*
     generalize ai c.a.page c.level=ix at*
     go_enter func218,ntmps218;go_upto_region 1 with fail;generalize W.alloc _=W1 at*
     generalize W.heap.size=X0 at*
     have hb:=h1.p2;unfold aJ at hb;obtain⟨k0,k1,k2,k3,k4,k5,k6,k7,k8,k9,k10,k11,k12,k13⟩:=hb.cells14;have v2:=am k2;have v5:=am k5;have v6:=am k6;clear hb k0 k1 k2 k3 k4 k5 k6 k7 k8 k9 k10 k11 k12 k13;refine aI (by kernel_rfl) (by kernel_rfl) ?_;repeat(first|go_big_quiet_step ((first|(go_at_call 209;exact y (HI.out _))|(go_at_call 200;exact y (HL.out _ _ (h1.right.right.via _)))))|quiet_step ((first|(go_at_call 209;exact y (HI.out _))|(go_at_call 200;exact y (HL.out _ _ (h1.right.right.via _))))))
     refine wpQuiet_nil ?_;intro _ hw';obtain⟨uq,hw''⟩:=hw';subst hw'';have h2:=h1.via uq;have x2:=x1.below (aV _ uq);generalize kb W1 uq=W2 at*
     clear h1 x1 v2 v5 v6 HI HL;have hb:=h2.p2;unfold aJ at hb;have k5:W2.cell? (C b 5 u)=A (g j c.level):=hb.cell 5;have kl:=hb.lt;clear hb;go_wp2_with fail
     refine(HD.out _).mono ?_;rintro e2 w3 ⟨rfl,b3⟩;have h3:=h2.below b3;have x3:=x2.below b3;clear h2 x2 b3 HD k5 kl;have h4:=h3.new #[p o,p d,g j rg,p us,p di,g j fr] 81;have x4:=x3.alloc (.cells #[p o,p d,g j rg,p us,p di,g j fr] 81);clear h3 x3;go_upto_region 10 with fail;generalize w3.alloc _=w4 at*
     generalize w3.heap.size=EB at*
     obtain⟨e0',e1',e2',e3',e4',e5'⟩:=h4.cells6;have el:=h4.lt;have h5:E w4 (aJ b root c w0 e0*(aa EB #[p o,p d,g j rg,p us,p di,g j fr] 81*(aa X0 #[p d,g j 0,g j 0,g j 0,g j 0,g j 0,g j 0,g j 0,p d] 274*(ae f s*R)))):=h4.eq (by ac_rfl);have h6:E w4 (aJ b root c w0 e0*(aa X0 #[p d,g j 0,g j 0,g j 0,g j 0,g j 0,g j 0,g j 0,p d] 274*(aa EB #[p o,p d,g j rg,p us,p di,g j fr] 81*(ae f s*R)))):=h4.eq (by ac_rfl);unfold aJ at h5 h6;have n1:=h5.ne;have n2:=n1.symm;have n3:=h6.ne;have n4:=n3.symm;have k5:w4.cell? (C b 5 u)=A (g j c.level):=h5.cell 5;have k6:w4.cell? (C b 6 u)=A (g j c.t):=h5.cell 6;have f5:=h5.free 5;have f6:=h5.free 6;have kl:=h5.lt;have h7:E ((w4.setCell (C b 5 u) (g j (c.level - 1))).setCell (C b 6 u) (g j fr)) (aJ b root {c with t:=fr,level:=c.level - 1} w0 e0*(aa X0 #[p d,g j 0,g j 0,g j 0,g j 0,g j 0,g j 0,g j 0,p d] 274*(aa EB #[p o,p d,g j rg,p us,p di,g j fr] 81*(ae f s*R)))):=(h6.set 5 _).set 6 _;obtain⟨r0,r1,r2,r3,r4,r5,r6,r7,r8⟩:=h6.right.cells9;obtain⟨g0,g1,g2,g3,g4,g5,g6,g7,g8⟩:=h6.right.frees9;have rl:=h6.right.lt;clear h4 h5 h6;go_wp2_with fail
     refine ay (fun wz=>E wz (aa X0 #[p d,g j 0,g j 0,g j 0,g j 0,g j 0,g j 0,g j 0,p d] 274*(aJ b root {c with t:=fr,level:=c.level - 1} w0 e0*(aa EB #[p o,p d,g j rg,p us,p di,g j fr] 81*(ae f s*R))))∧G W wz) ⟨h7.p2.set9 _ _ _ _ _ _ _ _ _,aj⟩ ?_;rintro wz ⟨hz,xz⟩;exact D (aF results218 rfl rfl (b9 hz)) rfl ⟨by rw[hy.out];rfl,by rw[hy.out];exact bw HM.out hz.right.p2.right,xz⟩
    |true=>
     rw[if_neg (by simp)] at hstep;have HY:=q (fun X=>lr rg c.a.page c.a.kind c.a.user X);rw[show(⟨c.a.page,c.a.kind,c.a.user⟩:Ac)=c.a from rfl] at HY;cases hmay:may rg c.a with
     |false=>
      rw[if_pos hmay] at hstep;rw[hmay] at HY;have hy:=q hstep;clear hstep ht hp hon hmk hc hs hd HE0 hmay;generalize c.word s=v at*
      generalize ai c.a.page c.level=ix at*
      go_enter func218,ntmps218;go_upto_region 1 with fail;generalize W.alloc _=W1 at*
      generalize W.heap.size=X0 at*
      have hb:=h1.p2;unfold aJ at hb;obtain⟨k0,k1,k2,k3,k4,k5,k6,k7,k8,k9,k10,k11,k12,k13⟩:=hb.cells14;have v2:=am k2;have v5:=am k5;have v6:=am k6;clear hb k0 k1 k2 k3 k4 k5 k6 k7 k8 k9 k10 k11 k12 k13;refine aI (by kernel_rfl) (by kernel_rfl) ?_;repeat(first|go_big_quiet_step ((first|(go_at_call 209;exact y (HI.out _))|(go_at_call 200;exact y (HL.out _ _ (h1.right.right.via _)))))|quiet_step ((first|(go_at_call 209;exact y (HI.out _))|(go_at_call 200;exact y (HL.out _ _ (h1.right.right.via _))))))
      refine wpQuiet_nil ?_;intro _ hw';obtain⟨uq,hw''⟩:=hw';subst hw'';have h2:=h1.via uq;have x2:=x1.below (aV _ uq);generalize kb W1 uq=W2 at*
      clear h1 x1 v2 v5 v6 HI HL;have hb:=h2.p2;unfold aJ at hb;have k5:W2.cell? (C b 5 u)=A (g j c.level):=hb.cell 5;have kl:=hb.lt;clear hb;go_wp2_with fail
      refine(HD.out _).mono ?_;rintro e2 w3 ⟨rfl,b3⟩;have h3:=h2.below b3;have x3:=x2.below b3;clear h2 x2 b3 HD k5 kl;have h4:=h3.new #[p o,p o,g j rg,p us,p di,g j fr] 81;have x4:=x3.alloc (.cells #[p o,p o,g j rg,p us,p di,g j fr] 81);clear h3 x3;go_upto_region 13 with fail;generalize w3.alloc _=w4 at*
      generalize w3.heap.size=EB at*
      obtain⟨e0',e1',e2',e3',e4',e5'⟩:=h4.cells6;have el:=h4.lt;have hb:E w4 (aJ b root c w0 e0*(aa EB #[p o,p o,g j rg,p us,p di,g j fr] 81*(aa X0 #[p d,g j 0,g j 0,g j 0,g j 0,g j 0,g j 0,g j 0,p d] 274*(ae f s*R)))):=h4.eq (by ac_rfl);unfold aJ at hb;have v2:=am (hb.cell 2);have v3:=am (hb.cell 3);have v4:=am (hb.cell 4);have ve2:=am e2';clear hb e0' e1' e2' e3' e4' e5' el;refine aI (by kernel_rfl) (by kernel_rfl) ?_;repeat(first|go_big_quiet_step ((go_at_call 181;exact z (HY.out _)))|quiet_step ((go_at_call 181;exact z (HY.out _))))
      refine wpQuiet_nil ?_;intro _ hw';obtain⟨uq,hw''⟩:=hw';subst hw'';have h5:=h4.via uq;have x5:=x4.below (aV _ uq);generalize kb w4 uq=w5 at*
      clear h4 x4 v2 v3 v4 ve2 HY;have h6:E w5 (aJ b root c w0 e0*(aa X0 #[p d,g j 0,g j 0,g j 0,g j 0,g j 0,g j 0,g j 0,p d] 274*(aa EB #[p o,p o,g j rg,p us,p di,g j fr] 81*(ae f s*R)))):=(h5).eq (by ac_rfl);have HE:=q (fun R X h=>zw b root c w0 e0 ⟨2,0,0⟩ ⟨Mp.zero,d⟩ R X h);go_wp2_with fail
      refine(HE.out _ _ h6).mono ?_;rintro e2 w6 ⟨rfl,h8,x8⟩;have h7:=h8.p2;obtain⟨r0,r1,r2,r3,r4,r5,r6,r7,r8⟩:=h7.cells9;obtain⟨g0,g1,g2,g3,g4,g5,g6,g7,g8⟩:=h7.frees9;have rl:=h7.lt;have x7:=(x5).trans x8;clear h6 h8 HE x8;go_wp2_with fail
      refine ay (fun wz=>E wz (aa X0 #[p o,g j 2,g j 0,g j 0,g j 0,g j 0,g j 0,g j 0,p d] 274*(aJ b root c.idle w0 e0*(aa EB #[p o,p o,g j rg,p us,p di,g j fr] 81*(ae f s*R))))∧G W wz) ⟨h7.set9 _ _ _ _ _ _ _ _ _,aj⟩ ?_;rintro wz ⟨hz,xz⟩;exact D (aF results218 rfl rfl (b9 hz)) rfl ⟨by rw[hy.out];rfl,by rw[hy.out];exact bw (Mk.idle _ _ _) hz.right.p2.right,xz⟩
     |true=>
      rw[if_neg (by rw[hmay];simp)] at hstep;rw[hmay] at HY;have hwd:Hid (HE0.out=HE0.out):=q rfl;have HDN:=q (fun R X h=>yo b root c (c.word s) ⟨o,o,rg,us,di,fr⟩ R X h);have HMK:=q (fun R X h=>oS b root c (c.word s) ⟨o,o,rg,us,di,fr⟩ R X h);have HM1:Hid (Mk {c with mark:=o,w:=c.word s} (c.word s) ⟨o,o,rg,us,di,fr⟩):=q (fun _=>⟨rfl,HE0.out.symm⟩);have hst2:lj {c with mark:=o,w:=c.word s}=2:=by unfold lj;simp[hon]
      cases hr:fI ⟨o,o,rg,us,di,fr⟩ c.a with
      |true=>
       rw[if_pos hr] at hstep;have hme:=(rp ⟨o,o,rg,us,di,fr⟩ c.a).2 hr;rw[hme] at HDN HMK;have hy:=q hstep;clear hstep ht hp hon hmk hc hs hd HE0 hmay hr hme hwd HM1 hst2;generalize c.word s=v at*
       generalize ai c.a.page c.level=ix at*
       go_enter func218,ntmps218;go_upto_region 1 with fail;generalize W.alloc _=W1 at*
       generalize W.heap.size=X0 at*
       have hb:=h1.p2;unfold aJ at hb;obtain⟨k0,k1,k2,k3,k4,k5,k6,k7,k8,k9,k10,k11,k12,k13⟩:=hb.cells14;have v2:=am k2;have v5:=am k5;have v6:=am k6;clear hb k0 k1 k2 k3 k4 k5 k6 k7 k8 k9 k10 k11 k12 k13;refine aI (by kernel_rfl) (by kernel_rfl) ?_;repeat(first|go_big_quiet_step ((first|(go_at_call 209;exact y (HI.out _))|(go_at_call 200;exact y (HL.out _ _ (h1.right.right.via _)))))|quiet_step ((first|(go_at_call 209;exact y (HI.out _))|(go_at_call 200;exact y (HL.out _ _ (h1.right.right.via _))))))
       refine wpQuiet_nil ?_;intro _ hw';obtain⟨uq,hw''⟩:=hw';subst hw'';have h2:=h1.via uq;have x2:=x1.below (aV _ uq);generalize kb W1 uq=W2 at*
       clear h1 x1 v2 v5 v6 HI HL;have hb:=h2.p2;unfold aJ at hb;have k5:W2.cell? (C b 5 u)=A (g j c.level):=hb.cell 5;have kl:=hb.lt;clear hb;go_wp2_with fail
       refine(HD.out _).mono ?_;rintro e2 w3 ⟨rfl,b3⟩;have h3:=h2.below b3;have x3:=x2.below b3;clear h2 x2 b3 HD k5 kl;have h4:=h3.new #[p o,p o,g j rg,p us,p di,g j fr] 81;have x4:=x3.alloc (.cells #[p o,p o,g j rg,p us,p di,g j fr] 81);clear h3 x3;go_upto_region 13 with fail;generalize w3.alloc _=w4 at*
       generalize w3.heap.size=EB at*
       obtain⟨e0',e1',e2',e3',e4',e5'⟩:=h4.cells6;have el:=h4.lt;have hb:E w4 (aJ b root c w0 e0*(aa EB #[p o,p o,g j rg,p us,p di,g j fr] 81*(aa X0 #[p d,g j 0,g j 0,g j 0,g j 0,g j 0,g j 0,g j 0,p d] 274*(ae f s*R)))):=h4.eq (by ac_rfl);unfold aJ at hb;have v2:=am (hb.cell 2);have v3:=am (hb.cell 3);have v4:=am (hb.cell 4);have ve2:=am e2';clear hb e0' e1' e2' e3' e4' e5' el;refine aI (by kernel_rfl) (by kernel_rfl) ?_;repeat(first|go_big_quiet_step ((go_at_call 181;exact z (HY.out _)))|quiet_step ((go_at_call 181;exact z (HY.out _))))
       refine wpQuiet_nil ?_;intro _ hw';obtain⟨uq,hw''⟩:=hw';subst hw'';have h5:=h4.via uq;have x5:=x4.below (aV _ uq);generalize kb w4 uq=w5 at*
       clear h4 x4 v2 v3 v4 ve2 HY;go_upto_region 15 with fail;have h6:E w5 (aJ b root c w0 e0*(aa EB #[p o,p o,g j rg,p us,p di,g j fr] 81*(aa X0 #[p d,g j 0,g j 0,g j 0,g j 0,g j 0,g j 0,g j 0,p d] 274*(ae f s*R)))):=h5.eq (by ac_rfl);clear h5;unfold aJ at h6;go_cut [] (fun wx=>E wx (aJ b root c v ⟨o,o,rg,us,di,fr⟩*(aa X0 #[p d,g j 0,g j 0,g j 0,g j 0,g j 0,g j 0,g j 0,p d] 274*(aa EB #[p o,p o,g j rg,p us,p di,g j fr] 81*(ae f s*R))))∧G W wx)
       case first=>
        have n1:=h6.ne;have n2:=n1.symm;obtain⟨k0,k1,k2,k3,k4,k5,k6,k7,k8,k9,k10,k11,k12,k13⟩:=h6.cells14;obtain⟨f1,f5,f6,f7,f8,f9,f10,f11,f12,f13⟩:=h6.frees14;have kl:=h6.lt;obtain⟨e0',e1',e2',e3',e4',e5'⟩:=h6.right.cells6;have el:=h6.right.lt;clear k0 k1 k2 k3 k4 k5 k6 f1 f5 f6;go_region
        all_goals
         go_wp2_with fail
         go_meet
         case rel=>
          refine⟨Has.eq (P:=aJ b root c v ⟨o,o,rg,us,di,fr⟩*(aa EB #[p o,p o,g j rg,p us,p di,g j fr] 81*(aa X0 #[p d,g j 0,g j 0,g j 0,g j 0,g j 0,g j 0,g j 0,p d] 274*(ae f s*R)))) ?_ (by ac_rfl),aj⟩;with_reducible exact(oT h6 v ⟨o,o,rg,us,di,fr⟩).drew
       case rest=>
        obtain⟨h7,x7⟩:=hcut;clear h6 x5;go_wp2_with fail
        have ve0:=am (h7.right.right.cell 0);have ve1:=am (h7.right.right.cell 1);have ve2:=am (h7.right.right.cell 2);have ve3:=am (h7.right.right.cell 3);have ve4:=am (h7.right.right.cell 4);have ve5:=am (h7.right.right.cell 5);refine aI (by kernel_rfl) (by kernel_rfl) ?_;repeat(first|go_big_quiet_step ((go_at_call 219;exact z (HMK.out _ _ (h7.via _))))|quiet_step ((go_at_call 219;exact z (HMK.out _ _ (h7.via _)))))
        refine wpQuiet_nil ?_;intro _ hw';obtain⟨uq,hw''⟩:=hw';subst hw'';have h8:=h7.via uq;have x8:=x7.below (aV _ uq);generalize kb wc uq=w8 at*
        clear h7 x7 ve0 ve1 ve2 ve3 ve4 ve5 HMK;go_wp2_with fail
        refine(HDN.out _ _ h8).mono ?_;rintro e2 w9 ⟨rfl,h9,x9⟩;have hA:=h9.p2;obtain⟨r0,r1,r2,r3,r4,r5,r6,r7,r8⟩:=hA.cells9;obtain⟨g0,g1,g2,g3,g4,g5,g6,g7,g8⟩:=hA.frees9;have rl:=hA.lt;have xA:=x8.trans x9;clear h8 x8 h9 x9 HDN;have hyr:=q (show(c.leafEnd s ⟨o,o,rg,us,di,fr⟩)=⟨c.idle,s,⟨o,cv (aK ⟨o,o,rg,us,di,fr⟩ c.level c.a.page) c.a,⟨aK ⟨o,o,rg,us,di,fr⟩ c.level c.a.page,di⟩⟩,0⟩ from rfl);generalize cv (aK ⟨o,o,rg,us,di,fr⟩ c.level c.a.page) c.a=an at*
        generalize aK ⟨o,o,rg,us,di,fr⟩ c.level c.a.page=lm at*
        go_wp2_with fail
        refine ay (fun wz=>E wz (aa X0 #[p o,g j an.fin,g j an.frame,g j an.rights,g j lm.page,g j lm.size,g j lm.frame,g j lm.rights,p di] 274*(aJ b root c.idle v ⟨o,o,rg,us,di,fr⟩*(aa EB #[p o,p o,g j rg,p us,p di,g j fr] 81*(ae f s*R))))∧G W wz) ⟨hA.set9 _ _ _ _ _ _ _ _ _,aj⟩ ?_;rintro wz ⟨hz,xz⟩;exact D (aF results218 rfl rfl (b9 hz)) rfl ⟨by rw[hy.out,hyr.out];rfl,by rw[hy.out,hyr.out];exact bw (Mk.idle _ _ _) hz.right.p2.right,xz⟩
      |false=>
       rw[if_neg (by rw[hr];simp)] at hstep;have hcase:us=d∨(us=o∧di=d∧(c.a.kind==1)=o):=by
        unfold fI at hr;cases us with
        |false=>exact .inl rfl
        |true=>
         right;cases di with
         |true=>simp at hr
         |false=>exact⟨rfl,rfl,by simpa using hr⟩
       have hy:=q hstep;have HST2:=q hst2;have HMK':Hid (∀(R:ab) (X:F),E X (aJ b root c (c.word s) ⟨o,o,rg,us,di,fr⟩*R)→J prog 219 #[.pointer (A (C b 0 u))] X (Pure (.agg #[p o,p o,g j rg,p o,p (di||c.a.kind==1),g j fr]) X)):=q (fun R X h=>HMK.out R X h);clear hstep ht hp hon hmk hc hs hd HE0 hmay hr hwd HDN hst2 HMK;have HMK:=HMK';clear HMK';generalize c.word s=v at*
       generalize ai c.a.page c.level=ix at*
       rcases hcase with rfl|⟨rfl,rfl,hk1⟩
       ·generalize (di||c.a.kind==1)=B at HMK
        go_enter func218,ntmps218;go_upto_region 1 with fail;generalize W.alloc _=W1 at*
        generalize W.heap.size=X0 at*
        have hb:=h1.p2;unfold aJ at hb;obtain⟨k0,k1,k2,k3,k4,k5,k6,k7,k8,k9,k10,k11,k12,k13⟩:=hb.cells14;have v2:=am k2;have v5:=am k5;have v6:=am k6;clear hb k0 k1 k2 k3 k4 k5 k6 k7 k8 k9 k10 k11 k12 k13;refine aI (by kernel_rfl) (by kernel_rfl) ?_;repeat(first|go_big_quiet_step ((first|(go_at_call 209;exact y (HI.out _))|(go_at_call 200;exact y (HL.out _ _ (h1.right.right.via _)))))|quiet_step ((first|(go_at_call 209;exact y (HI.out _))|(go_at_call 200;exact y (HL.out _ _ (h1.right.right.via _))))))
        refine wpQuiet_nil ?_;intro _ hw';obtain⟨uq,hw''⟩:=hw';subst hw'';have h2:=h1.via uq;have x2:=x1.below (aV _ uq);generalize kb W1 uq=W2 at*
        clear h1 x1 v2 v5 v6 HI HL;have hb:=h2.p2;unfold aJ at hb;have k5:W2.cell? (C b 5 u)=A (g j c.level):=hb.cell 5;have kl:=hb.lt;clear hb;go_wp2_with fail
        refine(HD.out _).mono ?_;rintro e2 w3 ⟨rfl,b3⟩;have h3:=h2.below b3;have x3:=x2.below b3;clear h2 x2 b3 HD k5 kl;have h4:=h3.new #[p o,p o,g j rg,p d,p di,g j fr] 81;have x4:=x3.alloc (.cells #[p o,p o,g j rg,p d,p di,g j fr] 81);clear h3 x3;go_upto_region 13 with fail;generalize w3.alloc _=w4 at*
        generalize w3.heap.size=EB at*
        obtain⟨e0',e1',e2',e3',e4',e5'⟩:=h4.cells6;have el:=h4.lt;have hb:E w4 (aJ b root c w0 e0*(aa EB #[p o,p o,g j rg,p d,p di,g j fr] 81*(aa X0 #[p d,g j 0,g j 0,g j 0,g j 0,g j 0,g j 0,g j 0,p d] 274*(ae f s*R)))):=h4.eq (by ac_rfl);unfold aJ at hb;have v2:=am (hb.cell 2);have v3:=am (hb.cell 3);have v4:=am (hb.cell 4);have ve2:=am e2';clear hb e0' e1' e2' e3' e4' e5' el;refine aI (by kernel_rfl) (by kernel_rfl) ?_;repeat(first|go_big_quiet_step ((go_at_call 181;exact z (HY.out _)))|quiet_step ((go_at_call 181;exact z (HY.out _))))
        refine wpQuiet_nil ?_;intro _ hw';obtain⟨uq,hw''⟩:=hw';subst hw'';have h5:=h4.via uq;have x5:=x4.below (aV _ uq);generalize kb w4 uq=w5 at*
        clear h4 x4 v2 v3 v4 ve2 HY;go_upto_region 15 with fail;have h6:E w5 (aJ b root c w0 e0*(aa EB #[p o,p o,g j rg,p d,p di,g j fr] 81*(aa X0 #[p d,g j 0,g j 0,g j 0,g j 0,g j 0,g j 0,g j 0,p d] 274*(ae f s*R)))):=h5.eq (by ac_rfl);clear h5;unfold aJ at h6;go_cut [] (fun wx=>E wx (aJ b root c v ⟨o,o,rg,d,di,fr⟩*(aa X0 #[p d,g j 0,g j 0,g j 0,g j 0,g j 0,g j 0,g j 0,p d] 274*(aa EB #[p o,p o,g j rg,p d,p di,g j fr] 81*(ae f s*R))))∧G W wx)
        case first=>
         have n1:=h6.ne;have n2:=n1.symm;obtain⟨k0,k1,k2,k3,k4,k5,k6,k7,k8,k9,k10,k11,k12,k13⟩:=h6.cells14;obtain⟨f1,f5,f6,f7,f8,f9,f10,f11,f12,f13⟩:=h6.frees14;have kl:=h6.lt;obtain⟨e0',e1',e2',e3',e4',e5'⟩:=h6.right.cells6;have el:=h6.right.lt;clear k0 k1 k2 k3 k4 k5 k6 f1 f5 f6;go_region
         all_goals
          go_wp2_with fail
          go_meet
          case rel=>
           refine⟨Has.eq (P:=aJ b root c v ⟨o,o,rg,d,di,fr⟩*(aa EB #[p o,p o,g j rg,p d,p di,g j fr] 81*(aa X0 #[p d,g j 0,g j 0,g j 0,g j 0,g j 0,g j 0,g j 0,p d] 274*(ae f s*R)))) ?_ (by ac_rfl),aj⟩;with_reducible exact(oT h6 v ⟨o,o,rg,d,di,fr⟩).drew
        case rest=>
         obtain⟨h7,x7⟩:=hcut;clear h6 x5;go_wp2_with fail
         have ve0:=am (h7.right.right.cell 0);have ve1:=am (h7.right.right.cell 1);have ve2:=am (h7.right.right.cell 2);have ve3:=am (h7.right.right.cell 3);have ve4:=am (h7.right.right.cell 4);have ve5:=am (h7.right.right.cell 5);refine aI (by kernel_rfl) (by kernel_rfl) ?_;repeat(first|go_big_quiet_step ((go_at_call 219;exact z (HMK.out _ _ (h7.via _))))|quiet_step ((go_at_call 219;exact z (HMK.out _ _ (h7.via _)))))
         refine wpQuiet_nil ?_;intro _ hw';obtain⟨uq,hw''⟩:=hw';subst hw'';have h8:=h7.via uq;have x8:=x7.below (aV _ uq);generalize kb wc uq=w8 at*
         clear h7 x7 ve0 ve1 ve2 ve3 ve4 ve5 HMK;have h9:=h8;unfold aJ at h9;have k1:w8.cell? (C b 1 u)=A (g j (lj c)):=h9.cell 1;have f1:=h9.free 1;have kl:=h9.lt;have n1:=h9.ne;have n2:=n1.symm;obtain⟨r0,r1,r2,r3,r4,r5,r6,r7,r8⟩:=h9.right.cells9;obtain⟨g0,g1,g2,g3,g4,g5,g6,g7,g8⟩:=h9.right.frees9;have rl:=h9.right.lt;have hA:E (w8.setCell (C b 1 u) (g j 2)) (aJ b root {c with mark:=o,w:=v} v ⟨o,o,rg,d,di,fr⟩*(aa X0 #[p d,g j 0,g j 0,g j 0,g j 0,g j 0,g j 0,g j 0,p d] 274*(aa EB #[p o,p o,g j rg,p d,p di,g j fr] 81*(ae f s*R)))):=by
          unfold aJ gm;rw[HST2.out];exact h9.set 1 (g j 2)
         clear h8 h9;go_wp2_with fail
         refine ay (fun wz=>E wz (aa X0 #[p d,g j 0,g j 0,g j 0,g j 0,g j 0,g j 0,g j 0,p d] 274*(aJ b root {c with mark:=o,w:=v} v ⟨o,o,rg,d,di,fr⟩*(aa EB #[p o,p o,g j rg,p d,p di,g j fr] 81*(ae f s*R))))∧G W wz) ⟨hA.p2.set9 _ _ _ _ _ _ _ _ _,aj⟩ ?_;rintro wz ⟨hz,xz⟩;exact D (aF results218 rfl rfl (b9 hz)) rfl ⟨by rw[hy.out];rfl,by rw[hy.out];exact bw HM1.out hz.right.p2.right,xz⟩
       ·rw[hk1] at HMK
        clear hk1;go_enter func218,ntmps218;go_upto_region 1 with fail;generalize W.alloc _=W1 at*
        generalize W.heap.size=X0 at*
        have hb:=h1.p2;unfold aJ at hb;obtain⟨k0,k1,k2,k3,k4,k5,k6,k7,k8,k9,k10,k11,k12,k13⟩:=hb.cells14;have v2:=am k2;have v5:=am k5;have v6:=am k6;clear hb k0 k1 k2 k3 k4 k5 k6 k7 k8 k9 k10 k11 k12 k13;refine aI (by kernel_rfl) (by kernel_rfl) ?_;repeat(first|go_big_quiet_step ((first|(go_at_call 209;exact y (HI.out _))|(go_at_call 200;exact y (HL.out _ _ (h1.right.right.via _)))))|quiet_step ((first|(go_at_call 209;exact y (HI.out _))|(go_at_call 200;exact y (HL.out _ _ (h1.right.right.via _))))))
        refine wpQuiet_nil ?_;intro _ hw';obtain⟨uq,hw''⟩:=hw';subst hw'';have h2:=h1.via uq;have x2:=x1.below (aV _ uq);generalize kb W1 uq=W2 at*
        clear h1 x1 v2 v5 v6 HI HL;have hb:=h2.p2;unfold aJ at hb;have k5:W2.cell? (C b 5 u)=A (g j c.level):=hb.cell 5;have kl:=hb.lt;clear hb;go_wp2_with fail
        refine(HD.out _).mono ?_;rintro e2 w3 ⟨rfl,b3⟩;have h3:=h2.below b3;have x3:=x2.below b3;clear h2 x2 b3 HD k5 kl;have h4:=h3.new #[p o,p o,g j rg,p o,p d,g j fr] 81;have x4:=x3.alloc (.cells #[p o,p o,g j rg,p o,p d,g j fr] 81);clear h3 x3;go_upto_region 13 with fail;generalize w3.alloc _=w4 at*
        generalize w3.heap.size=EB at*
        obtain⟨e0',e1',e2',e3',e4',e5'⟩:=h4.cells6;have el:=h4.lt;have hb:E w4 (aJ b root c w0 e0*(aa EB #[p o,p o,g j rg,p o,p d,g j fr] 81*(aa X0 #[p d,g j 0,g j 0,g j 0,g j 0,g j 0,g j 0,g j 0,p d] 274*(ae f s*R)))):=h4.eq (by ac_rfl);unfold aJ at hb;have v2:=am (hb.cell 2);have v3:=am (hb.cell 3);have v4:=am (hb.cell 4);have ve2:=am e2';clear hb e0' e1' e2' e3' e4' e5' el;refine aI (by kernel_rfl) (by kernel_rfl) ?_;repeat(first|go_big_quiet_step ((go_at_call 181;exact z (HY.out _)))|quiet_step ((go_at_call 181;exact z (HY.out _))))
        refine wpQuiet_nil ?_;intro _ hw';obtain⟨uq,hw''⟩:=hw';subst hw'';have h5:=h4.via uq;have x5:=x4.below (aV _ uq);generalize kb w4 uq=w5 at*
        clear h4 x4 v2 v3 v4 ve2 HY;go_upto_region 15 with fail;have h6:E w5 (aJ b root c w0 e0*(aa EB #[p o,p o,g j rg,p o,p d,g j fr] 81*(aa X0 #[p d,g j 0,g j 0,g j 0,g j 0,g j 0,g j 0,g j 0,p d] 274*(ae f s*R)))):=h5.eq (by ac_rfl);clear h5;unfold aJ at h6;go_cut [] (fun wx=>E wx (aJ b root c v ⟨o,o,rg,o,d,fr⟩*(aa X0 #[p d,g j 0,g j 0,g j 0,g j 0,g j 0,g j 0,g j 0,p d] 274*(aa EB #[p o,p o,g j rg,p o,p d,g j fr] 81*(ae f s*R))))∧G W wx)
        case first=>
         have n1:=h6.ne;have n2:=n1.symm;obtain⟨k0,k1,k2,k3,k4,k5,k6,k7,k8,k9,k10,k11,k12,k13⟩:=h6.cells14;obtain⟨f1,f5,f6,f7,f8,f9,f10,f11,f12,f13⟩:=h6.frees14;have kl:=h6.lt;obtain⟨e0',e1',e2',e3',e4',e5'⟩:=h6.right.cells6;have el:=h6.right.lt;clear k0 k1 k2 k3 k4 k5 k6 f1 f5 f6;go_region
         all_goals
          go_wp2_with fail
          go_meet
          case rel=>
           refine⟨Has.eq (P:=aJ b root c v ⟨o,o,rg,o,d,fr⟩*(aa EB #[p o,p o,g j rg,p o,p d,g j fr] 81*(aa X0 #[p d,g j 0,g j 0,g j 0,g j 0,g j 0,g j 0,g j 0,p d] 274*(ae f s*R)))) ?_ (by ac_rfl),aj⟩;with_reducible exact(oT h6 v ⟨o,o,rg,o,d,fr⟩).drew
        case rest=>
         obtain⟨h7,x7⟩:=hcut;clear h6 x5;go_wp2_with fail
         have ve0:=am (h7.right.right.cell 0);have ve1:=am (h7.right.right.cell 1);have ve2:=am (h7.right.right.cell 2);have ve3:=am (h7.right.right.cell 3);have ve4:=am (h7.right.right.cell 4);have ve5:=am (h7.right.right.cell 5);refine aI (by kernel_rfl) (by kernel_rfl) ?_;repeat(first|go_big_quiet_step ((go_at_call 219;exact z (HMK.out _ _ (h7.via _))))|quiet_step ((go_at_call 219;exact z (HMK.out _ _ (h7.via _)))))
         refine wpQuiet_nil ?_;intro _ hw';obtain⟨uq,hw''⟩:=hw';subst hw'';have h8:=h7.via uq;have x8:=x7.below (aV _ uq);generalize kb wc uq=w8 at*
         clear h7 x7 ve0 ve1 ve2 ve3 ve4 ve5 HMK;have h9:=h8;unfold aJ at h9;have k1:w8.cell? (C b 1 u)=A (g j (lj c)):=h9.cell 1;have f1:=h9.free 1;have kl:=h9.lt;have n1:=h9.ne;have n2:=n1.symm;obtain⟨r0,r1,r2,r3,r4,r5,r6,r7,r8⟩:=h9.right.cells9;obtain⟨g0,g1,g2,g3,g4,g5,g6,g7,g8⟩:=h9.right.frees9;have rl:=h9.right.lt;have hA:E (w8.setCell (C b 1 u) (g j 2)) (aJ b root {c with mark:=o,w:=v} v ⟨o,o,rg,o,d,fr⟩*(aa X0 #[p d,g j 0,g j 0,g j 0,g j 0,g j 0,g j 0,g j 0,p d] 274*(aa EB #[p o,p o,g j rg,p o,p d,g j fr] 81*(ae f s*R)))):=by
          unfold aJ gm;rw[HST2.out];exact h9.set 1 (g j 2)
         clear h8 h9;go_wp2_with fail
         refine ay (fun wz=>E wz (aa X0 #[p d,g j 0,g j 0,g j 0,g j 0,g j 0,g j 0,g j 0,p d] 274*(aJ b root {c with mark:=o,w:=v} v ⟨o,o,rg,o,d,fr⟩*(aa EB #[p o,p o,g j rg,p o,p d,g j fr] 81*(ae f s*R))))∧G W wz) ⟨hA.p2.set9 _ _ _ _ _ _ _ _ _,aj⟩ ?_;rintro wz ⟨hz,xz⟩;exact D (aF results218 rfl rfl (b9 hz)) rfl ⟨by rw[hy.out];rfl,by rw[hy.out];exact bw HM1.out hz.right.p2.right,xz⟩
theorem Ms.Ok.setW{s:Ms}(h:s.Ok)(k i:Nat){v:Int}(hv:0≤v∧v<18446744073709551616):(s.setW k i v).Ok :=⟨h.inv.setW k i hv,h.small⟩
theorem vZ{s:Ms}(h:s.Ok)(root:Int)(c:K):(be s root c).s.Ok :=by
 unfold be;split;· exact h
 split;· exact h
 split;· exact h
 split;· exact h
 split;· exact h
 split;· exact h
 split;· exact h
 split;· exact h.setW _ _ (ju _ _)
 split;· exact h
 exact h
theorem rC{s:Ms}{root:Int}{c:K}(hc:c.Ok)(hon:c.on=o)(hmk:c.mark=o):
  be s root c=if s.has c.t=d then⟨c,s,Rs.zero,12⟩
   else if c.word s≠c.w then⟨c.again root,s,Rs.zero,0⟩
   else c.leafEnd (s.setW c.t.toNat (ai c.a.page c.level).toNat (bF (b8 (aC c.w c.level) c.a) c.level)) (b8 (aC c.w c.level) c.a):=by
 unfold be;rw[if_neg (by rw[hon];simp)];split
 ·rfl
 ·by_cases hw:c.word s≠c.w
  ·rw[if_pos ⟨hmk,hw⟩,if_pos hw]
  ·rw[if_neg (fun h=>hw h.2),if_neg hw]
   have hw:c.word s=c.w:=by simpa using hw
   obtain⟨h1,h2⟩:=hc.leaf hmk;rw[hw,if_neg (by rw[hc.dec hmk];simp),if_neg (by rw[h1];simp),if_neg (by rw[h2];simp),if_neg (by rw[hc.may hmk];simp)]
theorem rD{s:Ms}{c:K}(hc:c.Ok)(hmk:c.mark=o):(c.leafEnd s (b8 (aC c.w c.level) c.a)).r =⟨o,cv (aK (aC c.w c.level) c.level c.a.page) c.a,⟨aK (aC c.w c.level) c.level c.a.page,(b8 (aC c.w c.level) c.a).dirty⟩⟩:=by
 unfold Ck.leafEnd;dsimp only;rw[iO c.a (gh (hc.dec hmk)).1 (hc.leaf hmk).2]
set_option maxHeartbeats 8000000 in
theorem Ay(b f:Nat)(root:Int)(c:K)(s:Ms)(hs:s.Ok)(hc:c.Ok)(R:ab)(W:F)(h:E W (aO b root c*(ae f s*R))):
  J prog 184 #[.pointer (A (C b 0 u)),.pointer (A (C f 0 u))] W (cF (.tuple #[zy (be s root c).r,g j (be s root c).code]) (aO b root (be s root c).c *(ae f (be s root c).s *R)) W):=by
 obtain⟨w0,e0,hmk0,h⟩:=eH h;have h1:=h.new #[p d,g j 0,g j 0,g j 0,g j 0,g j 0,g j 0,g j 0,p d] 274;have x1:=(Ext.refl W).alloc (.cells #[p d,g j 0,g j 0,g j 0,g j 0,g j 0,g j 0,g j 0,p d] 274);have hb:=h;unfold aJ at hb;have k1:W.cell? (C b 1 u)=A (g j (lj c)):=hb.cell 1;have kl:=hb.lt;clear hb;cases hon:c.on with
 |false=>
  have hy:=q (show be s root c=⟨c,s,Rs.zero,9⟩ by unfold be;rw[if_pos hon]);have hst:lj c=0:=by unfold lj;rw[if_neg (by rw[hon];simp)]
  rw[hst] at k1;have HM:=q hmk0;clear hon hst hmk0 hs hc h;obtain⟨r0,r1,r2,r3,r4,r5,r6,r7,r8⟩:=h1.cells9;obtain⟨g0,g1,g2,g3,g4,g5,g6,g7,g8⟩:=h1.frees9;have rl:=h1.lt;go_enter func184,ntmps184;go_wp2_with fail
  refine ay (fun wz=>E wz (aa W.heap.size #[p d,g j 0,g j 0,g j 0,g j 0,g j 0,g j 0,g j 0,p d] 274*(aJ b root c w0 e0*(ae f s*R)))∧G W wz) ⟨h1,aj⟩ ?_;rintro wz ⟨hz,xz⟩;exact D (aF results184 rfl rfl (b9 hz)) rfl ⟨by rw[hy.out];rfl,by rw[hy.out];exact bw HM.out hz.right,xz⟩
 |true=>
  cases hmk:c.mark with
  |false=>
   have HR:=q (fun R X h=>Ax b f root c s hs hc hon hmk w0 e0 R X h);have hst:lj c=1:=by unfold lj;rw[if_pos hon,if_neg (by rw[hmk];simp)]
   rw[hst] at k1;have h2:E _ (aJ b root c w0 e0*(ae f s*(aa W.heap.size #[p d,g j 0,g j 0,g j 0,g j 0,g j 0,g j 0,g j 0,p d] 274*R))):=h1.eq (by ac_rfl);clear hon hmk hst hmk0 hs hc h h1;generalize be s root c=r at*
   go_enter func184,ntmps184;go_wp2_with fail
   refine(HR.out _ _ h2).mono ?_;rintro e2 w3 ⟨rfl,h3,x3⟩;have h4:E w3 (aa W.heap.size #[p d,g j 0,g j 0,g j 0,g j 0,g j 0,g j 0,g j 0,p d] 274*(aO b root r.c*(ae f r.s*R))):=h3.eq (by ac_rfl);have x4:=x1.trans x3;clear h2 h3 x1 x3 HR k1 kl;obtain⟨r0,r1,r2,r3,r4,r5,r6,r7,r8⟩:=h4.cells9;obtain⟨g0,g1,g2,g3,g4,g5,g6,g7,g8⟩:=h4.frees9;have rl:=h4.lt;go_wp2_with fail
   refine ay (fun wz=>E wz (aa W.heap.size #[p r.r.fin,g j r.r.an.fin,g j r.r.an.frame,g j r.r.an.rights,g j r.r.ln.m.page,g j r.r.ln.m.size,g j r.r.ln.m.frame,g j r.r.ln.m.rights,p r.r.ln.dirty] 274*(aO b root r.c*(ae f r.s*R)))∧G W wz) ⟨h4.set9 _ _ _ _ _ _ _ _ _,aj⟩ ?_;rintro wz ⟨hz,xz⟩;exact D (aF results184 rfl rfl (b9 hz)) rfl ⟨rfl,hz.right,xz⟩
  |true=>
   obtain⟨rfl,rfl⟩:=hmk0 hmk;have hstep:=rC (s:=s) (root:=root) hc hon hmk;have hst:lj c=2:=by unfold lj;rw[if_pos hon,if_pos hmk]
   rw[hst] at k1;have hp:=jJ (hc.acc hon);have HI:=q (fun X=>jE c.a.page c.level X);have hhw:=dJ (s:=s) (t:=c.t) hp (hc.l0 hon) (hc.l3 hon);have hword:c.word s=s.wd c.t.toNat (ai c.a.page c.level).toNat :=rfl;have HM:=q (show Mk c c.w (aC c.w c.level) from hmk0);have HRS:=q (fun s'=>rD (s:=s') hc hmk);have HMK:=q (fun R X h=>oS b root c c.w (aC c.w c.level) R X h);have HDN:=q (fun R X h=>yo b root c c.w (aC c.w c.level) R X h);have HEN:=q (fun X=>j9 (b8 (aC c.w c.level) c.a) c.level X);have h1':E _ (aJ b root c c.w (aC c.w c.level)*(aa W.heap.size #[p d,g j 0,g j 0,g j 0,g j 0,g j 0,g j 0,g j 0,p d] 274*(ae f s*R))):=h1.p2;clear h1;have h1:=h1';clear h1' h;cases ht:s.has c.t with
   |false=>
    have hy:=q (hstep.trans (if_pos ht));have hsb:iC s c.t (ai c.a.page c.level) c.w=d:=by unfold iC;rw[hhw,ht];rfl
    have HSW:=q (fun R X h=>uU f s c.t (ai c.a.page c.level) (bF (b8 (aC c.w c.level) c.a) c.level) c.w R X h);have hss:ia s c.t (ai c.a.page c.level) c.w (bF (b8 (aC c.w c.level) c.a) c.level)=s:=by unfold ia;rw[hsb];rfl
    rw[hsb,hss] at HSW;have HTK:=q (fun R X h=>uT f s c.t R X h);rw[ht] at HTK;clear hstep ht hsb hss hword hhw hp hon hmk hst hmk0 hs hc HRS HDN;generalize bF (b8 (aC c.w c.level) c.a) c.level=x at*
    generalize b8 (aC c.w c.level) c.a=me at*
    generalize aC c.w c.level=e0 at*
    generalize ai c.a.page c.level=ix at*
    go_enter func184,ntmps184;go_upto_region 5 with fail;generalize W.alloc _=W1 at*
    generalize W.heap.size=X0 at*
    clear k1 kl;have hb:=h1;unfold aJ at hb;have v5:=am (hb.cell 5);clear hb;refine aI (by kernel_rfl) (by kernel_rfl) ?_;repeat(first|go_big_quiet_step ((first|(go_at_call 219;exact z (HMK.out _ _ (h1.via _)))|(go_at_call 214;exact z (HEN.out _))))|quiet_step ((first|(go_at_call 219;exact z (HMK.out _ _ (h1.via _)))|(go_at_call 214;exact z (HEN.out _)))))
    refine wpQuiet_nil ?_;intro _ hw';obtain⟨uq,hw''⟩:=hw';subst hw'';have h2:=h1.via uq;have x2:=x1.below (aV _ uq);generalize kb W1 uq=W2 at*
    clear h1 x1 v5 HMK HEN;go_upto_region 6 with fail;have hb:=h2;unfold aJ at hb;have k2:W2.cell? (C b 2 u)=A (g j c.a.page):=hb.cell 2;have k5:W2.cell? (C b 5 u)=A (g j c.level):=hb.cell 5;have k6:W2.cell? (C b 6 u)=A (g j c.t):=hb.cell 6;have k7:W2.cell? (C b 7 u)=A (g H c.w):=hb.cell 7;have kl:=hb.lt;clear hb;have HK:=q (fun(w':F) (P:ab) (h:E w' (aJ b root c c.w e0*P))=>(by
     unfold aJ at h;exact⟨h.cell 2,h.cell 5,h.cell 6,h.cell 7⟩:w'.cell? (C b 2 u)=A (g j c.a.page)∧w'.cell? (C b 5 u)=A (g j c.level)∧w'.cell? (C b 6 u)=A (g j c.t)∧w'.cell? (C b 7 u)=A (g H c.w)))
    have h3:E W2.drew (ae f s*(aJ b root c c.w e0*(aa X0 #[p d,g j 0,g j 0,g j 0,g j 0,g j 0,g j 0,g j 0,p d] 274*R))):=Has.drew (h2.eq (by ac_rfl));go_region_held3 (fun w'=>w'.cell? (C b 2 u)=A (g j c.a.page)∧w'.cell? (C b 5 u)=A (g j c.level)∧w'.cell? (C b 6 u)=A (g j c.t)∧w'.cell? (C b 7 u)=A (g H c.w)) (first|(with_reducible exact HK.out _ _ h4.right)|go_keep) (first|(go_at_call 209;(with_reducible refine(HI.out _).mono ?_);rintro e2 w3 ⟨rfl,rfl⟩)|(go_at_call 220;(with_reducible refine(HSW.out _ _ h3).mono ?_);rintro e2 w4 ⟨rfl,h4,x4⟩))
    have x5:=x2.drew.trans x4;clear h2 h3 x2 x4 k2 k5 k6 k7 kl HK HI HSW;have h5:=h4.right;unfold aJ at h5;have k6:w4.cell? (C b 6 u)=A (g j c.t):=h5.cell 6;have kl:=h5.lt;clear h5;go_wp2_with fail
    refine(HTK.out _ _ h4).mono ?_;rintro e2 w6 ⟨rfl,rfl⟩;have h7:E w4 (aa X0 #[p d,g j 0,g j 0,g j 0,g j 0,g j 0,g j 0,g j 0,p d] 274*(aJ b root c c.w e0*(ae f s*R))):=h4.eq (by ac_rfl);obtain⟨r0,r1,r2,r3,r4,r5,r6,r7,r8⟩:=h7.cells9;obtain⟨g0,g1,g2,g3,g4,g5,g6,g7,g8⟩:=h7.frees9;have rl:=h7.lt;clear h4 k6 kl HTK;go_wp2_with fail
    refine ay (fun wz=>E wz (aa X0 #[p d,g j 0,g j 0,g j 0,g j 0,g j 0,g j 0,g j 0,p d] 274*(aJ b root c c.w e0*(ae f s*R)))∧G W wz) ⟨h7.set9 _ _ _ _ _ _ _ _ _,aj⟩ ?_;rintro wz ⟨hz,xz⟩;exact D (aF results184 rfl rfl (b9 hz)) rfl ⟨by rw[hy.out];rfl,by rw[hy.out];exact bw HM.out hz.right,xz⟩
   |true=>
    rw[if_neg (by rw[ht];simp)] at hstep;by_cases hw:c.word s=c.w
    case neg=>
     have hy:=q (hstep.trans (if_pos hw));have hsb:iC s c.t (ai c.a.page c.level) c.w=d:=by unfold iC;rw[hhw,ht,←hword];simpa using hw
     have HSW:=q (fun R X h=>uU f s c.t (ai c.a.page c.level) (bF (b8 (aC c.w c.level) c.a) c.level) c.w R X h);have hss:ia s c.t (ai c.a.page c.level) c.w (bF (b8 (aC c.w c.level) c.a) c.level)=s:=by unfold ia;rw[hsb];rfl
     rw[hsb,hss] at HSW;have HTK:=q (fun R X h=>uT f s c.t R X h);rw[ht] at HTK;have HAG:=q (fun R X h=>vY b root c R X h);clear hstep ht hsb hss hword hhw hp hon hmk hst hmk0 hs hc HRS HDN hw;generalize bF (b8 (aC c.w c.level) c.a) c.level=x at*
     generalize b8 (aC c.w c.level) c.a=me at*
     generalize aC c.w c.level=e0 at*
     generalize ai c.a.page c.level=ix at*
     go_enter func184,ntmps184;go_upto_region 5 with fail;generalize W.alloc _=W1 at*
     generalize W.heap.size=X0 at*
     clear k1 kl;have hb:=h1;unfold aJ at hb;have v5:=am (hb.cell 5);clear hb;refine aI (by kernel_rfl) (by kernel_rfl) ?_;repeat(first|go_big_quiet_step ((first|(go_at_call 219;exact z (HMK.out _ _ (h1.via _)))|(go_at_call 214;exact z (HEN.out _))))|quiet_step ((first|(go_at_call 219;exact z (HMK.out _ _ (h1.via _)))|(go_at_call 214;exact z (HEN.out _)))))
     refine wpQuiet_nil ?_;intro _ hw';obtain⟨uq,hw''⟩:=hw';subst hw'';have h2:=h1.via uq;have x2:=x1.below (aV _ uq);generalize kb W1 uq=W2 at*
     clear h1 x1 v5 HMK HEN;go_upto_region 6 with fail;have hb:=h2;unfold aJ at hb;have k2:W2.cell? (C b 2 u)=A (g j c.a.page):=hb.cell 2;have k5:W2.cell? (C b 5 u)=A (g j c.level):=hb.cell 5;have k6:W2.cell? (C b 6 u)=A (g j c.t):=hb.cell 6;have k7:W2.cell? (C b 7 u)=A (g H c.w):=hb.cell 7;have kl:=hb.lt;clear hb;have HK:=q (fun(w':F) (P:ab) (h:E w' (aJ b root c c.w e0*P))=>(by
      unfold aJ at h;exact⟨h.cell 2,h.cell 5,h.cell 6,h.cell 7⟩:w'.cell? (C b 2 u)=A (g j c.a.page)∧w'.cell? (C b 5 u)=A (g j c.level)∧w'.cell? (C b 6 u)=A (g j c.t)∧w'.cell? (C b 7 u)=A (g H c.w)))
     have h3:E W2.drew (ae f s*(aJ b root c c.w e0*(aa X0 #[p d,g j 0,g j 0,g j 0,g j 0,g j 0,g j 0,g j 0,p d] 274*R))):=Has.drew (h2.eq (by ac_rfl));go_region_held3 (fun w'=>w'.cell? (C b 2 u)=A (g j c.a.page)∧w'.cell? (C b 5 u)=A (g j c.level)∧w'.cell? (C b 6 u)=A (g j c.t)∧w'.cell? (C b 7 u)=A (g H c.w)) (first|(with_reducible exact HK.out _ _ h4.right)|go_keep) (first|(go_at_call 209;(with_reducible refine(HI.out _).mono ?_);rintro e2 w3 ⟨rfl,rfl⟩)|(go_at_call 220;(with_reducible refine(HSW.out _ _ h3).mono ?_);rintro e2 w4 ⟨rfl,h4,x4⟩))
     have x5:=x2.drew.trans x4;clear h2 h3 x2 x4 k2 k5 k6 k7 kl HK HI HSW;have h5:=h4.right;unfold aJ at h5;have k6:w4.cell? (C b 6 u)=A (g j c.t):=h5.cell 6;have kl:=h5.lt;clear h5;go_wp2_with fail
     refine(HTK.out _ _ h4).mono ?_;rintro e2 w6 ⟨rfl,rfl⟩;go_wp2_with fail
     refine(HAG.out _ _ (bw HM.out h4.p2)).mono ?_;rintro e2 w6 ⟨rfl,h6,x6⟩;have h7:E w6 (aa X0 #[p d,g j 0,g j 0,g j 0,g j 0,g j 0,g j 0,g j 0,p d] 274*(aO b root (c.again root)*(ae f s*R))):=h6.eq (by ac_rfl);have x7:=x5.trans x6;obtain⟨r0,r1,r2,r3,r4,r5,r6,r7,r8⟩:=h7.cells9;obtain⟨g0,g1,g2,g3,g4,g5,g6,g7,g8⟩:=h7.frees9;have rl:=h7.lt;clear h4 h6 k6 kl HTK x5 x6 HAG;go_wp2_with fail
     refine ay (fun wz=>E wz (aa X0 #[p d,g j 0,g j 0,g j 0,g j 0,g j 0,g j 0,g j 0,p d] 274*(aO b root (c.again root)*(ae f s*R)))∧G W wz) ⟨h7.set9 _ _ _ _ _ _ _ _ _,aj⟩ ?_;rintro wz ⟨hz,xz⟩;exact D (aF results184 rfl rfl (b9 hz)) rfl ⟨by rw[hy.out];rfl,by rw[hy.out];exact hz.right,xz⟩
    case pos=>
     have hy:=q (hstep.trans (if_neg (fun h=>h hw)));have hsb:iC s c.t (ai c.a.page c.level) c.w=o:=by unfold iC;rw[hhw,ht,←hword];simpa using hw
     have HSW:=q (fun R X h=>uU f s c.t (ai c.a.page c.level) (bF (b8 (aC c.w c.level) c.a) c.level) c.w R X h);have hss:ia s c.t (ai c.a.page c.level) c.w (bF (b8 (aC c.w c.level) c.a) c.level)=s.setW c.t.toNat (ai c.a.page c.level).toNat (bF (b8 (aC c.w c.level) c.a) c.level):=by unfold ia;rw[hsb];rfl
     rw[hsb,hss] at HSW;have HRS':=q (HRS.out (s.setW c.t.toNat (ai c.a.page c.level).toNat (bF (b8 (aC c.w c.level) c.a) c.level)));clear HRS;have HR0:Hid ((be s root c).r =⟨o,cv (aK (aC c.w c.level) c.level c.a.page) c.a,⟨aK (aC c.w c.level) c.level c.a.page,(b8 (aC c.w c.level) c.a).dirty⟩⟩∧(be s root c).c =c.idle∧(be s root c).code =0∧(be s root c).s =s.setW c.t.toNat (ai c.a.page c.level).toNat (bF (b8 (aC c.w c.level) c.a) c.level)):=q (by
      rw[hy.out];exact⟨HRS'.out,rfl,rfl,rfl⟩)
     clear hstep ht hsb hss hword hhw hp hon hmk hst hmk0 hs hc HRS' hw hy;generalize s.setW c.t.toNat (ai c.a.page c.level).toNat (bF (b8 (aC c.w c.level) c.a) c.level)=s' at*
     generalize bF (b8 (aC c.w c.level) c.a) c.level=x at*
     generalize cv (aK (aC c.w c.level) c.level c.a.page) c.a=an at*
     generalize aK (aC c.w c.level) c.level c.a.page=lm at*
     generalize b8 (aC c.w c.level) c.a=me at*
     generalize aC c.w c.level=e0 at*
     generalize ai c.a.page c.level=ix at*
     go_enter func184,ntmps184;go_upto_region 5 with fail;generalize W.alloc _=W1 at*
     generalize W.heap.size=X0 at*
     clear k1 kl;have hb:=h1;unfold aJ at hb;have v5:=am (hb.cell 5);clear hb;refine aI (by kernel_rfl) (by kernel_rfl) ?_;repeat(first|go_big_quiet_step ((first|(go_at_call 219;exact z (HMK.out _ _ (h1.via _)))|(go_at_call 214;exact z (HEN.out _))))|quiet_step ((first|(go_at_call 219;exact z (HMK.out _ _ (h1.via _)))|(go_at_call 214;exact z (HEN.out _)))))
     refine wpQuiet_nil ?_;intro _ hw';obtain⟨uq,hw''⟩:=hw';subst hw'';have h2:=h1.via uq;have x2:=x1.below (aV _ uq);generalize kb W1 uq=W2 at*
     clear h1 x1 v5 HMK HEN;go_upto_region 6 with fail;have hb:=h2;unfold aJ at hb;have k2:W2.cell? (C b 2 u)=A (g j c.a.page):=hb.cell 2;have k5:W2.cell? (C b 5 u)=A (g j c.level):=hb.cell 5;have k6:W2.cell? (C b 6 u)=A (g j c.t):=hb.cell 6;have k7:W2.cell? (C b 7 u)=A (g H c.w):=hb.cell 7;have kl:=hb.lt;clear hb;have HK:=q (fun(w':F) (P:ab) (h:E w' (aJ b root c c.w e0*P))=>(by
      unfold aJ at h;exact⟨h.cell 2,h.cell 5,h.cell 6,h.cell 7⟩:w'.cell? (C b 2 u)=A (g j c.a.page)∧w'.cell? (C b 5 u)=A (g j c.level)∧w'.cell? (C b 6 u)=A (g j c.t)∧w'.cell? (C b 7 u)=A (g H c.w)))
     have h3:E W2.drew (ae f s*(aJ b root c c.w e0*(aa X0 #[p d,g j 0,g j 0,g j 0,g j 0,g j 0,g j 0,g j 0,p d] 274*R))):=Has.drew (h2.eq (by ac_rfl));go_region_held3 (fun w'=>w'.cell? (C b 2 u)=A (g j c.a.page)∧w'.cell? (C b 5 u)=A (g j c.level)∧w'.cell? (C b 6 u)=A (g j c.t)∧w'.cell? (C b 7 u)=A (g H c.w)) (first|(with_reducible exact HK.out _ _ h4.right)|go_keep) (first|(go_at_call 209;(with_reducible refine(HI.out _).mono ?_);rintro e2 w3 ⟨rfl,rfl⟩)|(go_at_call 220;(with_reducible refine(HSW.out _ _ h3).mono ?_);rintro e2 w4 ⟨rfl,h4,x4⟩))
     have x5:=x2.drew.trans x4;clear h2 h3 x2 x4 k2 k5 k6 k7 kl HK HI HSW;go_wp2_with fail
     refine(HDN.out _ _ h4.p2).mono ?_;rintro e2 w6 ⟨rfl,h6,x6⟩;have h7:E w6 (aa X0 #[p d,g j 0,g j 0,g j 0,g j 0,g j 0,g j 0,g j 0,p d] 274*(aJ b root c.idle c.w e0*(ae f s'*R))):=h6.eq (by ac_rfl);have x7:=x5.trans x6;obtain⟨r0,r1,r2,r3,r4,r5,r6,r7,r8⟩:=h7.cells9;obtain⟨g0,g1,g2,g3,g4,g5,g6,g7,g8⟩:=h7.frees9;have rl:=h7.lt;clear h4 h6 x5 x6 HDN;go_wp2_with fail
     refine ay (fun wz=>E wz (aa X0 #[p o,g j an.fin,g j an.frame,g j an.rights,g j lm.page,g j lm.size,g j lm.frame,g j lm.rights,p me.dirty] 274*(aJ b root c.idle c.w e0*(ae f s'*R)))∧G W wz) ⟨h7.set9 _ _ _ _ _ _ _ _ _,aj⟩ ?_;rintro wz ⟨hz,xz⟩;exact D (aF results184 rfl rfl (b9 hz)) rfl ⟨by rw[HR0.out.1,HR0.out.2.2.1];rfl,by rw[HR0.out.2.1,HR0.out.2.2.2];exact bw (Mk.idle _ _ _) hz.right,xz⟩
end Go.Proofs.YtmfheghbgihdmaaGreatDoor
