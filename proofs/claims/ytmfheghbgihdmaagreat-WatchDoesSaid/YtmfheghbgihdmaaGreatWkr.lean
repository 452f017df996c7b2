/- Contracts of package walker: New, On, Access, Begin, Again, end, marked. -/
import Derived.Test.YtmfheghbgihdmaaGreatTblM3
import Derived.Test.YtmfheghbgihdmaaGreatFrames3
import Derived.Test.YtmfheghbgihdmaaGreatRefPage
import Derived.Test.YtmfheghbgihdmaaGreatEntry5
import Derived.Deep.Cut
import Derived.Deep.RegionHeld3
import Derived.StillTailTactics
import Derived.Deep.DeepCutAuto
namespace Go.Proofs.YtmfheghbgihdmaaGreat
open Go.IntKind renaming u64→vU
open Go.Value renaming int→g,bool→z
open Go.IntKind renaming i64→j,wrap_i64→B
open Option renaming none→k,some→o
open Go.Lib renaming hid→n
open Bool renaming false→q,true→A
open Go.Addr renaming mk→x
open Go renaming bodyPost_ret→y,World→C,Calls→G,Value→H
open Go.Proofs.YtmfheghbgihdmaaGreat renaming Has→D,Ext→I,Ck→J,En→M
open Go.Proofs.YtmfheghbgihdmaaGreat.Good renaming till→E,and→F
open Tryz
open Go.RowKit
set_option maxRecDepth 100000
def kT(c:J):Int:=if c.on=A then(if c.mark=A then 2 else 1) else 0
abbrev gH(root:Int)(c:J)(w:Int)(e:M):Array H:= #[g j root,g j (kT c),g j c.a.page,g j c.a.kind,z c.a.user,g j c.level,g j c.t,g vU w,z e.there,z e.leaf,g j e.rights,z e.used,z e.dirty,g j e.frame]
def aP(b:Nat)(root:Int)(c:J)(w:Int)(e:M):ab:=aa b (gH root c w e) 219
def Mk(c:J)(w:Int)(e:M):Prop:=c.mark=A→w=c.w∧e=aE c.w c.level
def a9(b:Nat)(root:Int)(c:J):ab:=ex fun w=>ex fun e=>dN (Mk c w e)*aP b root c w e
theorem eT{b:Nat}{root:Int}{c:J}{P:ab}{W:C}(h:D W (a9 b root c*P)):∃w e,Mk c w e∧D W (aP b root c w e*P):=by
 unfold a9 at h;obtain⟨w,h⟩:=aH.1 h;obtain⟨e,h⟩:=aH.1 h;obtain⟨h1,h2⟩:=cH.1 h.a1;exact⟨w,e,h1,h2⟩
theorem bN{b:Nat}{root:Int}{c:J}{w:Int}{e:M}{P:ab}{W:C}(hm:Mk c w e)(h:D W (aP b root c w e*P)):D W (a9 b root c*P):=by
 unfold a9;exact aH.2 ⟨w,aH.2 ⟨e,(cH.2 ⟨hm,h⟩).a2⟩⟩
abbrev vW(r:Rs):H:= .agg #[z r.fin,g j r.an.fin,g j r.an.frame,g j r.an.rights,g j r.ln.m.page,g j r.ln.m.size,g j r.ln.m.frame,g j r.ln.m.rights,z r.ln.dirty]
theorem cu{w:C}{R:ab}{b:Nat}{v0 v1 v2 v3 v4 v5 v6 v7 v8:H}(h:D w (aa b #[v0,v1,v2,v3,v4,v5,v6,v7,v8] 181*R)):(loadVar 181 (x b 0 k)).run prog w= .ok (.agg #[v0,v1,v2,v3,v4,v5,v6,v7,v8]) w:=
 run_loadVar_row w b 181 181 _ _ _ h.heap underlying181 rfl (by kernel_rfl)
theorem fz{w:C}{R:ab}{b:Nat}{v0 v1 v2:H}(h:D w (aa b #[v0,v1,v2] 41*R)):(loadVar 41 (x b 0 k)).run prog w= .ok (.agg #[v0,v1,v2]) w:=
 run_loadVar_row w b 41 41 _ _ _ h.heap underlying41 rfl (by kernel_rfl)
theorem Has.cells14{w:C}{R:ab}{b:Nat}{v0 v1 v2 v3 v4 v5 v6 v7 v8 v9 v10 v11 v12 v13:H}{t:TypeId}(h:D w (aa b #[v0,v1,v2,v3,v4,v5,v6,v7,v8,v9,v10,v11,v12,v13] t*R)):
  w.cell? (x b 0 k)=o v0∧w.cell? (x b 1 k)=o v1∧w.cell? (x b 2 k)=o v2∧w.cell? (x b 3 k)=o v3∧w.cell? (x b 4 k)=o v4∧w.cell? (x b 5 k)=o v5∧w.cell? (x b 6 k)=o v6∧
   w.cell? (x b 7 k)=o v7∧w.cell? (x b 8 k)=o v8∧w.cell? (x b 9 k)=o v9∧w.cell? (x b 10 k)=o v10∧w.cell? (x b 11 k)=o v11∧w.cell? (x b 12 k)=o v12∧w.cell? (x b 13 k)=o v13:=
 ⟨h.cell 0,h.cell 1,h.cell 2,h.cell 3,h.cell 4,h.cell 5,h.cell 6,h.cell 7,h.cell 8,h.cell 9,h.cell 10,h.cell 11,h.cell 12,h.cell 13⟩
theorem Has.frees7{w:C}{R:ab}{b:Nat}{cs:Array H}{t:TypeId}(h:D w (aa b cs t*R)):
  w.frozen? (x b 1 k)=q∧w.frozen? (x b 2 k)=q∧w.frozen? (x b 3 k)=q∧w.frozen? (x b 4 k)=q∧w.frozen? (x b 5 k)=q∧w.frozen? (x b 6 k)=q∧w.frozen? (x b 7 k)=q:=
 ⟨h.free 1,h.free 2,h.free 3,h.free 4,h.free 5,h.free 6,h.free 7⟩
theorem yi(root:Int)(R:ab)(w:C)(h:D w R):G prog 96 #[g j root] w fun e w'=>∃p,cI (.pointer (o (x p 0 k))) (a9 p root Ck.zero*R) w e w':=by
 have h1:D _ (aP w.heap.size root Ck.zero 0 En.zero*R):=h.new (gH root Ck.zero 0 En.zero) 219;go_enter func96,ntmps96;go_wp2;go_ret;exact⟨_,rfl,bN (fun h=>by cases h) h1,(Ext.refl w).alloc _⟩
theorem yj(b:Nat)(root:Int)(c:J)(R:ab)(W:C)(h:D W (a9 b root c*R)):G prog 128 #[.pointer (o (x b 0 k))] W (Same (z c.on) W):=by
 obtain⟨w,e,_,h⟩:=eT h;unfold aP at h;have c1:W.cell? (x b 1 k)=o (g j (kT c)):=h.cell 1;have hl:=h.lt;have hy:Hid ((kT c !=0)=c.on):=n (by unfold kT;cases c.on<;>cases c.mark<;>rfl);go_enter func128,ntmps128;go_wp2;go_ret;exact⟨by rw[hy.out];rfl,rfl⟩
theorem uD(b:Nat)(root:Int)(c:J)(R:ab)(W:C)(h:D W (a9 b root c*R)):G prog 129 #[.pointer (o (x b 0 k))] W (Pure (.agg #[g j c.a.page,g j c.a.kind,z c.a.user]) W):=by
 obtain⟨w,e,_,h⟩:=eT h;unfold aP at h;obtain⟨c0,c1,c2,c3,c4,_⟩:=h.cells14;have hl:=h.lt;have H1:=(aT W).new #[g j c.a.page,g j c.a.kind,z c.a.user] 41;go_enter func129,ntmps129;go_wp2;refine ak (fun wz=>D wz (aa W.heap.size #[g j c.a.page,g j c.a.kind,z c.a.user] 41*(bS W W.heap.size))∧I W wz) ⟨H1,ah⟩ ?_;rintro wz ⟨hz,xz⟩;exact y (aD results129 rfl (fz hz)) rfl ⟨rfl,aq hz.right xz⟩
def mJ(c:J)(a:Ac):Int:=if au a≠0 then au a else if c.on=A then 8 else 0
def nS(c:J)(root:Int)(a:Ac):J:=if mJ c a=0 then c.begin root a else c
theorem vS(b:Nat)(root:Int)(c:J)(a:Ac)(R:ab)(W:C)(h:D W (a9 b root c*R)):
  G prog 105 #[.pointer (o (x b 0 k)),.agg #[g j a.page,g j a.kind,z a.user]] W (cI (g j (mJ c a)) (a9 b root (nS c root a)*R) W):=by
 have h1:=(h.new #[g j a.page,g j a.kind,z a.user] 41).p2;have x1:=(Ext.refl W).alloc (.cells #[g j a.page,g j a.kind,z a.user] 41);obtain⟨a0,a1,a2⟩:=h1.right.cells3;have HC:=n (fun X=>eU a.page a.kind a.user X);by_cases hc:au a=0
 ·have hc':au ⟨a.page,a.kind,a.user⟩=0:=hc
  rw[hc'] at HC;have HO:=n (fun R X h=>yj b root c R X h);cases hon:c.on with
  |true=>
   have hy1:Hid (mJ c a=8∧nS c root a=c):=n (by unfold nS mJ;rw[if_neg (by omega),if_pos hon];exact⟨rfl,if_neg (by omega)⟩);rw[hon] at HO;clear hc hc' h hon;go_enter func105,ntmps105;go_wp2_with(first|(go_at_call 101;refine(HC.out _).mono ?_;rintro e w2 ⟨rfl,b2⟩;have h2:=h1.below b2;have x2:=x1.below b2)|(go_at_call 128;refine(HO.out _ _ h2).mono ?_;rintro e w3 ⟨rfl,rfl⟩))
   go_ret;rw[hy1.out.1,hy1.out.2];exact⟨rfl,h2.p2.right,x2⟩
  |false=>
   have hy1:Hid (mJ c a=0∧nS c root a=c.begin root a):=n (by unfold nS mJ;rw[if_neg (by omega),if_neg (by rw[hon];simp)];exact⟨rfl,if_pos rfl⟩);rw[hon] at HO;clear hc hc' h;go_enter func105,ntmps105;go_wp2_with(refine(HC.out _).mono ?_;rintro e w2 ⟨rfl,b2⟩)
   have h2:=h1.below b2;have x2:=x1.below b2;clear h1 x1 b2 a0 a1 a2;refine(HO.out _ _ h2).mono ?_;rintro e w3 ⟨rfl,rfl⟩;obtain⟨w',e',_,h3⟩:=eT h2;unfold aP at h3;obtain⟨a0,a1,a2⟩:=h3.right.cells3;have al:=h3.right.lt;have hne:=h3.ne;have hne':=hne.symm;have k0:w2.cell? (x b 0 k)=o (g j root):=h3.cell 0;obtain⟨f1,f2,f3,f4,f5,f6,_⟩:=h3.frees7;have kl:=h3.lt;obtain⟨_,k1,k2,k3,k4,k5,k6,_⟩:=h3.cells14;have hc1:kT (c.begin root a)=1:=rfl;go_wp2_with fail
   go_ret;rw[hy1.out.1,hy1.out.2];refine⟨rfl,bN (w:=w') (e:=e') (fun h=>by cases h) ?_,((((((x2.set _ _).set _ _).set _ _).set _ _).set _ _).set _ _)⟩;have h9:D ((((((w2.setCell (x b 2 k) (g j a.page)).setCell (x b 3 k) (g j a.kind)).setCell (x b 4 k) (z a.user)).setCell (x b 1 k) (g j 1)).setCell (x b 5 k) (g j 3)).setCell (x b 6 k) (g j root)) (aP b root (c.begin root a) w' e'*(aa W.heap.size #[g j a.page,g j a.kind,z a.user] 41*R)):=(((((h3.set 2 _).set 3 _).set 4 _).set 1 _).set 5 _).set 6 _;exact h9.p2.right
 ·have hc':au ⟨a.page,a.kind,a.user⟩≠0:=hc
  have hn:(au ⟨a.page,a.kind,a.user⟩ !=0)=A:=by simpa using hc'
  have hy1:Hid (mJ c a=au ⟨a.page,a.kind,a.user⟩∧nS c root a=c):=n (by unfold nS mJ;rw[if_pos hc];exact⟨rfl,if_neg hc⟩);clear hc hc' h;generalize au ⟨a.page,a.kind,a.user⟩=cc at*
  go_enter func105,ntmps105;go_wp2_with(refine(HC.out _).mono ?_;rintro e w2 ⟨rfl,b2⟩)
  go_ret;rw[hy1.out.1,hy1.out.2];exact⟨rfl,(h1.below b2).p2.right,x1.below b2⟩
theorem tF(b:Nat)(root:Int)(c:J)(R:ab)(W:C)(h:D W (a9 b root c*R)):G prog 166 #[.pointer (o (x b 0 k))] W (cI (.tuple #[]) (a9 b root (c.again root)*R) W):=by
 have HO:=n (fun R X h=>yj b root c R X h);cases hon:c.on with
 |true=>
  rw[hon] at HO;obtain⟨w',e',_,h3⟩:=eT h;unfold aP at h3;have k0:W.cell? (x b 0 k)=o (g j root):=h3.cell 0;obtain⟨f1,f2,f3,f4,f5,f6,_⟩:=h3.frees7;have kl:=h3.lt;obtain⟨_,k1,k2,k3,k4,k5,k6,_⟩:=h3.cells14;have hs:c.again root={c with t:=root,level:=3,mark:=q}:=by unfold Ck.again;rw[if_pos hon]
  have hst:kT {c with t:=root,level:=3,mark:=q}=1:=by unfold kT;simp[hon]
  have h9:D (((W.setCell (x b 1 k) (g j 1)).setCell (x b 5 k) (g j 3)).setCell (x b 6 k) (g j root)) (aP b root {c with t:=root,level:=3,mark:=q} w' e'*R):=by
   unfold aP gH;rw[hst];exact((h3.set 1 _).set 5 _).set 6 _
  have HS:=n hs;clear hs hst h3 hon;go_enter func166,ntmps166;go_wp2_with(refine(HO.out _ _ h).mono ?_;rintro e w3 ⟨rfl,rfl⟩)
  refine y (v:= .tuple #[]) (by simp[results,results166]) rfl ?_;rw[HS.out];exact⟨rfl,bN (w:=w') (e:=e') (fun h=>by cases h) h9,(((Ext.refl W).set _ _).set _ _).set _ _⟩
 |false=>
  rw[hon] at HO;have hs:c.again root=c:=by unfold Ck.again;rw[if_neg (by rw[hon];simp)]
  have HS:=n hs;clear hs hon;go_enter func166,ntmps166;go_wp2_with(refine(HO.out _ _ h).mono ?_;rintro e w3 ⟨rfl,rfl⟩)
  refine y (v:= .tuple #[]) (by simp[results,results166]) rfl ?_;rw[HS.out];exact⟨rfl,h,Ext.refl _⟩
set_option maxHeartbeats 1000000 in
theorem vT(b:Nat)(root:Int)(c:J)(w:Int)(e:M)(an:An)(ln:Ln)(R:ab)(W:C)(h:D W (aP b root c w e*R)):
  G prog 184 #[.pointer (o (x b 0 k)),.agg #[g j an.fin,g j an.frame,g j an.rights],.agg #[g j ln.m.page,g j ln.m.size,g j ln.m.frame,g j ln.m.rights,z ln.dirty]] W (cI (vW ⟨A,an,ln⟩) (aP b root c.idle w e*R) W):=by
 unfold aP at h;have h1:=((h.new #[g j an.fin,g j an.frame,g j an.rights] 34).new #[g j ln.m.page,g j ln.m.size,g j ln.m.frame,g j ln.m.rights,z ln.dirty] 143).new #[z q,g j 0,g j 0,g j 0,g j 0,g j 0,g j 0,g j 0,z q] 181;have x1:=(((Ext.refl W).alloc (.cells #[g j an.fin,g j an.frame,g j an.rights] 34)).alloc (.cells #[g j ln.m.page,g j ln.m.size,g j ln.m.frame,g j ln.m.rights,z ln.dirty] 143)).alloc (.cells #[z q,g j 0,g j 0,g j 0,g j 0,g j 0,g j 0,g j 0,z q] 181);simp only[World.size_alloc] at h1;clear h;go_enter func184,ntmps184;go_upto_region 1 with fail;generalize (((W.alloc (.cells #[g j an.fin,g j an.frame,g j an.rights] 34)).alloc (.cells #[g j ln.m.page,g j ln.m.size,g j ln.m.frame,g j ln.m.rights,z ln.dirty] 143)).alloc (.cells #[z q,g j 0,g j 0,g j 0,g j 0,g j 0,g j 0,g j 0,z q] 181))=W3 at*
 generalize W.heap.size+1+1=X3 at*
 generalize W.heap.size+1=X2 at*
 generalize W.heap.size=X1 at*
 have h2:D W3 (aa b (gH root c w e) 219*(aa X1 #[g j an.fin,g j an.frame,g j an.rights] 34*(aa X2 #[g j ln.m.page,g j ln.m.size,g j ln.m.frame,g j ln.m.rights,z ln.dirty] 143*(aa X3 #[z q,g j 0,g j 0,g j 0,g j 0,g j 0,g j 0,g j 0,z q] 181*R)))):=h1.eq (by ac_rfl);have h2':D W3 (aa b (gH root c w e) 219*(aa X2 #[g j ln.m.page,g j ln.m.size,g j ln.m.frame,g j ln.m.rights,z ln.dirty] 143*(aa X1 #[g j an.fin,g j an.frame,g j an.rights] 34*(aa X3 #[z q,g j 0,g j 0,g j 0,g j 0,g j 0,g j 0,g j 0,z q] 181*R)))):=h1.eq (by ac_rfl);have n1:=h2.ne;have n2:=h2'.ne;have m1:=n1.symm;have m2:=n2.symm;obtain⟨f1,f2,f3,f4,f5,f6,_⟩:=h2.frees7;have kl:=h2.lt;obtain⟨_,k1,k2,k3,k4,k5,k6,_⟩:=h2.cells14;obtain⟨a0,a1,a2⟩:=h2.right.cells3;have al:=h2.right.lt;obtain⟨l0,l1,l2,l3,l4⟩:=h2.right.right.cells5;have ll:=h2.right.right.lt;have h3:=h2.r3;have r0:=h3.free 0;have r1:=h3.free 1;have r2:=h3.free 2;have r3:=h3.free 3;have r4:=h3.free 4;have r5:=h3.free 5;have r6:=h3.free 6;have r7:=h3.free 7;have r8:=h3.free 8;have rl:=h3.lt;obtain⟨s0,s1,s2,s3,s4,s5,s6,s7,s8⟩:=h3.cells9;have h3':D W3 (aa b (gH root c w e) 219*(aa X3 #[z q,g j 0,g j 0,g j 0,g j 0,g j 0,g j 0,g j 0,z q] 181*(R*(aa X1 #[g j an.fin,g j an.frame,g j an.rights] 34*aa X2 #[g j ln.m.page,g j ln.m.size,g j ln.m.frame,g j ln.m.rights,z ln.dirty] 143)))):=h1.eq (by ac_rfl);have n3:=h3'.ne;have m3:=n3.symm;have h4:D ((((W3.setCell (x b 1 k) (g j 0)).setCell (x b 2 k) (g j 0)).setCell (x b 3 k) (g j 0)).setCell (x b 4 k) (z q)) (aP b root c.idle w e*(aa X3 #[z q,g j 0,g j 0,g j 0,g j 0,g j 0,g j 0,g j 0,z q] 181*(R*(aa X1 #[g j an.fin,g j an.frame,g j an.rights] 34*aa X2 #[g j ln.m.page,g j ln.m.size,g j ln.m.frame,g j ln.m.rights,z ln.dirty] 143)))):=(((h3'.set 1 _).set 2 _).set 3 _).set 4 _;clear h1 h2 h2' h3 h3';go_wp2_with fail
 refine ak (fun wz=>D wz (aa X3 #[z A,g j an.fin,g j an.frame,g j an.rights,g j ln.m.page,g j ln.m.size,g j ln.m.frame,g j ln.m.rights,z ln.dirty] 181*(aP b root c.idle w e*(R*(aa X1 #[g j an.fin,g j an.frame,g j an.rights] 34*aa X2 #[g j ln.m.page,g j ln.m.size,g j ln.m.frame,g j ln.m.rights,z ln.dirty] 143))))∧I W wz) ⟨((((((((h4.p2.set 0 _).set 1 _).set 2 _).set 3 _).set 4 _).set 5 _).set 6 _).set 7 _).set 8 _,ah⟩ ?_;rintro wz ⟨hz,xz⟩;exact y (aD results184 rfl (cu hz)) rfl ⟨rfl,hz.right.a2.left,xz⟩
set_option maxHeartbeats 4000000 in
theorem kc(e:M)(l a:Int)(w:C):G prog 132 #[.agg #[z e.there,z e.leaf,g j e.rights,z e.used,z e.dirty,g j e.frame],.int .i64 l,.int .i64 a] w (Pure (aA e l a).val w):=by
 obtain⟨th,leaf,r,u,d,f⟩:=e;have h1:=(Has.new (aT w) #[z th,z leaf,g j r,z u,z d,g j f] 70).new #[g j 0,g j 0,g j 0,g j 0] 39;have x1:=((Ext.refl w).alloc (.cells #[z th,z leaf,g j r,z u,z d,g j f] 70)).alloc (.cells #[g j 0,g j 0,g j 0,g j 0] 39);simp only[World.size_alloc] at h1;have HC:=n (fun W=>gy ⟨th,leaf,r,u,d,f⟩ l W);have HH:=n (fun W=>dm a W);by_cases hc:aj ⟨th,leaf,r,u,d,f⟩ l=0
 ·have hl:=gW hc
  cases leaf with
  |false=>
   have hy:=n (fb (e:=⟨th,q,r,u,d,f⟩) (l:=l) (a:=a) (.inr (.inl rfl)));rw[hc] at HC;clear hc;go_enter func132,ntmps132;go_wp2_with fail
   refine(HC.out _).mono ?_;rintro e w2 ⟨rfl,bl⟩;have h2:=h1.below bl;have x2:=x1.below bl;obtain⟨c0,c1,c2,c3⟩:=h2.cells4;obtain⟨d0,d1,d2,d3,d4,d5⟩:=h2.right.cells6;obtain⟨f0,f1,f2,f3⟩:=h2.frees4;have l2:=h2.lt;go_wp2_with(go_at_call 158;refine(HH.out _).mono ?_;rintro e w' ⟨rfl,rfl⟩)
   refine ak (fun wz=>D wz (aa (w.heap.size+1) #[g j 0,g j 0,g j 0,g j 0] 39*(aa w.heap.size _ 70*bS w w.heap.size))∧I w wz) ⟨h2.set4 _ _ _ _,ah⟩ ?_;rintro wz ⟨hz,xz⟩;exact y (aD results132 rfl (aV hz)) rfl ⟨by rw[hy.out];rfl,aq hz.right.right xz⟩
  |true=>
   cases ha:cP a with
   |false=>
    have hy:=n (fb (e:=⟨th,A,r,u,d,f⟩) (l:=l) (a:=a) (.inr (.inr ha)));rw[hc] at HC;rw[ha] at HH;clear hc ha;go_enter func132,ntmps132;go_wp2_with fail
    refine(HC.out _).mono ?_;rintro e w2 ⟨rfl,bl⟩;have h2:=h1.below bl;have x2:=x1.below bl;obtain⟨c0,c1,c2,c3⟩:=h2.cells4;obtain⟨d0,d1,d2,d3,d4,d5⟩:=h2.right.cells6;obtain⟨f0,f1,f2,f3⟩:=h2.frees4;have l2:=h2.lt;go_wp2_with(go_at_call 158;refine(HH.out _).mono ?_;rintro e w' ⟨rfl,rfl⟩)
    refine ak (fun wz=>D wz (aa (w.heap.size+1) #[g j 0,g j 0,g j 0,g j 0] 39*(aa w.heap.size _ 70*bS w w.heap.size))∧I w wz) ⟨h2.set4 _ _ _ _,ah⟩ ?_;rintro wz ⟨hz,xz⟩;exact y (aD results132 rfl (aV hz)) rfl ⟨by rw[hy.out];rfl,aq hz.right.right xz⟩
   |true=>
    have ha':0≤a∧a<4096:=by unfold cP at ha;simpa using ha
    obtain⟨a0,a1⟩:=ha';have hth:th=A:=by
     cases th with
     |true=>rfl
     |false=>
      have:=dA hc rfl;simp[En.zero] at this
    subst hth;have hl3:=((dB hc rfl).leaf rfl).1;have hl0:=hl.1;have hy:=n (show aA ⟨A,A,r,u,d,f⟩ l a=⟨a / bn l*bn l,l,f,r⟩ by unfold aA;rw[if_pos ⟨hc,rfl,a0,a1⟩]);rw[hc] at HC;rw[ha] at HH;clear hc ha hl;have hl:l=0∨l=1∨l=2:=by omega
    clear hl0 hl3;rcases hl with rfl|rfl|rfl
    ·skip
     have hq:=n (show IntKind.i64.wrap (IntKind.i64.wrap a)=a / bn 0*bn 0 by rw[show bn 0=1 from rfl];first|(simp only[B];omega)|(simp only[B,Int.tdiv_eq_ediv_of_nonneg a0];omega));have hs':=n (cU 0);rw[show bn 0=1 from rfl] at hs';have hr0:cL (a / 1*1):=⟨by omega,by omega⟩;go_enter func132,ntmps132;go_wp2_with fail
     refine(HC.out _).mono ?_;rintro e w2 ⟨rfl,bl⟩;have h2:=h1.below bl;have x2:=x1.below bl;obtain⟨c0,c1,c2,c3⟩:=h2.cells4;obtain⟨d0,d1,d2,d3,d4,d5⟩:=h2.right.cells6;obtain⟨f0,f1,f2,f3⟩:=h2.frees4;have l2:=h2.lt;go_wp2_with(first|(go_at_call 158;refine(HH.out _).mono ?_;rintro e w' ⟨rfl,rfl⟩)|(go_at_call 174;refine(ej _ _).mono ?_;rintro e w' ⟨rfl,rfl⟩)|(go_at_call 173;refine(hs'.out _).mono ?_;rintro e w' ⟨rfl,rfl⟩))
     go_region_held3 (fun w'=>w'.cell? (x w.heap.size 5 k)=o (g j f)∧w'.cell? (x w.heap.size 2 k)=o (g j r)) (go_keep) (first|(go_at_call 174;(with_reducible refine(ej _ _).mono ?_);rintro e w' ⟨rfl,rfl⟩))
     go_wp2;refine ak (fun wz=>D wz (aa (w.heap.size+1) #[g j (IntKind.i64.wrap (IntKind.i64.wrap a)),g j 0,g j f,g j r] 39*(aa w.heap.size #[z A,z A,g j r,z u,z d,g j f] 70*bS w w.heap.size))∧I w wz) ⟨(h2.set4 _ _ _ _).drew,ah⟩ ?_;rintro wz ⟨hz,xz⟩;exact y (aD results132 rfl (aV hz)) rfl ⟨by rw[hy.out,←hq.out];rfl,aq hz.right.right xz⟩
    ·skip
     have hq:=n (show IntKind.i64.wrap (IntKind.i64.wrap (a.tdiv 8)*8)=a / bn 1*bn 1 by rw[show bn 1=8 from rfl];first|(simp only[B];omega)|(simp only[B,Int.tdiv_eq_ediv_of_nonneg a0];omega));have hs':=n (cU 1);rw[show bn 1=8 from rfl] at hs';have hr0:cL (a / 8*8):=⟨by omega,by omega⟩;go_enter func132,ntmps132;go_wp2_with fail
     refine(HC.out _).mono ?_;rintro e w2 ⟨rfl,bl⟩;have h2:=h1.below bl;have x2:=x1.below bl;obtain⟨c0,c1,c2,c3⟩:=h2.cells4;obtain⟨d0,d1,d2,d3,d4,d5⟩:=h2.right.cells6;obtain⟨f0,f1,f2,f3⟩:=h2.frees4;have l2:=h2.lt;go_wp2_with(first|(go_at_call 158;refine(HH.out _).mono ?_;rintro e w' ⟨rfl,rfl⟩)|(go_at_call 174;refine(ej _ _).mono ?_;rintro e w' ⟨rfl,rfl⟩)|(go_at_call 173;refine(hs'.out _).mono ?_;rintro e w' ⟨rfl,rfl⟩))
     go_region_held3 (fun w'=>w'.cell? (x w.heap.size 5 k)=o (g j f)∧w'.cell? (x w.heap.size 2 k)=o (g j r)) (go_keep) (first|(go_at_call 174;(with_reducible refine(ej _ _).mono ?_);rintro e w' ⟨rfl,rfl⟩))
     go_wp2;refine ak (fun wz=>D wz (aa (w.heap.size+1) #[g j (IntKind.i64.wrap (IntKind.i64.wrap (a.tdiv 8)*8)),g j 1,g j f,g j r] 39*(aa w.heap.size #[z A,z A,g j r,z u,z d,g j f] 70*bS w w.heap.size))∧I w wz) ⟨(h2.set4 _ _ _ _).drew,ah⟩ ?_;rintro wz ⟨hz,xz⟩;exact y (aD results132 rfl (aV hz)) rfl ⟨by rw[hy.out,←hq.out];rfl,aq hz.right.right xz⟩
    ·skip
     have hq:=n (show IntKind.i64.wrap (IntKind.i64.wrap (a.tdiv 64)*64)=a / bn 2*bn 2 by rw[show bn 2=64 from rfl];first|(simp only[B];omega)|(simp only[B,Int.tdiv_eq_ediv_of_nonneg a0];omega));have hs':=n (cU 2);rw[show bn 2=64 from rfl] at hs';have hr0:cL (a / 64*64):=⟨by omega,by omega⟩;go_enter func132,ntmps132;go_wp2_with fail
     refine(HC.out _).mono ?_;rintro e w2 ⟨rfl,bl⟩;have h2:=h1.below bl;have x2:=x1.below bl;obtain⟨c0,c1,c2,c3⟩:=h2.cells4;obtain⟨d0,d1,d2,d3,d4,d5⟩:=h2.right.cells6;obtain⟨f0,f1,f2,f3⟩:=h2.frees4;have l2:=h2.lt;go_wp2_with(first|(go_at_call 158;refine(HH.out _).mono ?_;rintro e w' ⟨rfl,rfl⟩)|(go_at_call 174;refine(ej _ _).mono ?_;rintro e w' ⟨rfl,rfl⟩)|(go_at_call 173;refine(hs'.out _).mono ?_;rintro e w' ⟨rfl,rfl⟩))
     go_region_held3 (fun w'=>w'.cell? (x w.heap.size 5 k)=o (g j f)∧w'.cell? (x w.heap.size 2 k)=o (g j r)) (go_keep) (first|(go_at_call 174;(with_reducible refine(ej _ _).mono ?_);rintro e w' ⟨rfl,rfl⟩))
     go_wp2;refine ak (fun wz=>D wz (aa (w.heap.size+1) #[g j (IntKind.i64.wrap (IntKind.i64.wrap (a.tdiv 64)*64)),g j 2,g j f,g j r] 39*(aa w.heap.size #[z A,z A,g j r,z u,z d,g j f] 70*bS w w.heap.size))∧I w wz) ⟨(h2.set4 _ _ _ _).drew,ah⟩ ?_;rintro wz ⟨hz,xz⟩;exact y (aD results132 rfl (aV hz)) rfl ⟨by rw[hy.out,←hq.out];rfl,aq hz.right.right xz⟩
 ·have hy:=n (fb (e:=⟨th,leaf,r,u,d,f⟩) (l:=l) (a:=a) (.inl hc))
  have hn:(aj ⟨th,leaf,r,u,d,f⟩ l !=0)=A:=by simpa using hc
  clear hc;generalize aj ⟨th,leaf,r,u,d,f⟩ l=c at*
  go_enter func132,ntmps132;go_wp2_with fail
  refine(HC.out _).mono ?_;rintro e w2 ⟨rfl,bl⟩;have h2:=h1.below bl;have x2:=x1.below bl;obtain⟨c0,c1,c2,c3⟩:=h2.cells4;obtain⟨d0,d1,d2,d3,d4,d5⟩:=h2.right.cells6;obtain⟨f0,f1,f2,f3⟩:=h2.frees4;have l2:=h2.lt;go_wp2_with(go_at_call 158;refine(HH.out _).mono ?_;rintro e w' ⟨rfl,rfl⟩)
  refine ak (fun wz=>D wz (aa (w.heap.size+1) #[g j 0,g j 0,g j 0,g j 0] 39*(aa w.heap.size _ 70*bS w w.heap.size))∧I w wz) ⟨h2.set4 _ _ _ _,ah⟩ ?_;rintro wz ⟨hz,xz⟩;exact y (aD results132 rfl (aV hz)) rfl ⟨by rw[hy.out];rfl,aq hz.right.right xz⟩
theorem nT(b:Nat)(root:Int)(c:J)(w:Int)(e:M)(R:ab)(W:C)(h:D W (aP b root c w e*R)):
  G prog 163 #[.pointer (o (x b 0 k))] W (Pure (.agg #[z (ch e c.a).there,z (ch e c.a).leaf,g j (ch e c.a).rights,z (ch e c.a).used,z (ch e c.a).dirty,g j (ch e c.a).frame]) W):=by
 unfold aP at h;obtain⟨th,lf,rg,us,di,fr⟩:=e;obtain⟨k0,k1,k2,k3,k4,k5,k6,k7,k8,k9,k10,k11,k12,k13⟩:=h.cells14;have kl:=h.lt;unfold ch;dsimp only;cases di with
 |true=>
  have hz0:=((aT W).new #[z th,z lf,g j rg,z A,z A,g j fr] 70).alloc (.cells #[z th,z lf,g j rg,z A,z A,g j fr] 70);clear h k0 k1 k2 k4 k5 k6 k7;go_enter func163,ntmps163;go_wp2;refine ak (fun wz=>D wz (aa W.heap.size #[z th,z lf,g j rg,z A,z A,g j fr] 70*(bS W W.heap.size))∧I W wz) ⟨hz0,ah⟩ ?_;rintro wz ⟨hz,xz⟩;exact y (aD results163 rfl (bC hz)) rfl ⟨rfl,aq hz.right xz⟩
 |false=>
  have hz0:=((aT W).new #[z th,z lf,g j rg,z A,z (c.a.kind==1),g j fr] 70).alloc (.cells #[z th,z lf,g j rg,z A,z (c.a.kind==1),g j fr] 70);clear h k0 k1 k2 k4 k5 k6 k7;go_enter func163,ntmps163;go_wp2;refine ak (fun wz=>D wz (aa W.heap.size #[z th,z lf,g j rg,z A,z (c.a.kind==1),g j fr] 70*(bS W W.heap.size))∧I W wz) ⟨hz0,ah⟩ ?_;rintro wz ⟨hz,xz⟩;exact y (aD results163 rfl (bC hz)) rfl ⟨rfl,aq hz.right xz⟩
theorem pZ(th lf us di:Bool)(rg fr:Int)(X:C):(Instr.field 70 (.agg #[z th,z lf,g j rg,z us,z di,g j fr]) 4).run prog X= .ok (z di) X:=by kernel_rfl
theorem mB(p s f r:Int)(d:Bool)(X:C):(Instr.build 143 #[(0,.agg #[g j p,g j s,g j f,g j r]),(1,z d)]).run prog X= .ok (.agg #[g j p,g j s,g j f,g j r,z d]) X:=by kernel_rfl
theorem Good.const{md:Region.Mode}{ops:Array Oper}{i:Nat}{p:C→Prop}:Good md ops i (fun _ w=>p w):=⟨fun _ _ h=>h,fun _ _ _ _ _ _ _ _ _ _ h=>h⟩
set_option maxHeartbeats 4000000 in
theorem vV(b:Nat)(root:Int)(c:J)(w:Int)(e me:M)(m:Mp)(an:An)(HME:Hid (ch e c.a=me))(HLM:Hid (aA e c.level c.a.page=m))(HAN:Hid (bJ m ⟨c.a.page,c.a.kind,c.a.user⟩=an))(R:ab)(W:C)(h:D W (aP b root c w e*R)):
  G prog 167 #[.pointer (o (x b 0 k))] W (cI (vW ⟨A,an,⟨m,me.dirty⟩⟩) (aP b root c.idle w e*R) W):=by
 have h1:D (W.alloc (.cells #[z q,g j 0,g j 0,g j 0,g j 0,g j 0,g j 0,g j 0,z q] 181)) (aP b root c w e*(aa W.heap.size #[z q,g j 0,g j 0,g j 0,g j 0,g j 0,g j 0,g j 0,z q] 181*R)):=(h.new #[z q,g j 0,g j 0,g j 0,g j 0,g j 0,g j 0,g j 0,z q] 181).p2;have x1:=(Ext.refl W).alloc (.cells #[z q,g j 0,g j 0,g j 0,g j 0,g j 0,g j 0,g j 0,z q] 181);have HE:=n (fun X=>kc e c.level c.a.page X);rw[HLM.out] at HE;have HM:=n (fun R X h=>nT b root c w e R X h);rw[HME.out] at HM;obtain⟨mt,ml,mr,mu,md,mf⟩:=me;dsimp only at HM⊢;have HN:=n (fun an ln R X h=>vT b root c w e an ln R X h);have HA:=n (fun X=>jZ m c.a.page c.a.kind c.a.user X);rw[HAN.out] at HA;go_enter func167,ntmps167;go_upto_region 1 with fail;generalize W.alloc _=W1 at*
 generalize W.heap.size=X1 at*
 clear h;have hb:=h1;unfold aP at hb;obtain⟨k0,k1,k2,k3,k4,k5,k6,k7,k8,k9,k10,k11,k12,k13⟩:=hb.cells14;have kl:=hb.lt;clear hb;have HK:=n (fun(w':C) (P:ab) (h:D w' (aP b root c w e*P))=>(by
  unfold aP at h;obtain⟨k0,k1,k2,k3,k4,k5,k6,k7,k8,k9,k10,k11,k12,k13⟩:=h.cells14;exact⟨k2,k5,k8,k9,k10,k11,k12,k13⟩:(w'.cell? (x b 2 k)=o (g j c.a.page)∧w'.cell? (x b 5 k)=o (g j c.level)∧w'.cell? (x b 8 k)=o (z e.there)∧w'.cell? (x b 9 k)=o (z e.leaf)∧w'.cell? (x b 10 k)=o (g j e.rights)∧w'.cell? (x b 11 k)=o (z e.used)∧w'.cell? (x b 12 k)=o (z e.dirty)∧w'.cell? (x b 13 k)=o (g j e.frame))))
 clear k0 k1 k3 k4 k6 k7;go_cut [3] (fun s3 wx=>∃X:Nat,s3= .pointer (o (x X 0 k))∧D wx (aP b root c w e*(aa X #[g j m.page,g j m.size,g j m.frame,g j m.rights] 39*(aa X1 #[z q,g j 0,g j 0,g j 0,g j 0,g j 0,g j 0,g j 0,z q] 181*R)))∧I W wx)
 case first=>
  go_region_held3 (fun w'=>(w'.cell? (x b 2 k)=o (g j c.a.page)∧w'.cell? (x b 5 k)=o (g j c.level)∧w'.cell? (x b 8 k)=o (z e.there)∧w'.cell? (x b 9 k)=o (z e.leaf)∧w'.cell? (x b 10 k)=o (g j e.rights)∧w'.cell? (x b 11 k)=o (z e.used)∧w'.cell? (x b 12 k)=o (z e.dirty)∧w'.cell? (x b 13 k)=o (g j e.frame))) (first|(with_reducible exact HK.out _ _ h2)|(with_reducible exact HK.out _ _ (h2.alloc _))|(with_reducible exact HK.out _ _ g2.right)|(with_reducible exact HK.out _ _ (h1.drew.alloc _))|(with_reducible exact HK.out _ _ (g2.set4 _ _ _ _).right)|go_keep) (first|(go_at_call 132;first|((with_reducible refine(HE.out _).mono ?_);rintro e2 w2 ⟨rfl,b2⟩;first|(have h2:=h1.drew.below b2;have x2:=x1.drew.below b2)|(have g2:D w2 (aa W1.heap.size #[g j 0,g j 0,g j 0,g j 0] 39*(aP b root c w e*(aa X1 #[z q,g j 0,g j 0,g j 0,g j 0,g j 0,g j 0,g j 0,z q] 181*R))):=(h1.drew.new #[g j 0,g j 0,g j 0,g j 0] 39).below b2;have x2:=(x1.drew.alloc _).below b2;obtain⟨f0,f1,f2,f3⟩:=g2.frees4;obtain⟨d0,d1,d2,d3⟩:=g2.cells4;have dl:=g2.lt))))
  all_goals
   go_wp2_with fail
   go_meet
   case rel=>first|exact⟨_,rfl,(h2.new #[g j m.page,g j m.size,g j m.frame,g j m.rights] 39).p2,x2.alloc _⟩|exact⟨_,rfl,(g2.set4 _ _ _ _).p2,(((x2.set _ _).set _ _).set _ _).set _ _⟩
 case rest=>
  obtain⟨X,rfl,h2,x2⟩:=hcut;clear k2 k5 k8 k9 k10 k11 k12 k13 kl HK h1 x1 HE;have hb:=h2;unfold aP at hb;obtain⟨k0,k1,k2,k3,k4,k5,k6,k7,k8,k9,k10,k11,k12,k13⟩:=hb.cells14;have kl:=hb.lt;clear hb k0 k1 k5 k6 k7 k8 k9 k10 k11 k12 k13;have cX:=h2.right.cells4;have lX:=h2.right.lt;have HKX:=n (fun(w':C) (P:ab) (h:D w' (aa X #[g j m.page,g j m.size,g j m.frame,g j m.rights] 39*P))=>h.cells4);have HKA:=n (fun(w':C) (P:ab) (h:D w' (aP b root c w e*P))=>(by
   unfold aP at h;exact⟨h.cell 2,h.cell 3,h.cell 4⟩:w'.cell? (x b 2 k)=o (g j c.a.page)∧w'.cell? (x b 3 k)=o (g j c.a.kind)∧w'.cell? (x b 4 k)=o (z c.a.user)))
  go_wp2_with fail
  refine iE (S:=fun L w'=>(w'.cell? (x X 0 k)=o (g j m.page)∧w'.cell? (x X 1 k)=o (g j m.size)∧w'.cell? (x X 2 k)=o (g j m.frame)∧w'.cell? (x X 3 k)=o (g j m.rights))∧Till 6 5 (fun w'=>w'.cell? (x b 2 k)=o (g j c.a.page)∧w'.cell? (x b 3 k)=o (g j c.a.kind)∧w'.cell? (x b 4 k)=o (z c.a.user)) L w') (by kernel_rfl) ⟨cX,Till.start ⟨k2,k3,k4⟩⟩ (fun hHeld=> ?_);refine aO (i:=0) (v:= ?_) rfl (by kernel_rfl) (by kernel_rfl) (by kernel_rfl) (fun _ _ _ h=>h) (F Good.const (E (by decide) ⟨_,⟨5,.data⟩,rfl,by simp,rfl,rfl⟩)) (Or.inl ⟨by kernel_rfl,?_⟩) hHeld (fun hHeld=> ?_);rotate_left;focus (intro wS hSw;obtain⟨Lx,hLx,hs1,hs2⟩:=hSw;skip;go_simp;first|done|with_reducible rfl)
  try go_simp
  refine aO (i:=1) (v:= ?_) rfl (by kernel_rfl) (by kernel_rfl) (by kernel_rfl) (fun _ _ _ h=>h) (F Good.const (E (by decide) ⟨_,⟨5,.data⟩,rfl,by simp,rfl,rfl⟩)) (Or.inl ⟨by kernel_rfl,?_⟩) hHeld (fun hHeld=> ?_);rotate_left;focus (intro wS hSw;obtain⟨Lx,hLx,hs1,hs2⟩:=hSw;obtain⟨s0,s1,s2,s3⟩:=hs1;go_simp;first|done|with_reducible rfl)
  try go_simp
  refine aO (i:=2) (v:= ?_) rfl (by kernel_rfl) (by kernel_rfl) (by kernel_rfl) (fun _ _ _ h=>h) (F Good.const (E (by decide) ⟨_,⟨5,.data⟩,rfl,by simp,rfl,rfl⟩)) (Or.inl ⟨by kernel_rfl,?_⟩) hHeld (fun hHeld=> ?_);rotate_left;focus (intro wS hSw;obtain⟨Lx,hLx,hs1,hs2⟩:=hSw;skip;go_simp;first|done|with_reducible rfl)
  try go_simp
  refine aO (i:=3) (v:= ?_) rfl (by kernel_rfl) (by kernel_rfl) (by kernel_rfl) (fun _ _ _ h=>h) (F Good.const (E (by decide) ⟨_,⟨5,.data⟩,rfl,by simp,rfl,rfl⟩)) (Or.inl ⟨by kernel_rfl,?_⟩) hHeld (fun hHeld=> ?_);rotate_left;focus (intro wS hSw;obtain⟨Lx,hLx,hs1,hs2⟩:=hSw;skip;go_simp;first|done|with_reducible rfl)
  try go_simp
  refine aO (i:=4) (v:= ?_) rfl (by kernel_rfl) (by kernel_rfl) (by kernel_rfl) (fun _ _ _ h=>h) (F Good.const (E (by decide) ⟨_,⟨5,.data⟩,rfl,by simp,rfl,rfl⟩)) (Or.inl ⟨by kernel_rfl,?_⟩) hHeld (fun hHeld=> ?_);rotate_left;focus (intro wS hSw;obtain⟨Lx,hLx,hs1,hs2⟩:=hSw;skip;go_simp;first|done|with_reducible rfl)
  try go_simp
  refine aO (i:=5) (v:= ?_) rfl (by kernel_rfl) (by kernel_rfl) (by kernel_rfl) (fun _ _ _ h=>h) (F Good.const (E (by decide) ⟨_,⟨5,.data⟩,rfl,by simp,rfl,rfl⟩)) (Or.inl ⟨by kernel_rfl,?_⟩) hHeld (fun hHeld=> ?_);rotate_left;focus (intro wS hSw;obtain⟨Lx,hLx,hs1,hs2⟩:=hSw;obtain⟨s0,s1,s2⟩:=hs2.still hLx;go_simp;first|done|with_reducible rfl)
  try go_simp
  refine aO (i:=7) (v:= ?_) rfl (by kernel_rfl) (by kernel_rfl) (by kernel_rfl) (fun _ _ _ h=>h) (F Good.const (E (by decide) ⟨_,⟨5,.data⟩,rfl,by simp,rfl,rfl⟩)) (Or.inl ⟨by kernel_rfl,?_⟩) hHeld (fun hHeld=> ?_);rotate_left;focus (intro wS hSw;obtain⟨Lx,hLx,hs1,hs2⟩:=hSw;obtain⟨s0,s1,s2,s3⟩:=hs1;go_simp;first|done|with_reducible rfl)
  try go_simp
  refine aO (i:=8) (v:= ?_) rfl (by kernel_rfl) (by kernel_rfl) (by kernel_rfl) (fun _ _ _ h=>h) (F Good.const (E (by decide) ⟨_,⟨5,.data⟩,rfl,by simp,rfl,rfl⟩)) (Or.inl ⟨by kernel_rfl,?_⟩) hHeld (fun hHeld=> ?_);rotate_left;focus (intro wS hSw;obtain⟨Lx,hLx,hs1,hs2⟩:=hSw;skip;go_simp;first|done|with_reducible rfl)
  try go_simp
  refine aX (rs:=[6]) (by kernel_rfl) (by simp) ?_;refine OneOf.cons rfl (fun K hK=> ?_) OneOf.nil;go_simp;go_wp2_with(refine(HA.out _).mono ?_;rintro e2 w5 ⟨rfl,b5⟩)
  have h5:=h2.drew.below b5;have x5:=x2.drew.below b5;refine hK.out _ _ ⟨HKX.out _ _ h5.right,⟨fun _=>by kernel_rfl,fun h=>aS (by kernel_rfl) h⟩⟩ (fun hHeld=> ?_);clear hK K;refine aX (rs:=[9]) (by kernel_rfl) (by simp) ?_;refine OneOf.cons rfl (fun K hK=> ?_) OneOf.nil;go_simp;go_wp2_with(refine(HM.out _ _ h5).mono ?_;rintro e2 w6 ⟨rfl,b6⟩)
  have h6:=h5.below b6;have x6:=x5.below b6;refine hK.out _ _ ⟨HKX.out _ _ h6.right,⟨fun _=>by kernel_rfl,fun h=>aS (by kernel_rfl) h⟩⟩ (fun hHeld=> ?_);clear hK K;have hfl:=fun X=>pZ mt ml mu md mr mf X;refine aX (rs:=[10]) (by kernel_rfl) (by simp) ?_;refine OneOf.cons rfl (fun K hK=> ?_) OneOf.nil;go_simp;refine hK.out _ _ ⟨HKX.out _ _ h6.right,⟨fun _=>by kernel_rfl,fun h=>aS (by kernel_rfl) h⟩⟩ (fun hHeld=> ?_);clear hK K;have hbl:=fun X=>mB m.page m.size m.frame m.rights md X;refine aX (rs:=[11]) (by kernel_rfl) (by simp) ?_;refine OneOf.cons rfl (fun K hK=> ?_) OneOf.nil;go_simp;refine hK.out _ _ ⟨HKX.out _ _ h6.right,⟨fun _=>by kernel_rfl,fun h=>aS (by kernel_rfl) h⟩⟩ (fun hHeld=> ?_);clear hK K;refine aX (rs:=[12]) (by kernel_rfl) (by simp) ?_;refine OneOf.cons rfl (fun K hK=> ?_) OneOf.nil;go_simp;go_wp2_with(refine(HN.out an ⟨m,md⟩ _ _ h6).mono ?_;rintro e2 w7 ⟨rfl,h7,x7⟩)
  have x8:=x6.trans x7;refine hK.out _ _ ⟨HKX.out _ _ h7.right,⟨fun _=>by kernel_rfl,fun h=>aS (by kernel_rfl) h⟩⟩ (fun hHeld=> ?_);clear hK K;have h8:=h7.right.right;have r0:=h8.free 0;have r1:=h8.free 1;have r2:=h8.free 2;have r3:=h8.free 3;have r4:=h8.free 4;have r5:=h8.free 5;have r6:=h8.free 6;have r7:=h8.free 7;have r8:=h8.free 8;have rl:=h8.lt;obtain⟨s0,s1,s2,s3,s4,s5,s6,s7,s8⟩:=h8.cells9;have h9:D w7 (aa X1 #[z q,g j 0,g j 0,g j 0,g j 0,g j 0,g j 0,g j 0,z q] 181*(aP b root c.idle w e*(aa X #[g j m.page,g j m.size,g j m.frame,g j m.rights] 39*R))):=h7.eq (by ac_rfl);have h9x:D w7 (aa X1 #[z q,g j 0,g j 0,g j 0,g j 0,g j 0,g j 0,g j 0,z q] 181*(aa X #[g j m.page,g j m.size,g j m.frame,g j m.rights] 39*(aP b root c.idle w e*R))):=h7.eq (by ac_rfl);have hfin:=(((((((((h9.set 0 (z A)).set 1 (g j an.fin)).set 2 (g j an.frame)).set 3 (g j an.rights)).set 4 (g j m.page)).set 5 (g j m.size)).set 6 (g j m.frame)).set 7 (g j m.rights)).set 8 (z md));have hfinX:D _ (aa X #[g j m.page,g j m.size,g j m.frame,g j m.rights] 39*_):=(((((((((h9x.set 0 (z A)).set 1 (g j an.fin)).set 2 (g j an.frame)).set 3 (g j an.rights)).set 4 (g j m.page)).set 5 (g j m.size)).set 6 (g j m.frame)).set 7 (g j m.rights)).set 8 (z md)).p2;refine aX (rs:=[13]) (by kernel_rfl) (by simp) ?_;refine OneOf.cons rfl (fun K hK=> ?_) OneOf.nil;go_simp;refine hK.out _ _ ⟨HKX.out _ _ hfinX,⟨fun _=>by kernel_rfl,fun h=>aS (by kernel_rfl) h⟩⟩ (fun hHeld=> ?_);clear hK K;refine fj (by kernel_rfl) ?_;clear hHeld hfinX;go_wp2_with fail
  refine ak (fun wz=>D wz (aa X1 #[z A,g j an.fin,g j an.frame,g j an.rights,g j m.page,g j m.size,g j m.frame,g j m.rights,z md] 181*(aP b root c.idle w e*(aa X #[g j m.page,g j m.size,g j m.frame,g j m.rights] 39*R)))∧I W wz) ⟨hfin,ah⟩ ?_;rintro wz ⟨hz,xz⟩;exact y (aD results167 rfl (cu hz)) rfl ⟨rfl,hz.right.p2.right,xz⟩
theorem uT(b:Nat)(root:Int)(c:J)(w:Int)(e:M)(R:ab)(W:C)(h:D W (aP b root c w e*R)):
  G prog 167 #[.pointer (o (x b 0 k))] W (cI (vW ⟨A,bJ (aA e c.level c.a.page) c.a,⟨aA e c.level c.a.page,(ch e c.a).dirty⟩⟩) (aP b root c.idle w e*R) W):=
 vV b root c w e _ _ _ (n rfl) (n rfl) (n rfl) R W h
end Go.Proofs.YtmfheghbgihdmaaGreat
