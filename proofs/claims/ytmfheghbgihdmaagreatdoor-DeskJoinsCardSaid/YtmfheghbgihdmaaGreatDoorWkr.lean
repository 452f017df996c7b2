/- Contracts of package walker: New, On, Access, Begin, Again, end, marked. -/
import Derived.Test.YtmfheghbgihdmaaGreatDoorTblM3
import Derived.Test.YtmfheghbgihdmaaGreatDoorPage
import Derived.Test.YtmfheghbgihdmaaGreatDoorEntBits
import Derived.Deep.Cut
import Derived.Deep.RegionHeld3
import Derived.StillTailTactics
import Derived.Deep.DeepCutAuto
namespace Go.Proofs.YtmfheghbgihdmaaGreatDoor
open Go.IntKind renaming u64→vU
open Go.Value renaming int→g,bool→z
open Go.IntKind renaming i64→j,wrap_i64→B
open Option renaming none→k,some→o
open Go.Lib renaming hid→n
open Bool renaming false→q,true→A
open Go.Addr renaming mk→x
open Go renaming bodyPost_ret→y,World→C,Calls→E,Value→F
open Go.Proofs.YtmfheghbgihdmaaGreatDoor renaming Has→D,Ext→G,Ck→H,En→I
open Tryz
open Go.RowKit
set_option maxRecDepth 100000
def lj(c:H):Int:=if c.on=A then(if c.mark=A then 2 else 1) else 0
abbrev gm(root:Int)(c:H)(w:Int)(e:I):Array F:= #[g j root,g j (lj c),g j c.a.page,g j c.a.kind,z c.a.user,g j c.level,g j c.t,g vU w,z e.there,z e.leaf,g j e.rights,z e.used,z e.dirty,g j e.frame]
def aJ(b:Nat)(root:Int)(c:H)(w:Int)(e:I):ab:=aa b (gm root c w e) 266
def Mk(c:H)(w:Int)(e:I):Prop:=c.mark=A→w=c.w∧e=aC c.w c.level
def aO(b:Nat)(root:Int)(c:H):ab:=ex fun w=>ex fun e=>eZ (Mk c w e)*aJ b root c w e
theorem eH{b:Nat}{root:Int}{c:H}{P:ab}{W:C}(h:D W (aO b root c*P)):∃w e,Mk c w e∧D W (aJ b root c w e*P):=by
 unfold aO at h;obtain⟨w,h⟩:=aw.1 h;obtain⟨e,h⟩:=aw.1 h;obtain⟨h1,h2⟩:=bZ.1 h.a1;exact⟨w,e,h1,h2⟩
theorem bw{b:Nat}{root:Int}{c:H}{w:Int}{e:I}{P:ab}{W:C}(hm:Mk c w e)(h:D W (aJ b root c w e*P)):D W (aO b root c*P):=by
 unfold aO;exact aw.2 ⟨w,aw.2 ⟨e,(bZ.2 ⟨hm,h⟩).a2⟩⟩
abbrev zy(r:Rs):F:= .agg #[z r.fin,g j r.an.fin,g j r.an.frame,g j r.an.rights,g j r.ln.m.page,g j r.ln.m.size,g j r.ln.m.frame,g j r.ln.m.rights,z r.ln.dirty]
theorem b9{w:C}{R:ab}{b:Nat}{v0 v1 v2 v3 v4 v5 v6 v7 v8:F}(h:D w (aa b #[v0,v1,v2,v3,v4,v5,v6,v7,v8] 274*R)):(loadVar 274 (x b 0 k)).run prog w= .ok (.agg #[v0,v1,v2,v3,v4,v5,v6,v7,v8]) w:=
 run_loadVar_row w b 274 274 _ _ _ h.heap underlying274 rfl (by kernel_rfl)
theorem eY{w:C}{R:ab}{b:Nat}{v0 v1 v2:F}(h:D w (aa b #[v0,v1,v2] 77*R)):(loadVar 77 (x b 0 k)).run prog w= .ok (.agg #[v0,v1,v2]) w:=
 run_loadVar_row w b 77 77 _ _ _ h.heap underlying77 rfl (by kernel_rfl)
theorem Has.cells14{w:C}{R:ab}{b:Nat}{v0 v1 v2 v3 v4 v5 v6 v7 v8 v9 v10 v11 v12 v13:F}{t:TypeId}(h:D w (aa b #[v0,v1,v2,v3,v4,v5,v6,v7,v8,v9,v10,v11,v12,v13] t*R)):
  w.cell? (x b 0 k)=o v0∧w.cell? (x b 1 k)=o v1∧w.cell? (x b 2 k)=o v2∧w.cell? (x b 3 k)=o v3∧w.cell? (x b 4 k)=o v4∧w.cell? (x b 5 k)=o v5∧w.cell? (x b 6 k)=o v6∧
   w.cell? (x b 7 k)=o v7∧w.cell? (x b 8 k)=o v8∧w.cell? (x b 9 k)=o v9∧w.cell? (x b 10 k)=o v10∧w.cell? (x b 11 k)=o v11∧w.cell? (x b 12 k)=o v12∧w.cell? (x b 13 k)=o v13:=
 ⟨h.cell 0,h.cell 1,h.cell 2,h.cell 3,h.cell 4,h.cell 5,h.cell 6,h.cell 7,h.cell 8,h.cell 9,h.cell 10,h.cell 11,h.cell 12,h.cell 13⟩
theorem Has.frees7{w:C}{R:ab}{b:Nat}{cs:Array F}{t:TypeId}(h:D w (aa b cs t*R)):
  w.frozen? (x b 1 k)=q∧w.frozen? (x b 2 k)=q∧w.frozen? (x b 3 k)=q∧w.frozen? (x b 4 k)=q∧w.frozen? (x b 5 k)=q∧w.frozen? (x b 6 k)=q∧w.frozen? (x b 7 k)=q:=
 ⟨h.free 1,h.free 2,h.free 3,h.free 4,h.free 5,h.free 6,h.free 7⟩
theorem Bb(root:Int)(R:ab)(w:C)(h:D w R):E prog 141 #[g j root] w fun e w'=>∃p,cF (.pointer (o (x p 0 k))) (aO p root Ck.zero*R) w e w':=by
 have h1:D _ (aJ w.heap.size root Ck.zero 0 En.zero*R):=h.new (gm root Ck.zero 0 En.zero) 266;go_enter func141,ntmps141;go_wp2;go_ret;exact⟨_,rfl,bw (fun h=>by cases h) h1,(Ext.refl w).alloc _⟩
theorem Bc(b:Nat)(root:Int)(c:H)(R:ab)(W:C)(h:D W (aO b root c*R)):E prog 173 #[.pointer (o (x b 0 k))] W (Same (z c.on) W):=by
 obtain⟨w,e,_,h⟩:=eH h;unfold aJ at h;have c1:W.cell? (x b 1 k)=o (g j (lj c)):=h.cell 1;have hl:=h.lt;have hy:Hid ((lj c !=0)=c.on):=n (by unfold lj;cases c.on<;>cases c.mark<;>rfl);go_enter func173,ntmps173;go_wp2;go_ret;exact⟨by rw[hy.out];rfl,rfl⟩
theorem xH(b:Nat)(root:Int)(c:H)(R:ab)(W:C)(h:D W (aO b root c*R)):E prog 174 #[.pointer (o (x b 0 k))] W (Pure (.agg #[g j c.a.page,g j c.a.kind,z c.a.user]) W):=by
 obtain⟨w,e,_,h⟩:=eH h;unfold aJ at h;obtain⟨c0,c1,c2,c3,c4,_⟩:=h.cells14;have hl:=h.lt;have H1:=(bc W).new #[g j c.a.page,g j c.a.kind,z c.a.user] 77;go_enter func174,ntmps174;go_wp2;refine ay (fun wz=>D wz (aa W.heap.size #[g j c.a.page,g j c.a.kind,z c.a.user] 77*(cr W W.heap.size))∧G W wz) ⟨H1,aj⟩ ?_;rintro wz ⟨hz,xz⟩;exact y (aR results174 rfl (eY hz)) rfl ⟨rfl,aA hz.right xz⟩
def nv(c:H)(a:Ac):Int:=if aH a≠0 then aH a else if c.on=A then 8 else 0
def oR(c:H)(root:Int)(a:Ac):H:=if nv c a=0 then c.begin root a else c
theorem zv(b:Nat)(root:Int)(c:H)(a:Ac)(R:ab)(W:C)(h:D W (aO b root c*R)):
  E prog 183 #[.pointer (o (x b 0 k)),.agg #[g j a.page,g j a.kind,z a.user]] W (cF (g j (nv c a)) (aO b root (oR c root a)*R) W):=by
 have h1:=(h.new #[g j a.page,g j a.kind,z a.user] 77).p2;have x1:=(Ext.refl W).alloc (.cells #[g j a.page,g j a.kind,z a.user] 77);obtain⟨a0,a1,a2⟩:=h1.right.cells3;have HC:=n (fun X=>eI a.page a.kind a.user X);by_cases hc:aH a=0
 ·have hc':aH ⟨a.page,a.kind,a.user⟩=0:=hc
  rw[hc'] at HC;have HO:=n (fun R X h=>Bc b root c R X h);cases hon:c.on with
  |true=>
   have hy1:Hid (nv c a=8∧oR c root a=c):=n (by unfold oR nv;rw[if_neg (by omega),if_pos hon];exact⟨rfl,if_neg (by omega)⟩);rw[hon] at HO;clear hc hc' h hon;go_enter func183,ntmps183;go_wp2_with(first|(go_at_call 179;refine(HC.out _).mono ?_;rintro e w2 ⟨rfl,b2⟩;have h2:=h1.below b2;have x2:=x1.below b2)|(go_at_call 173;refine(HO.out _ _ h2).mono ?_;rintro e w3 ⟨rfl,rfl⟩))
   go_ret;rw[hy1.out.1,hy1.out.2];exact⟨rfl,h2.p2.right,x2⟩
  |false=>
   have hy1:Hid (nv c a=0∧oR c root a=c.begin root a):=n (by unfold oR nv;rw[if_neg (by omega),if_neg (by rw[hon];simp)];exact⟨rfl,if_pos rfl⟩);rw[hon] at HO;clear hc hc' h;go_enter func183,ntmps183;go_wp2_with(refine(HC.out _).mono ?_;rintro e w2 ⟨rfl,b2⟩)
   have h2:=h1.below b2;have x2:=x1.below b2;clear h1 x1 b2 a0 a1 a2;refine(HO.out _ _ h2).mono ?_;rintro e w3 ⟨rfl,rfl⟩;obtain⟨w',e',_,h3⟩:=eH h2;unfold aJ at h3;obtain⟨a0,a1,a2⟩:=h3.right.cells3;have al:=h3.right.lt;have hne:=h3.ne;have hne':=hne.symm;have k0:w2.cell? (x b 0 k)=o (g j root):=h3.cell 0;obtain⟨f1,f2,f3,f4,f5,f6,_⟩:=h3.frees7;have kl:=h3.lt;obtain⟨_,k1,k2,k3,k4,k5,k6,_⟩:=h3.cells14;have hc1:lj (c.begin root a)=1:=rfl;go_wp2_with fail
   go_ret;rw[hy1.out.1,hy1.out.2];refine⟨rfl,bw (w:=w') (e:=e') (fun h=>by cases h) ?_,((((((x2.set _ _).set _ _).set _ _).set _ _).set _ _).set _ _)⟩;have h9:D ((((((w2.setCell (x b 2 k) (g j a.page)).setCell (x b 3 k) (g j a.kind)).setCell (x b 4 k) (z a.user)).setCell (x b 1 k) (g j 1)).setCell (x b 5 k) (g j 3)).setCell (x b 6 k) (g j root)) (aJ b root (c.begin root a) w' e'*(aa W.heap.size #[g j a.page,g j a.kind,z a.user] 77*R)):=(((((h3.set 2 _).set 3 _).set 4 _).set 1 _).set 5 _).set 6 _;exact h9.p2.right
 ·have hc':aH ⟨a.page,a.kind,a.user⟩≠0:=hc
  have hn:(aH ⟨a.page,a.kind,a.user⟩ !=0)=A:=by simpa using hc'
  have hy1:Hid (nv c a=aH ⟨a.page,a.kind,a.user⟩∧oR c root a=c):=n (by unfold oR nv;rw[if_pos hc];exact⟨rfl,if_neg hc⟩);clear hc hc' h;generalize aH ⟨a.page,a.kind,a.user⟩=cc at*
  go_enter func183,ntmps183;go_wp2_with(refine(HC.out _).mono ?_;rintro e w2 ⟨rfl,b2⟩)
  go_ret;rw[hy1.out.1,hy1.out.2];exact⟨rfl,(h1.below b2).p2.right,x1.below b2⟩
theorem vY(b:Nat)(root:Int)(c:H)(R:ab)(W:C)(h:D W (aO b root c*R)):E prog 222 #[.pointer (o (x b 0 k))] W (cF (.tuple #[]) (aO b root (c.again root)*R) W):=by
 have HO:=n (fun R X h=>Bc b root c R X h);cases hon:c.on with
 |true=>
  rw[hon] at HO;obtain⟨w',e',_,h3⟩:=eH h;unfold aJ at h3;have k0:W.cell? (x b 0 k)=o (g j root):=h3.cell 0;obtain⟨f1,f2,f3,f4,f5,f6,_⟩:=h3.frees7;have kl:=h3.lt;obtain⟨_,k1,k2,k3,k4,k5,k6,_⟩:=h3.cells14;have hs:c.again root={c with t:=root,level:=3,mark:=q}:=by unfold Ck.again;rw[if_pos hon]
  have hst:lj {c with t:=root,level:=3,mark:=q}=1:=by unfold lj;simp[hon]
  have h9:D (((W.setCell (x b 1 k) (g j 1)).setCell (x b 5 k) (g j 3)).setCell (x b 6 k) (g j root)) (aJ b root {c with t:=root,level:=3,mark:=q} w' e'*R):=by
   unfold aJ gm;rw[hst];exact((h3.set 1 _).set 5 _).set 6 _
  have HS:=n hs;clear hs hst h3 hon;go_enter func222,ntmps222;go_wp2_with(refine(HO.out _ _ h).mono ?_;rintro e w3 ⟨rfl,rfl⟩)
  refine y (v:= .tuple #[]) (by simp[results,results222]) rfl ?_;rw[HS.out];exact⟨rfl,bw (w:=w') (e:=e') (fun h=>by cases h) h9,(((Ext.refl W).set _ _).set _ _).set _ _⟩
 |false=>
  rw[hon] at HO;have hs:c.again root=c:=by unfold Ck.again;rw[if_neg (by rw[hon];simp)]
  have HS:=n hs;clear hs hon;go_enter func222,ntmps222;go_wp2_with(refine(HO.out _ _ h).mono ?_;rintro e w3 ⟨rfl,rfl⟩)
  refine y (v:= .tuple #[]) (by simp[results,results222]) rfl ?_;rw[HS.out];exact⟨rfl,h,Ext.refl _⟩
set_option maxHeartbeats 1000000 in
theorem zw(b:Nat)(root:Int)(c:H)(w:Int)(e:I)(an:An)(ln:Ln)(R:ab)(W:C)(h:D W (aJ b root c w e*R)):
  E prog 235 #[.pointer (o (x b 0 k)),.agg #[g j an.fin,g j an.frame,g j an.rights],.agg #[g j ln.m.page,g j ln.m.size,g j ln.m.frame,g j ln.m.rights,z ln.dirty]] W (cF (zy ⟨A,an,ln⟩) (aJ b root c.idle w e*R) W):=by
 unfold aJ at h;have h1:=((h.new #[g j an.fin,g j an.frame,g j an.rights] 70).new #[g j ln.m.page,g j ln.m.size,g j ln.m.frame,g j ln.m.rights,z ln.dirty] 150).new #[z q,g j 0,g j 0,g j 0,g j 0,g j 0,g j 0,g j 0,z q] 274;have x1:=(((Ext.refl W).alloc (.cells #[g j an.fin,g j an.frame,g j an.rights] 70)).alloc (.cells #[g j ln.m.page,g j ln.m.size,g j ln.m.frame,g j ln.m.rights,z ln.dirty] 150)).alloc (.cells #[z q,g j 0,g j 0,g j 0,g j 0,g j 0,g j 0,g j 0,z q] 274);simp only[World.size_alloc] at h1;clear h;go_enter func235,ntmps235;go_upto_region 1 with fail;generalize (((W.alloc (.cells #[g j an.fin,g j an.frame,g j an.rights] 70)).alloc (.cells #[g j ln.m.page,g j ln.m.size,g j ln.m.frame,g j ln.m.rights,z ln.dirty] 150)).alloc (.cells #[z q,g j 0,g j 0,g j 0,g j 0,g j 0,g j 0,g j 0,z q] 274))=W3 at*
 generalize W.heap.size+1+1=X3 at*
 generalize W.heap.size+1=X2 at*
 generalize W.heap.size=X1 at*
 have h2:D W3 (aa b (gm root c w e) 266*(aa X1 #[g j an.fin,g j an.frame,g j an.rights] 70*(aa X2 #[g j ln.m.page,g j ln.m.size,g j ln.m.frame,g j ln.m.rights,z ln.dirty] 150*(aa X3 #[z q,g j 0,g j 0,g j 0,g j 0,g j 0,g j 0,g j 0,z q] 274*R)))):=h1.eq (by ac_rfl);have h2':D W3 (aa b (gm root c w e) 266*(aa X2 #[g j ln.m.page,g j ln.m.size,g j ln.m.frame,g j ln.m.rights,z ln.dirty] 150*(aa X1 #[g j an.fin,g j an.frame,g j an.rights] 70*(aa X3 #[z q,g j 0,g j 0,g j 0,g j 0,g j 0,g j 0,g j 0,z q] 274*R)))):=h1.eq (by ac_rfl);have n1:=h2.ne;have n2:=h2'.ne;have m1:=n1.symm;have m2:=n2.symm;obtain⟨f1,f2,f3,f4,f5,f6,_⟩:=h2.frees7;have kl:=h2.lt;obtain⟨_,k1,k2,k3,k4,k5,k6,_⟩:=h2.cells14;obtain⟨a0,a1,a2⟩:=h2.right.cells3;have al:=h2.right.lt;obtain⟨l0,l1,l2,l3,l4⟩:=h2.right.right.cells5;have ll:=h2.right.right.lt;have h3:=h2.r3;have r0:=h3.free 0;have r1:=h3.free 1;have r2:=h3.free 2;have r3:=h3.free 3;have r4:=h3.free 4;have r5:=h3.free 5;have r6:=h3.free 6;have r7:=h3.free 7;have r8:=h3.free 8;have rl:=h3.lt;obtain⟨s0,s1,s2,s3,s4,s5,s6,s7,s8⟩:=h3.cells9;have h3':D W3 (aa b (gm root c w e) 266*(aa X3 #[z q,g j 0,g j 0,g j 0,g j 0,g j 0,g j 0,g j 0,z q] 274*(R*(aa X1 #[g j an.fin,g j an.frame,g j an.rights] 70*aa X2 #[g j ln.m.page,g j ln.m.size,g j ln.m.frame,g j ln.m.rights,z ln.dirty] 150)))):=h1.eq (by ac_rfl);have n3:=h3'.ne;have m3:=n3.symm;have h4:D ((((W3.setCell (x b 1 k) (g j 0)).setCell (x b 2 k) (g j 0)).setCell (x b 3 k) (g j 0)).setCell (x b 4 k) (z q)) (aJ b root c.idle w e*(aa X3 #[z q,g j 0,g j 0,g j 0,g j 0,g j 0,g j 0,g j 0,z q] 274*(R*(aa X1 #[g j an.fin,g j an.frame,g j an.rights] 70*aa X2 #[g j ln.m.page,g j ln.m.size,g j ln.m.frame,g j ln.m.rights,z ln.dirty] 150)))):=(((h3'.set 1 _).set 2 _).set 3 _).set 4 _;clear h1 h2 h2' h3 h3';go_wp2_with fail
 refine ay (fun wz=>D wz (aa X3 #[z A,g j an.fin,g j an.frame,g j an.rights,g j ln.m.page,g j ln.m.size,g j ln.m.frame,g j ln.m.rights,z ln.dirty] 274*(aJ b root c.idle w e*(R*(aa X1 #[g j an.fin,g j an.frame,g j an.rights] 70*aa X2 #[g j ln.m.page,g j ln.m.size,g j ln.m.frame,g j ln.m.rights,z ln.dirty] 150))))∧G W wz) ⟨((((((((h4.p2.set 0 _).set 1 _).set 2 _).set 3 _).set 4 _).set 5 _).set 6 _).set 7 _).set 8 _,aj⟩ ?_;rintro wz ⟨hz,xz⟩;exact y (aR results235 rfl (b9 hz)) rfl ⟨rfl,hz.right.a2.left,xz⟩
set_option maxHeartbeats 4000000 in
theorem kg(e:I)(l a:Int)(w:C):E prog 163 #[.agg #[z e.there,z e.leaf,g j e.rights,z e.used,z e.dirty,g j e.frame],.int .i64 l,.int .i64 a] w (Pure (aK e l a).val w):=by
 obtain⟨th,leaf,r,u,d,f⟩:=e;have h1:=(Has.new (bc w) #[z th,z leaf,g j r,z u,z d,g j f] 81).new #[g j 0,g j 0,g j 0,g j 0] 75;have x1:=((Ext.refl w).alloc (.cells #[z th,z leaf,g j r,z u,z d,g j f] 81)).alloc (.cells #[g j 0,g j 0,g j 0,g j 0] 75);simp only[World.size_alloc] at h1;have HC:=n (fun W=>gg ⟨th,leaf,r,u,d,f⟩ l W);have HH:=n (fun W=>cL a W);by_cases hc:ao ⟨th,leaf,r,u,d,f⟩ l=0
 ·have hl:=jp hc
  cases leaf with
  |false=>
   have hy:=n (jZ (e:=⟨th,q,r,u,d,f⟩) (l:=l) (a:=a) (.inr (.inl rfl)));rw[hc] at HC;clear hc;go_enter func163,ntmps163;go_wp2_with fail
   refine(HC.out _).mono ?_;rintro e w2 ⟨rfl,bl⟩;have h2:=h1.below bl;have x2:=x1.below bl;obtain⟨c0,c1,c2,c3⟩:=h2.cells4;obtain⟨d0,d1,d2,d3,d4,d5⟩:=h2.right.cells6;obtain⟨f0,f1,f2,f3⟩:=h2.frees4;have l2:=h2.lt;go_wp2_with(go_at_call 195;refine(HH.out _).mono ?_;rintro e w' ⟨rfl,rfl⟩)
   refine ay (fun wz=>D wz (aa (w.heap.size+1) #[g j 0,g j 0,g j 0,g j 0] 75*(aa w.heap.size _ 81*cr w w.heap.size))∧G w wz) ⟨h2.set4 _ _ _ _,aj⟩ ?_;rintro wz ⟨hz,xz⟩;exact y (aR results163 rfl (br hz)) rfl ⟨by rw[hy.out];rfl,aA hz.right.right xz⟩
  |true=>
   cases ha:cN a with
   |false=>
    have hy:=n (jZ (e:=⟨th,A,r,u,d,f⟩) (l:=l) (a:=a) (.inr (.inr ha)));rw[hc] at HC;rw[ha] at HH;clear hc ha;go_enter func163,ntmps163;go_wp2_with fail
    refine(HC.out _).mono ?_;rintro e w2 ⟨rfl,bl⟩;have h2:=h1.below bl;have x2:=x1.below bl;obtain⟨c0,c1,c2,c3⟩:=h2.cells4;obtain⟨d0,d1,d2,d3,d4,d5⟩:=h2.right.cells6;obtain⟨f0,f1,f2,f3⟩:=h2.frees4;have l2:=h2.lt;go_wp2_with(go_at_call 195;refine(HH.out _).mono ?_;rintro e w' ⟨rfl,rfl⟩)
    refine ay (fun wz=>D wz (aa (w.heap.size+1) #[g j 0,g j 0,g j 0,g j 0] 75*(aa w.heap.size _ 81*cr w w.heap.size))∧G w wz) ⟨h2.set4 _ _ _ _,aj⟩ ?_;rintro wz ⟨hz,xz⟩;exact y (aR results163 rfl (br hz)) rfl ⟨by rw[hy.out];rfl,aA hz.right.right xz⟩
   |true=>
    have ha':0≤a∧a<4096:=by unfold cN at ha;simpa using ha
    obtain⟨a0,a1⟩:=ha';have hth:th=A:=by
     cases th with
     |true=>rfl
     |false=>
      have:=dy hc rfl;simp[En.zero] at this
    subst hth;have hl3:=((dB hc rfl).leaf rfl).1;have hl0:=hl.1;have hy:=n (show aK ⟨A,A,r,u,d,f⟩ l a=⟨a / bE l*bE l,l,f,r⟩ by unfold aK;rw[if_pos ⟨hc,rfl,a0,a1⟩]);rw[hc] at HC;rw[ha] at HH;clear hc ha hl;have hl:l=0∨l=1∨l=2:=by omega
    clear hl0 hl3;rcases hl with rfl|rfl|rfl
    ·skip
     have hq:=n (show IntKind.i64.wrap (IntKind.i64.wrap a)=a / bE 0*bE 0 by rw[show bE 0=1 from rfl];first|(simp only[B];omega)|(simp only[B,Int.tdiv_eq_ediv_of_nonneg a0];omega));have hs':=n (cD 0);rw[show bE 0=1 from rfl] at hs';have hr0:bX (a / 1*1):=⟨by omega,by omega⟩;go_enter func163,ntmps163;go_wp2_with fail
     refine(HC.out _).mono ?_;rintro e w2 ⟨rfl,bl⟩;have h2:=h1.below bl;have x2:=x1.below bl;obtain⟨c0,c1,c2,c3⟩:=h2.cells4;obtain⟨d0,d1,d2,d3,d4,d5⟩:=h2.right.cells6;obtain⟨f0,f1,f2,f3⟩:=h2.frees4;have l2:=h2.lt;go_wp2_with(first|(go_at_call 195;refine(HH.out _).mono ?_;rintro e w' ⟨rfl,rfl⟩)|(go_at_call 204;refine(dK _ _).mono ?_;rintro e w' ⟨rfl,rfl⟩)|(go_at_call 203;refine(hs'.out _).mono ?_;rintro e w' ⟨rfl,rfl⟩))
     go_region_held3 (fun w'=>w'.cell? (x w.heap.size 5 k)=o (g j f)∧w'.cell? (x w.heap.size 2 k)=o (g j r)) (go_keep) (first|(go_at_call 204;(with_reducible refine(dK _ _).mono ?_);rintro e w' ⟨rfl,rfl⟩))
     go_wp2;refine ay (fun wz=>D wz (aa (w.heap.size+1) #[g j (IntKind.i64.wrap (IntKind.i64.wrap a)),g j 0,g j f,g j r] 75*(aa w.heap.size #[z A,z A,g j r,z u,z d,g j f] 81*cr w w.heap.size))∧G w wz) ⟨(h2.set4 _ _ _ _).drew,aj⟩ ?_;rintro wz ⟨hz,xz⟩;exact y (aR results163 rfl (br hz)) rfl ⟨by rw[hy.out,←hq.out];rfl,aA hz.right.right xz⟩
    ·skip
     have hq:=n (show IntKind.i64.wrap (IntKind.i64.wrap (a.tdiv 8)*8)=a / bE 1*bE 1 by rw[show bE 1=8 from rfl];first|(simp only[B];omega)|(simp only[B,Int.tdiv_eq_ediv_of_nonneg a0];omega));have hs':=n (cD 1);rw[show bE 1=8 from rfl] at hs';have hr0:bX (a / 8*8):=⟨by omega,by omega⟩;go_enter func163,ntmps163;go_wp2_with fail
     refine(HC.out _).mono ?_;rintro e w2 ⟨rfl,bl⟩;have h2:=h1.below bl;have x2:=x1.below bl;obtain⟨c0,c1,c2,c3⟩:=h2.cells4;obtain⟨d0,d1,d2,d3,d4,d5⟩:=h2.right.cells6;obtain⟨f0,f1,f2,f3⟩:=h2.frees4;have l2:=h2.lt;go_wp2_with(first|(go_at_call 195;refine(HH.out _).mono ?_;rintro e w' ⟨rfl,rfl⟩)|(go_at_call 204;refine(dK _ _).mono ?_;rintro e w' ⟨rfl,rfl⟩)|(go_at_call 203;refine(hs'.out _).mono ?_;rintro e w' ⟨rfl,rfl⟩))
     go_region_held3 (fun w'=>w'.cell? (x w.heap.size 5 k)=o (g j f)∧w'.cell? (x w.heap.size 2 k)=o (g j r)) (go_keep) (first|(go_at_call 204;(with_reducible refine(dK _ _).mono ?_);rintro e w' ⟨rfl,rfl⟩))
     go_wp2;refine ay (fun wz=>D wz (aa (w.heap.size+1) #[g j (IntKind.i64.wrap (IntKind.i64.wrap (a.tdiv 8)*8)),g j 1,g j f,g j r] 75*(aa w.heap.size #[z A,z A,g j r,z u,z d,g j f] 81*cr w w.heap.size))∧G w wz) ⟨(h2.set4 _ _ _ _).drew,aj⟩ ?_;rintro wz ⟨hz,xz⟩;exact y (aR results163 rfl (br hz)) rfl ⟨by rw[hy.out,←hq.out];rfl,aA hz.right.right xz⟩
    ·skip
     have hq:=n (show IntKind.i64.wrap (IntKind.i64.wrap (a.tdiv 64)*64)=a / bE 2*bE 2 by rw[show bE 2=64 from rfl];first|(simp only[B];omega)|(simp only[B,Int.tdiv_eq_ediv_of_nonneg a0];omega));have hs':=n (cD 2);rw[show bE 2=64 from rfl] at hs';have hr0:bX (a / 64*64):=⟨by omega,by omega⟩;go_enter func163,ntmps163;go_wp2_with fail
     refine(HC.out _).mono ?_;rintro e w2 ⟨rfl,bl⟩;have h2:=h1.below bl;have x2:=x1.below bl;obtain⟨c0,c1,c2,c3⟩:=h2.cells4;obtain⟨d0,d1,d2,d3,d4,d5⟩:=h2.right.cells6;obtain⟨f0,f1,f2,f3⟩:=h2.frees4;have l2:=h2.lt;go_wp2_with(first|(go_at_call 195;refine(HH.out _).mono ?_;rintro e w' ⟨rfl,rfl⟩)|(go_at_call 204;refine(dK _ _).mono ?_;rintro e w' ⟨rfl,rfl⟩)|(go_at_call 203;refine(hs'.out _).mono ?_;rintro e w' ⟨rfl,rfl⟩))
     go_region_held3 (fun w'=>w'.cell? (x w.heap.size 5 k)=o (g j f)∧w'.cell? (x w.heap.size 2 k)=o (g j r)) (go_keep) (first|(go_at_call 204;(with_reducible refine(dK _ _).mono ?_);rintro e w' ⟨rfl,rfl⟩))
     go_wp2;refine ay (fun wz=>D wz (aa (w.heap.size+1) #[g j (IntKind.i64.wrap (IntKind.i64.wrap (a.tdiv 64)*64)),g j 2,g j f,g j r] 75*(aa w.heap.size #[z A,z A,g j r,z u,z d,g j f] 81*cr w w.heap.size))∧G w wz) ⟨(h2.set4 _ _ _ _).drew,aj⟩ ?_;rintro wz ⟨hz,xz⟩;exact y (aR results163 rfl (br hz)) rfl ⟨by rw[hy.out,←hq.out];rfl,aA hz.right.right xz⟩
 ·have hy:=n (jZ (e:=⟨th,leaf,r,u,d,f⟩) (l:=l) (a:=a) (.inl hc))
  have hn:(ao ⟨th,leaf,r,u,d,f⟩ l !=0)=A:=by simpa using hc
  clear hc;generalize ao ⟨th,leaf,r,u,d,f⟩ l=c at*
  go_enter func163,ntmps163;go_wp2_with fail
  refine(HC.out _).mono ?_;rintro e w2 ⟨rfl,bl⟩;have h2:=h1.below bl;have x2:=x1.below bl;obtain⟨c0,c1,c2,c3⟩:=h2.cells4;obtain⟨d0,d1,d2,d3,d4,d5⟩:=h2.right.cells6;obtain⟨f0,f1,f2,f3⟩:=h2.frees4;have l2:=h2.lt;go_wp2_with(go_at_call 195;refine(HH.out _).mono ?_;rintro e w' ⟨rfl,rfl⟩)
  refine ay (fun wz=>D wz (aa (w.heap.size+1) #[g j 0,g j 0,g j 0,g j 0] 75*(aa w.heap.size _ 81*cr w w.heap.size))∧G w wz) ⟨h2.set4 _ _ _ _,aj⟩ ?_;rintro wz ⟨hz,xz⟩;exact y (aR results163 rfl (br hz)) rfl ⟨by rw[hy.out];rfl,aA hz.right.right xz⟩
theorem oS(b:Nat)(root:Int)(c:H)(w:Int)(e:I)(R:ab)(W:C)(h:D W (aJ b root c w e*R)):
  E prog 219 #[.pointer (o (x b 0 k))] W (Pure (.agg #[z (b8 e c.a).there,z (b8 e c.a).leaf,g j (b8 e c.a).rights,z (b8 e c.a).used,z (b8 e c.a).dirty,g j (b8 e c.a).frame]) W):=by
 unfold aJ at h;obtain⟨th,lf,rg,us,di,fr⟩:=e;obtain⟨k0,k1,k2,k3,k4,k5,k6,k7,k8,k9,k10,k11,k12,k13⟩:=h.cells14;have kl:=h.lt;unfold b8;dsimp only;cases di with
 |true=>
  have hz0:=((bc W).new #[z th,z lf,g j rg,z A,z A,g j fr] 81).alloc (.cells #[z th,z lf,g j rg,z A,z A,g j fr] 81);clear h k0 k1 k2 k4 k5 k6 k7;go_enter func219,ntmps219;go_wp2;refine ay (fun wz=>D wz (aa W.heap.size #[z th,z lf,g j rg,z A,z A,g j fr] 81*(cr W W.heap.size))∧G W wz) ⟨hz0,aj⟩ ?_;rintro wz ⟨hz,xz⟩;exact y (aR results219 rfl (co hz)) rfl ⟨rfl,aA hz.right xz⟩
 |false=>
  have hz0:=((bc W).new #[z th,z lf,g j rg,z A,z (c.a.kind==1),g j fr] 81).alloc (.cells #[z th,z lf,g j rg,z A,z (c.a.kind==1),g j fr] 81);clear h k0 k1 k2 k4 k5 k6 k7;go_enter func219,ntmps219;go_wp2;refine ay (fun wz=>D wz (aa W.heap.size #[z th,z lf,g j rg,z A,z (c.a.kind==1),g j fr] 81*(cr W W.heap.size))∧G W wz) ⟨hz0,aj⟩ ?_;rintro wz ⟨hz,xz⟩;exact y (aR results219 rfl (co hz)) rfl ⟨rfl,aA hz.right xz⟩
theorem rB(th lf us di:Bool)(rg fr:Int)(X:C):(Instr.field 81 (.agg #[z th,z lf,g j rg,z us,z di,g j fr]) 4).run prog X= .ok (z di) X:=by kernel_rfl
theorem ni(p s f r:Int)(d:Bool)(X:C):(Instr.build 150 #[(0,.agg #[g j p,g j s,g j f,g j r]),(1,z d)]).run prog X= .ok (.agg #[g j p,g j s,g j f,g j r,z d]) X:=by kernel_rfl
theorem Good.const{md:Region.Mode}{ops:Array Oper}{i:Nat}{p:C→Prop}:Good md ops i (fun _ w=>p w):=⟨fun _ _ h=>h,fun _ _ _ _ _ _ _ _ _ _ h=>h⟩
set_option maxHeartbeats 4000000 in
theorem zx(b:Nat)(root:Int)(c:H)(w:Int)(e me:I)(m:Mp)(an:An)(HME:Hid (b8 e c.a=me))(HLM:Hid (aK e c.level c.a.page=m))(HAN:Hid (cv m ⟨c.a.page,c.a.kind,c.a.user⟩=an))(R:ab)(W:C)(h:D W (aJ b root c w e*R)):
  E prog 223 #[.pointer (o (x b 0 k))] W (cF (zy ⟨A,an,⟨m,me.dirty⟩⟩) (aJ b root c.idle w e*R) W):=by
 have h1:D (W.alloc (.cells #[z q,g j 0,g j 0,g j 0,g j 0,g j 0,g j 0,g j 0,z q] 274)) (aJ b root c w e*(aa W.heap.size #[z q,g j 0,g j 0,g j 0,g j 0,g j 0,g j 0,g j 0,z q] 274*R)):=(h.new #[z q,g j 0,g j 0,g j 0,g j 0,g j 0,g j 0,g j 0,z q] 274).p2;have x1:=(Ext.refl W).alloc (.cells #[z q,g j 0,g j 0,g j 0,g j 0,g j 0,g j 0,g j 0,z q] 274);have HE:=n (fun X=>kg e c.level c.a.page X);rw[HLM.out] at HE;have HM:=n (fun R X h=>oS b root c w e R X h);rw[HME.out] at HM;obtain⟨mt,ml,mr,mu,md,mf⟩:=me;dsimp only at HM⊢;have HN:=n (fun an ln R X h=>zw b root c w e an ln R X h);have HA:=n (fun X=>j6 m c.a.page c.a.kind c.a.user X);rw[HAN.out] at HA;go_enter func223,ntmps223;go_upto_region 1 with fail;generalize W.alloc _=W1 at*
 generalize W.heap.size=X1 at*
 clear h;have hb:=h1;unfold aJ at hb;obtain⟨k0,k1,k2,k3,k4,k5,k6,k7,k8,k9,k10,k11,k12,k13⟩:=hb.cells14;have kl:=hb.lt;clear hb;have HK:=n (fun(w':C) (P:ab) (h:D w' (aJ b root c w e*P))=>(by
  unfold aJ at h;obtain⟨k0,k1,k2,k3,k4,k5,k6,k7,k8,k9,k10,k11,k12,k13⟩:=h.cells14;exact⟨k2,k5,k8,k9,k10,k11,k12,k13⟩:(w'.cell? (x b 2 k)=o (g j c.a.page)∧w'.cell? (x b 5 k)=o (g j c.level)∧w'.cell? (x b 8 k)=o (z e.there)∧w'.cell? (x b 9 k)=o (z e.leaf)∧w'.cell? (x b 10 k)=o (g j e.rights)∧w'.cell? (x b 11 k)=o (z e.used)∧w'.cell? (x b 12 k)=o (z e.dirty)∧w'.cell? (x b 13 k)=o (g j e.frame))))
 clear k0 k1 k3 k4 k6 k7;go_cut [3] (fun s3 wx=>∃X:Nat,s3= .pointer (o (x X 0 k))∧D wx (aJ b root c w e*(aa X #[g j m.page,g j m.size,g j m.frame,g j m.rights] 75*(aa X1 #[z q,g j 0,g j 0,g j 0,g j 0,g j 0,g j 0,g j 0,z q] 274*R)))∧G W wx)
 case first=>
  go_region_held3 (fun w'=>(w'.cell? (x b 2 k)=o (g j c.a.page)∧w'.cell? (x b 5 k)=o (g j c.level)∧w'.cell? (x b 8 k)=o (z e.there)∧w'.cell? (x b 9 k)=o (z e.leaf)∧w'.cell? (x b 10 k)=o (g j e.rights)∧w'.cell? (x b 11 k)=o (z e.used)∧w'.cell? (x b 12 k)=o (z e.dirty)∧w'.cell? (x b 13 k)=o (g j e.frame))) (first|(with_reducible exact HK.out _ _ h2)|(with_reducible exact HK.out _ _ (h2.alloc _))|(with_reducible exact HK.out _ _ g2.right)|(with_reducible exact HK.out _ _ (h1.drew.alloc _))|(with_reducible exact HK.out _ _ (g2.set4 _ _ _ _).right)|go_keep) (first|(go_at_call 163;first|((with_reducible refine(HE.out _).mono ?_);rintro e2 w2 ⟨rfl,b2⟩;first|(have h2:=h1.drew.below b2;have x2:=x1.drew.below b2)|(have g2:D w2 (aa W1.heap.size #[g j 0,g j 0,g j 0,g j 0] 75*(aJ b root c w e*(aa X1 #[z q,g j 0,g j 0,g j 0,g j 0,g j 0,g j 0,g j 0,z q] 274*R))):=(h1.drew.new #[g j 0,g j 0,g j 0,g j 0] 75).below b2;have x2:=(x1.drew.alloc _).below b2;obtain⟨f0,f1,f2,f3⟩:=g2.frees4;obtain⟨d0,d1,d2,d3⟩:=g2.cells4;have dl:=g2.lt))))
  all_goals
   go_wp2_with fail
   go_meet
   case rel=>first|exact⟨_,rfl,(h2.new #[g j m.page,g j m.size,g j m.frame,g j m.rights] 75).p2,x2.alloc _⟩|exact⟨_,rfl,(g2.set4 _ _ _ _).p2,(((x2.set _ _).set _ _).set _ _).set _ _⟩
 case rest=>
  obtain⟨X,rfl,h2,x2⟩:=hcut;clear k2 k5 k8 k9 k10 k11 k12 k13 kl HK h1 x1 HE;have hb:=h2;unfold aJ at hb;obtain⟨k0,k1,k2,k3,k4,k5,k6,k7,k8,k9,k10,k11,k12,k13⟩:=hb.cells14;have kl:=hb.lt;clear hb k0 k1 k5 k6 k7 k8 k9 k10 k11 k12 k13;have cX:=h2.right.cells4;have lX:=h2.right.lt;have HKX:=n (fun(w':C) (P:ab) (h:D w' (aa X #[g j m.page,g j m.size,g j m.frame,g j m.rights] 75*P))=>h.cells4);have HKA:=n (fun(w':C) (P:ab) (h:D w' (aJ b root c w e*P))=>(by
   unfold aJ at h;exact⟨h.cell 2,h.cell 3,h.cell 4⟩:w'.cell? (x b 2 k)=o (g j c.a.page)∧w'.cell? (x b 3 k)=o (g j c.a.kind)∧w'.cell? (x b 4 k)=o (z c.a.user)))
  go_wp2_with fail
  refine kr (S:=fun L w'=>(w'.cell? (x X 0 k)=o (g j m.page)∧w'.cell? (x X 1 k)=o (g j m.size)∧w'.cell? (x X 2 k)=o (g j m.frame)∧w'.cell? (x X 3 k)=o (g j m.rights))∧Till 6 5 (fun w'=>w'.cell? (x b 2 k)=o (g j c.a.page)∧w'.cell? (x b 3 k)=o (g j c.a.kind)∧w'.cell? (x b 4 k)=o (z c.a.user)) L w') (by kernel_rfl) ⟨cX,Till.start ⟨k2,k3,k4⟩⟩ (fun hHeld=> ?_);refine aZ (i:=0) (v:= ?_) rfl (by kernel_rfl) (by kernel_rfl) (by kernel_rfl) (fun _ _ _ h=>h) (Good.and Good.const (Good.till (by decide) ⟨_,⟨5,.data⟩,rfl,by simp,rfl,rfl⟩)) (Or.inl ⟨by kernel_rfl,?_⟩) hHeld (fun hHeld=> ?_);rotate_left;focus (intro wS hSw;obtain⟨Lx,hLx,hs1,hs2⟩:=hSw;skip;go_simp;first|done|with_reducible rfl)
  try go_simp
  refine aZ (i:=1) (v:= ?_) rfl (by kernel_rfl) (by kernel_rfl) (by kernel_rfl) (fun _ _ _ h=>h) (Good.and Good.const (Good.till (by decide) ⟨_,⟨5,.data⟩,rfl,by simp,rfl,rfl⟩)) (Or.inl ⟨by kernel_rfl,?_⟩) hHeld (fun hHeld=> ?_);rotate_left;focus (intro wS hSw;obtain⟨Lx,hLx,hs1,hs2⟩:=hSw;obtain⟨s0,s1,s2,s3⟩:=hs1;go_simp;first|done|with_reducible rfl)
  try go_simp
  refine aZ (i:=2) (v:= ?_) rfl (by kernel_rfl) (by kernel_rfl) (by kernel_rfl) (fun _ _ _ h=>h) (Good.and Good.const (Good.till (by decide) ⟨_,⟨5,.data⟩,rfl,by simp,rfl,rfl⟩)) (Or.inl ⟨by kernel_rfl,?_⟩) hHeld (fun hHeld=> ?_);rotate_left;focus (intro wS hSw;obtain⟨Lx,hLx,hs1,hs2⟩:=hSw;skip;go_simp;first|done|with_reducible rfl)
  try go_simp
  refine aZ (i:=3) (v:= ?_) rfl (by kernel_rfl) (by kernel_rfl) (by kernel_rfl) (fun _ _ _ h=>h) (Good.and Good.const (Good.till (by decide) ⟨_,⟨5,.data⟩,rfl,by simp,rfl,rfl⟩)) (Or.inl ⟨by kernel_rfl,?_⟩) hHeld (fun hHeld=> ?_);rotate_left;focus (intro wS hSw;obtain⟨Lx,hLx,hs1,hs2⟩:=hSw;skip;go_simp;first|done|with_reducible rfl)
  try go_simp
  refine aZ (i:=4) (v:= ?_) rfl (by kernel_rfl) (by kernel_rfl) (by kernel_rfl) (fun _ _ _ h=>h) (Good.and Good.const (Good.till (by decide) ⟨_,⟨5,.data⟩,rfl,by simp,rfl,rfl⟩)) (Or.inl ⟨by kernel_rfl,?_⟩) hHeld (fun hHeld=> ?_);rotate_left;focus (intro wS hSw;obtain⟨Lx,hLx,hs1,hs2⟩:=hSw;skip;go_simp;first|done|with_reducible rfl)
  try go_simp
  refine aZ (i:=5) (v:= ?_) rfl (by kernel_rfl) (by kernel_rfl) (by kernel_rfl) (fun _ _ _ h=>h) (Good.and Good.const (Good.till (by decide) ⟨_,⟨5,.data⟩,rfl,by simp,rfl,rfl⟩)) (Or.inl ⟨by kernel_rfl,?_⟩) hHeld (fun hHeld=> ?_);rotate_left;focus (intro wS hSw;obtain⟨Lx,hLx,hs1,hs2⟩:=hSw;obtain⟨s0,s1,s2⟩:=hs2.still hLx;go_simp;first|done|with_reducible rfl)
  try go_simp
  refine aZ (i:=7) (v:= ?_) rfl (by kernel_rfl) (by kernel_rfl) (by kernel_rfl) (fun _ _ _ h=>h) (Good.and Good.const (Good.till (by decide) ⟨_,⟨5,.data⟩,rfl,by simp,rfl,rfl⟩)) (Or.inl ⟨by kernel_rfl,?_⟩) hHeld (fun hHeld=> ?_);rotate_left;focus (intro wS hSw;obtain⟨Lx,hLx,hs1,hs2⟩:=hSw;obtain⟨s0,s1,s2,s3⟩:=hs1;go_simp;first|done|with_reducible rfl)
  try go_simp
  refine aZ (i:=8) (v:= ?_) rfl (by kernel_rfl) (by kernel_rfl) (by kernel_rfl) (fun _ _ _ h=>h) (Good.and Good.const (Good.till (by decide) ⟨_,⟨5,.data⟩,rfl,by simp,rfl,rfl⟩)) (Or.inl ⟨by kernel_rfl,?_⟩) hHeld (fun hHeld=> ?_);rotate_left;focus (intro wS hSw;obtain⟨Lx,hLx,hs1,hs2⟩:=hSw;skip;go_simp;first|done|with_reducible rfl)
  try go_simp
  refine aY (rs:=[6]) (by kernel_rfl) (by simp) ?_;refine OneOf.cons rfl (fun K hK=> ?_) OneOf.nil;go_simp;go_wp2_with(refine(HA.out _).mono ?_;rintro e2 w5 ⟨rfl,b5⟩)
  have h5:=h2.drew.below b5;have x5:=x2.drew.below b5;refine hK.out _ _ ⟨HKX.out _ _ h5.right,⟨fun _=>by kernel_rfl,fun h=>aU (by kernel_rfl) h⟩⟩ (fun hHeld=> ?_);clear hK K;refine aY (rs:=[9]) (by kernel_rfl) (by simp) ?_;refine OneOf.cons rfl (fun K hK=> ?_) OneOf.nil;go_simp;go_wp2_with(refine(HM.out _ _ h5).mono ?_;rintro e2 w6 ⟨rfl,b6⟩)
  have h6:=h5.below b6;have x6:=x5.below b6;refine hK.out _ _ ⟨HKX.out _ _ h6.right,⟨fun _=>by kernel_rfl,fun h=>aU (by kernel_rfl) h⟩⟩ (fun hHeld=> ?_);clear hK K;have hfl:=fun X=>rB mt ml mu md mr mf X;refine aY (rs:=[10]) (by kernel_rfl) (by simp) ?_;refine OneOf.cons rfl (fun K hK=> ?_) OneOf.nil;go_simp;refine hK.out _ _ ⟨HKX.out _ _ h6.right,⟨fun _=>by kernel_rfl,fun h=>aU (by kernel_rfl) h⟩⟩ (fun hHeld=> ?_);clear hK K;have hbl:=fun X=>ni m.page m.size m.frame m.rights md X;refine aY (rs:=[11]) (by kernel_rfl) (by simp) ?_;refine OneOf.cons rfl (fun K hK=> ?_) OneOf.nil;go_simp;refine hK.out _ _ ⟨HKX.out _ _ h6.right,⟨fun _=>by kernel_rfl,fun h=>aU (by kernel_rfl) h⟩⟩ (fun hHeld=> ?_);clear hK K;refine aY (rs:=[12]) (by kernel_rfl) (by simp) ?_;refine OneOf.cons rfl (fun K hK=> ?_) OneOf.nil;go_simp;go_wp2_with(refine(HN.out an ⟨m,md⟩ _ _ h6).mono ?_;rintro e2 w7 ⟨rfl,h7,x7⟩)
  have x8:=x6.trans x7;refine hK.out _ _ ⟨HKX.out _ _ h7.right,⟨fun _=>by kernel_rfl,fun h=>aU (by kernel_rfl) h⟩⟩ (fun hHeld=> ?_);clear hK K;have h8:=h7.right.right;have r0:=h8.free 0;have r1:=h8.free 1;have r2:=h8.free 2;have r3:=h8.free 3;have r4:=h8.free 4;have r5:=h8.free 5;have r6:=h8.free 6;have r7:=h8.free 7;have r8:=h8.free 8;have rl:=h8.lt;obtain⟨s0,s1,s2,s3,s4,s5,s6,s7,s8⟩:=h8.cells9;have h9:D w7 (aa X1 #[z q,g j 0,g j 0,g j 0,g j 0,g j 0,g j 0,g j 0,z q] 274*(aJ b root c.idle w e*(aa X #[g j m.page,g j m.size,g j m.frame,g j m.rights] 75*R))):=h7.eq (by ac_rfl);have h9x:D w7 (aa X1 #[z q,g j 0,g j 0,g j 0,g j 0,g j 0,g j 0,g j 0,z q] 274*(aa X #[g j m.page,g j m.size,g j m.frame,g j m.rights] 75*(aJ b root c.idle w e*R))):=h7.eq (by ac_rfl);have hfin:=(((((((((h9.set 0 (z A)).set 1 (g j an.fin)).set 2 (g j an.frame)).set 3 (g j an.rights)).set 4 (g j m.page)).set 5 (g j m.size)).set 6 (g j m.frame)).set 7 (g j m.rights)).set 8 (z md));have hfinX:D _ (aa X #[g j m.page,g j m.size,g j m.frame,g j m.rights] 75*_):=(((((((((h9x.set 0 (z A)).set 1 (g j an.fin)).set 2 (g j an.frame)).set 3 (g j an.rights)).set 4 (g j m.page)).set 5 (g j m.size)).set 6 (g j m.frame)).set 7 (g j m.rights)).set 8 (z md)).p2;refine aY (rs:=[13]) (by kernel_rfl) (by simp) ?_;refine OneOf.cons rfl (fun K hK=> ?_) OneOf.nil;go_simp;refine hK.out _ _ ⟨HKX.out _ _ hfinX,⟨fun _=>by kernel_rfl,fun h=>aU (by kernel_rfl) h⟩⟩ (fun hHeld=> ?_);clear hK K;refine gp (by kernel_rfl) ?_;clear hHeld hfinX;go_wp2_with fail
  refine ay (fun wz=>D wz (aa X1 #[z A,g j an.fin,g j an.frame,g j an.rights,g j m.page,g j m.size,g j m.frame,g j m.rights,z md] 274*(aJ b root c.idle w e*(aa X #[g j m.page,g j m.size,g j m.frame,g j m.rights] 75*R)))∧G W wz) ⟨hfin,aj⟩ ?_;rintro wz ⟨hz,xz⟩;exact y (aR results223 rfl (b9 hz)) rfl ⟨rfl,hz.right.p2.right,xz⟩
theorem yo(b:Nat)(root:Int)(c:H)(w:Int)(e:I)(R:ab)(W:C)(h:D W (aJ b root c w e*R)):
  E prog 223 #[.pointer (o (x b 0 k))] W (cF (zy ⟨A,cv (aK e c.level c.a.page) c.a,⟨aK e c.level c.a.page,(b8 e c.a).dirty⟩⟩) (aJ b root c.idle w e*R) W):=
 zx b root c w e _ _ _ (n rfl) (n rfl) (n rfl) R W h
end Go.Proofs.YtmfheghbgihdmaaGreatDoor
